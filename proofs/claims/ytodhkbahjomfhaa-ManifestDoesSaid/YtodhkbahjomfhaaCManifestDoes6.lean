/- Versions, sizes, changes and what is restored are as the reference says, or the error: for all arguments. -/
import Derived.Test.YtodhkbahjomfhaaCManifestDoes3
import Derived.Test.YtodhkbahjomfhaaCManifestDoes5
import Derived.Test.YtodhkbahjomfhaaCManifestDoes4
import Derived.Lib.Hide
import Derived.WalkArith
import Derived.Laws.BitsLemmas
import Derived.OpenShut
namespace Go.Proofs.Ytodhkbahjomfhaa.Q
open Go.RowKit Go.Proofs.YtodhkbahjomfhaaW.PrintWords Go.Proofs.YtodhkbahjomfhaaW.PrintLast Go.Proofs.YtodhkbahjomfhaaW.PrintMore Go.Proofs.Ytodhkbahjomfhaa.Gput Go.Proofs.Ytodhkbahjomfhaa.Gputl
attribute [local go_sem] max2_int min2_int max_two min_two max_three min_three max_four min_four   -- for this text's walks alone
set_option linter.unusedVariables false
set_option linter.unusedSimpArgs false
noncomputable def storagebarterref08_Same.f (k : Nat) (a0_0 : Int) (l0_1 : List (S78)) (a1_0 : Int) (l1_1 : List (S78)) : Option (Bool) := if a0_0 = a1_0 then ((storagebarterref08_SameNames.f k l0_1 l1_1).bind fun t606 => (some t606)) else (some false)
set_option maxHeartbeats 8000000 in
set_option maxRecDepth 100000 in
theorem storagebarterref08_Same.calls (k : Nat) (a0_0 : Int) (A0_1 : Option Addr) (c0_1 : Nat) (l0_1 : List (S78)) (a1_0 : Int) (A1_1 : Option Addr) (c1_1 : Nat) (l1_1 : List (S78)) (r : Bool) (w : World) (hr0_1 : Kd.C k78 w A0_1 l0_1.length l0_1) (hc0_1 : l0_1.length ≤ c0_1) (hr1_1 : Kd.C k78 w A1_1 l1_1.length l1_1) (hc1_1 : l1_1.length ≤ c1_1) (h : storagebarterref08_Same.f k a0_0 l0_1 a1_0 l1_1 = some r) :
 Calls Try.prog 37 #[.agg #[.int .i64 a0_0, .slice A0_1 l0_1.length c0_1], .agg #[.int .i64 a1_0, .slice A1_1 l1_1.length c1_1]] w fun e w' => e = .returned (.bool r) ∧ Below w.heap.size w w' := by
 have hu32 := Try.underlying32
 have HR0_1 := Aside0.mk hr0_1
 have HC0_1 := Aside0.mk hc0_1
 clear hr0_1 hc0_1
 have HR1_1 := Aside0.mk hr1_1
 have HC1_1 := Aside0.mk hc1_1
 clear hr1_1 hc1_1
 have HB := Aside0.mk (Below.refl w.heap.size w)
 have H : (if a0_0 = a1_0 then ((storagebarterref08_SameNames.f k l0_1 l1_1).bind fun t606 => (some t606)) else (some false)) = some r := h
 clear h
 by_cases c3 : a0_0 = a1_0
 ·rw [if_pos c3] at H
  have c3b0 : (a0_0 == a1_0) = true := beq_iff_eq.mpr c3
  have c3b1 : (a0_0 != a1_0) = false := bne_eq_false_iff_eq.mpr c3
  clear c3
  replace H := Option.bind_eq_some_iff.mp H
  obtain ⟨t606, A40, H⟩ := H
  replace H : (some t606) = some r := H
  have A4 := Aside0.mk A40
  clear A40
  obtain rfl := Option.some.inj H
  go_enter Try.func37, Try.ntmps37
  go_wp2_with (first | ((with_reducible refine gate_dst (N := 2) rfl ?_); refine box_event ?hg (N := 2) ?hd (cs := #[.int .i64 a0_0, .slice A0_1 l0_1.length c0_1]) (t := 32) ?hr ?_; (case hd => rfl); (case hg => rfl); (case hr => first | (go_simp; done) | (go_simp; rfl)); intro gb604 hg w5 hbox hb; have n0_ := Aside0.mk (below_step (by repeat (first | (with_reducible first | exact HB.out | apply below_alloc | apply pw_below_drewN | apply below_drew1) | exact HB.out)) hb); have n1_ := Aside0.mk (hbox); have n2_ := Aside0.mk ((by rw [hg]; exact (below_size (by repeat (first | (with_reducible first | exact HB.out | apply below_alloc | apply pw_below_drewN | apply below_drew1) | exact HB.out))) : w.heap.size ≤ gb604)); have n3_ := Aside0.mk ((by rw [hg]; exact (below_size (by repeat (first | (with_reducible first | exact HB.out | apply below_alloc | apply pw_below_drewN | apply below_drew1) | exact HB.out))) : w.heap.size ≤ gb604)); clear HB; have HB := n0_; have BK604 := n1_; have GW604 := n2_; have GE604 := n3_; clear n0_ n1_ n2_ n3_; clear hb hbox hg) | ((with_reducible refine gate_dst (N := 3) rfl ?_); refine box_event ?hg (N := 3) ?hd (cs := #[.int .i64 a1_0, .slice A1_1 l1_1.length c1_1]) (t := 32) ?hr ?_; (case hd => rfl); (case hg => rfl); (case hr => first | (go_simp; done) | (go_simp; rfl)); intro gb605 hg w6 hbox hb; have n0_ := Aside0.mk (blk_below (g := gb604) (o := .cells #[.int .i64 a0_0, .slice A0_1 l0_1.length c0_1] 32 (0, 0)) (by (with_reducible repeat (first | refine blk_drewN ?_ _ | refine blk_drew ?_ | refine blk_alloc ?_ _)); exact BK604.out) hb); have n1_ := Aside0.mk (below_step (by repeat (first | (with_reducible first | exact HB.out | apply below_alloc | apply pw_below_drewN | apply below_drew1 | refine below_set ?_ GE604.out) | exact HB.out)) hb); have n2_ := Aside0.mk (hbox); have n3_ := Aside0.mk ((by rw [hg]; exact (below_size (by repeat (first | (with_reducible first | exact HB.out | apply below_alloc | apply pw_below_drewN | apply below_drew1 | refine below_set ?_ GE604.out) | exact HB.out))) : w.heap.size ≤ gb605)); have n4_ := Aside0.mk ((by rw [hg]; exact (below_size (by repeat (first | (with_reducible first | exact HB.out | apply below_alloc | apply pw_below_drewN | apply below_drew1 | refine below_set ?_ GE604.out) | exact HB.out))) : w.heap.size ≤ gb605)); have n5_ := Aside0.mk ((by rw [hg]; exact Nat.ne_of_lt (blk_lt (g := gb604) (o := .cells #[.int .i64 a0_0, .slice A0_1 l0_1.length c0_1] 32 (0, 0)) (by (with_reducible repeat (first | refine blk_drewN ?_ _ | refine blk_drew ?_ | refine blk_alloc ?_ _)); exact BK604.out)) : gb604 ≠ gb605)); have n6_ := Aside0.mk ((by rw [hg]; exact Nat.ne_of_gt (blk_lt (g := gb604) (o := .cells #[.int .i64 a0_0, .slice A0_1 l0_1.length c0_1] 32 (0, 0)) (by (with_reducible repeat (first | refine blk_drewN ?_ _ | refine blk_drew ?_ | refine blk_alloc ?_ _)); exact BK604.out)) : gb605 ≠ gb604)); clear BK604; clear HB; have BK604 := n0_; have HB := n1_; have BK605 := n2_; have GW605 := n3_; have GE605 := n4_; have NB604_605 := n5_; have NB605_604 := n6_; clear n0_ n1_ n2_ n3_ n4_ n5_ n6_; clear hb hbox hg; have hnb7 := NB604_605.out; have hnc7 := NB605_604.out; have hcz8_0 : w6.cell? ⟨gb604, 0, none⟩ = some (.int .i64 a0_0) := (blk_cell BK604.out 0).trans rfl; have hcz8_1 : w6.cell? ⟨gb604, 1, none⟩ = some (.slice A0_1 l0_1.length c0_1) := (blk_cell BK604.out 1).trans rfl; have hfz8_0 := blk_frozen BK604.out 0; have hfz8_1 := blk_frozen BK604.out 1; have hcz9_0 : w6.cell? ⟨gb605, 0, none⟩ = some (.int .i64 a1_0) := (blk_cell BK605.out 0).trans rfl; have hcz9_1 : w6.cell? ⟨gb605, 1, none⟩ = some (.slice A1_1 l1_1.length c1_1) := (blk_cell BK605.out 1).trans rfl; have hfz9_0 := blk_frozen BK605.out 0; have hfz9_1 := blk_frozen BK605.out 1) | (go_at_call 48; (with_reducible refine (storagebarterref08_SameNames.calls k _ _ l0_1 _ _ l1_1 t606 _ ?side1 ?side2 ?side3 ?side4 A4.out).mono ?_); (case side1 => repeat (first | exact (Kd.C_below HR0_1.out HB.out) | (with_reducible refine Kd.C_alloc ?_ _) | (with_reducible refine Kd.C_drewN ?_ _) | (with_reducible refine Kd.C_drew ?_))); (case side2 => exact HC0_1.out); (case side3 => repeat (first | exact (Kd.C_below HR1_1.out HB.out) | (with_reducible refine Kd.C_alloc ?_ _) | (with_reducible refine Kd.C_drewN ?_ _) | (with_reducible refine Kd.C_drew ?_))); (case side4 => exact HC1_1.out); rintro e w' ⟨rfl, ⟨nd, rfl⟩⟩))
  go_ret
  exact ⟨by first | rfl | (simp [errW_none, errW_some] <;> rfl) | (simp [*, errW_none, errW_some] <;> rfl), by repeat (first | (with_reducible first | exact HB.out | apply below_alloc | apply pw_below_drewN | apply below_drew1 | refine below_set ?_ GE604.out | refine below_set ?_ GE605.out) | exact HB.out)⟩
 ·rw [if_neg c3] at H
  have c3b0 : (a0_0 == a1_0) = false := beq_eq_false_iff_ne.mpr c3
  have c3b1 : (a0_0 != a1_0) = true := bne_iff_ne.mpr c3
  obtain rfl := Option.some.inj H
  go_enter Try.func37, Try.ntmps37
  go_wp2_with (first | ((with_reducible refine gate_dst (N := 2) rfl ?_); refine box_event ?hg (N := 2) ?hd (cs := #[.int .i64 a0_0, .slice A0_1 l0_1.length c0_1]) (t := 32) ?hr ?_; (case hd => rfl); (case hg => rfl); (case hr => first | (go_simp; done) | (go_simp; rfl)); intro gb604 hg w10 hbox hb; have n0_ := Aside0.mk (below_step (by repeat (first | (with_reducible first | exact HB.out | apply below_alloc | apply pw_below_drewN | apply below_drew1) | exact HB.out)) hb); have n1_ := Aside0.mk (hbox); have n2_ := Aside0.mk ((by rw [hg]; exact (below_size (by repeat (first | (with_reducible first | exact HB.out | apply below_alloc | apply pw_below_drewN | apply below_drew1) | exact HB.out))) : w.heap.size ≤ gb604)); have n3_ := Aside0.mk ((by rw [hg]; exact (below_size (by repeat (first | (with_reducible first | exact HB.out | apply below_alloc | apply pw_below_drewN | apply below_drew1) | exact HB.out))) : w.heap.size ≤ gb604)); clear HB; have HB := n0_; have BK604 := n1_; have GW604 := n2_; have GE604 := n3_; clear n0_ n1_ n2_ n3_; clear hb hbox hg) | ((with_reducible refine gate_dst (N := 3) rfl ?_); refine box_event ?hg (N := 3) ?hd (cs := #[.int .i64 a1_0, .slice A1_1 l1_1.length c1_1]) (t := 32) ?hr ?_; (case hd => rfl); (case hg => rfl); (case hr => first | (go_simp; done) | (go_simp; rfl)); intro gb605 hg w11 hbox hb; have n0_ := Aside0.mk (blk_below (g := gb604) (o := .cells #[.int .i64 a0_0, .slice A0_1 l0_1.length c0_1] 32 (0, 0)) (by (with_reducible repeat (first | refine blk_drewN ?_ _ | refine blk_drew ?_ | refine blk_alloc ?_ _)); exact BK604.out) hb); have n1_ := Aside0.mk (below_step (by repeat (first | (with_reducible first | exact HB.out | apply below_alloc | apply pw_below_drewN | apply below_drew1 | refine below_set ?_ GE604.out) | exact HB.out)) hb); have n2_ := Aside0.mk (hbox); have n3_ := Aside0.mk ((by rw [hg]; exact (below_size (by repeat (first | (with_reducible first | exact HB.out | apply below_alloc | apply pw_below_drewN | apply below_drew1 | refine below_set ?_ GE604.out) | exact HB.out))) : w.heap.size ≤ gb605)); have n4_ := Aside0.mk ((by rw [hg]; exact (below_size (by repeat (first | (with_reducible first | exact HB.out | apply below_alloc | apply pw_below_drewN | apply below_drew1 | refine below_set ?_ GE604.out) | exact HB.out))) : w.heap.size ≤ gb605)); have n5_ := Aside0.mk ((by rw [hg]; exact Nat.ne_of_lt (blk_lt (g := gb604) (o := .cells #[.int .i64 a0_0, .slice A0_1 l0_1.length c0_1] 32 (0, 0)) (by (with_reducible repeat (first | refine blk_drewN ?_ _ | refine blk_drew ?_ | refine blk_alloc ?_ _)); exact BK604.out)) : gb604 ≠ gb605)); have n6_ := Aside0.mk ((by rw [hg]; exact Nat.ne_of_gt (blk_lt (g := gb604) (o := .cells #[.int .i64 a0_0, .slice A0_1 l0_1.length c0_1] 32 (0, 0)) (by (with_reducible repeat (first | refine blk_drewN ?_ _ | refine blk_drew ?_ | refine blk_alloc ?_ _)); exact BK604.out)) : gb605 ≠ gb604)); clear BK604; clear HB; have BK604 := n0_; have HB := n1_; have BK605 := n2_; have GW605 := n3_; have GE605 := n4_; have NB604_605 := n5_; have NB605_604 := n6_; clear n0_ n1_ n2_ n3_ n4_ n5_ n6_; clear hb hbox hg; have hnb12 := NB604_605.out; have hnc12 := NB605_604.out; have hcz13_0 : w11.cell? ⟨gb604, 0, none⟩ = some (.int .i64 a0_0) := (blk_cell BK604.out 0).trans rfl; have hcz13_1 : w11.cell? ⟨gb604, 1, none⟩ = some (.slice A0_1 l0_1.length c0_1) := (blk_cell BK604.out 1).trans rfl; have hfz13_0 := blk_frozen BK604.out 0; have hfz13_1 := blk_frozen BK604.out 1; have hcz14_0 : w11.cell? ⟨gb605, 0, none⟩ = some (.int .i64 a1_0) := (blk_cell BK605.out 0).trans rfl; have hcz14_1 : w11.cell? ⟨gb605, 1, none⟩ = some (.slice A1_1 l1_1.length c1_1) := (blk_cell BK605.out 1).trans rfl; have hfz14_0 := blk_frozen BK605.out 0; have hfz14_1 := blk_frozen BK605.out 1))
  go_ret
  exact ⟨by first | rfl | (simp [errW_none, errW_some] <;> rfl) | (simp [*, errW_none, errW_some] <;> rfl), by repeat (first | (with_reducible first | exact HB.out | apply below_alloc | apply pw_below_drewN | apply below_drew1 | refine below_set ?_ GE604.out | refine below_set ?_ GE605.out) | exact HB.out)⟩
end Go.Proofs.Ytodhkbahjomfhaa.Q

namespace Go.Proofs.Ytodhkbahjomfhaa.Q
open Go.RowKit Go.Proofs.YtodhkbahjomfhaaW.PrintWords Go.Proofs.YtodhkbahjomfhaaW.PrintLast Go.Proofs.YtodhkbahjomfhaaW.PrintMore Go.Proofs.Ytodhkbahjomfhaa.Gput Go.Proofs.Ytodhkbahjomfhaa.Gputl
attribute [local go_sem] max2_int min2_int max_two min_two max_three min_three max_four min_four   -- for this text's walks alone
set_option linter.unusedVariables false
set_option linter.unusedSimpArgs false
noncomputable def manifest_Change.f (k : Nat) (a0_0 : Int) (l0_1 : List (S78)) (a1_0 : Int) (l1_1 : List (S78)) : Option ((List (S78)) × (List (S78)) × Int) := (manifest_Check.f k a0_0 l0_1).bind fun t724 => (if t724 = 0 then ((manifest_Check.f k a1_0 l1_1).bind fun t725 => (if t725 = 0 then ((manifest_without.f l1_1 l0_1).bind fun t726 => ((manifest_without.f l0_1 l1_1).bind fun t729 => (some (t726, t729, 0)))) else (some (([] : List (S78)), ([] : List (S78)), t725)))) else (some (([] : List (S78)), ([] : List (S78)), t724)))
noncomputable def manifest_Change.T7 : Bool × List (List Nat × List Nat) := (true, [([], []), ([0], [0]), ([], []), ([2], [2]), ([1, 3], [1, 3]), ([], []), ([5], [5]), ([], []), ([7], [7]), ([6, 8, 4], [6, 8]), ([4, 9, 0, 1, 2, 3, 4], [4]), ([9, 10, 0, 1, 2, 3, 4, 5, 6, 7, 8, 9, 10], [9]), ([11, 0, 1, 2, 3, 4, 5, 6, 7, 8, 9, 10, 11], [])])
noncomputable def manifest_Change.B7 : List Nat := [0, 1, 0, 4, 15, 0, 32, 0, 128, 511, 1023, 2047, 4095]
theorem manifest_Change.tab7 : rtab .any (opsOf Try.f47 7) = manifest_Change.T7 := by kernel_rfl
theorem manifest_Change.bits7 : waitsOk manifest_Change.T7.2 manifest_Change.B7 = true := by kernel_rfl
set_option maxHeartbeats 8000000 in
set_option maxRecDepth 100000 in
theorem manifest_Change.calls (k : Nat) (a0_0 : Int) (A0_1 : Option Addr) (c0_1 : Nat) (l0_1 : List (S78)) (a1_0 : Int) (A1_1 : Option Addr) (c1_1 : Nat) (l1_1 : List (S78)) (r1 : List (S78)) (r2 : List (S78)) (r3 : Int) (w : World) (hr0_1 : Kd.C k78 w A0_1 l0_1.length l0_1) (hc0_1 : l0_1.length ≤ c0_1) (hr1_1 : Kd.C k78 w A1_1 l1_1.length l1_1) (hc1_1 : l1_1.length ≤ c1_1) (h : manifest_Change.f k a0_0 l0_1 a1_0 l1_1 = some (r1, r2, r3)) :
 Calls Try.prog 47 #[.agg #[.int .i64 a0_0, .slice A0_1 l0_1.length c0_1], .agg #[.int .i64 a1_0, .slice A1_1 l1_1.length c1_1]] w fun e w' => ∃ v0_ v1_ : Value, e = .returned (.tuple #[v0_, v1_, .int .i64 r3]) ∧ Kd.R k78 78 w' w.heap.size (fun k_ => some k_ ≠ (v1_ : Value).ownBlock) v0_ r1 ∧ Kd.R k78 78 w' w.heap.size (fun k_ => some k_ ≠ (v0_ : Value).ownBlock) v1_ r2 ∧ Below w.heap.size w w' := by
 have hu32 := Try.underlying32
 have HR0_1 := Aside0.mk hr0_1
 have HC0_1 := Aside0.mk hc0_1
 clear hr0_1 hc0_1
 have HR1_1 := Aside0.mk hr1_1
 have HC1_1 := Aside0.mk hc1_1
 clear hr1_1 hc1_1
 have HB := Aside0.mk (Below.refl w.heap.size w)
 have H : ((manifest_Check.f k a0_0 l0_1).bind fun t724 => (if t724 = 0 then ((manifest_Check.f k a1_0 l1_1).bind fun t725 => (if t725 = 0 then ((manifest_without.f l1_1 l0_1).bind fun t726 => ((manifest_without.f l0_1 l1_1).bind fun t729 => (some (t726, t729, 0)))) else (some (([] : List (S78)), ([] : List (S78)), t725)))) else (some (([] : List (S78)), ([] : List (S78)), t724)))) = some (r1, r2, r3) := h
 clear h
 replace H := Option.bind_eq_some_iff.mp H
 obtain ⟨t724, A30, H⟩ := H
 replace H : (if t724 = 0 then ((manifest_Check.f k a1_0 l1_1).bind fun t725 => (if t725 = 0 then ((manifest_without.f l1_1 l0_1).bind fun t726 => ((manifest_without.f l0_1 l1_1).bind fun t729 => (some (t726, t729, 0)))) else (some (([] : List (S78)), ([] : List (S78)), t725)))) else (some (([] : List (S78)), ([] : List (S78)), t724))) = some (r1, r2, r3) := H
 have A3 := Aside0.mk A30
 clear A30
 by_cases c4 : t724 = 0
 ·rw [if_pos c4] at H
  have c4b0 : (t724 == 0) = true := beq_iff_eq.mpr c4
  have c4b1 : (t724 != 0) = false := bne_eq_false_iff_eq.mpr c4
  clear c4
  replace H := Option.bind_eq_some_iff.mp H
  obtain ⟨t725, A50, H⟩ := H
  replace H : (if t725 = 0 then ((manifest_without.f l1_1 l0_1).bind fun t726 => ((manifest_without.f l0_1 l1_1).bind fun t729 => (some (t726, t729, 0)))) else (some (([] : List (S78)), ([] : List (S78)), t725))) = some (r1, r2, r3) := H
  have A5 := Aside0.mk A50
  clear A50
  by_cases c6 : t725 = 0
  ·rw [if_pos c6] at H
   have c6b0 : (t725 == 0) = true := beq_iff_eq.mpr c6
   have c6b1 : (t725 != 0) = false := bne_eq_false_iff_eq.mpr c6
   clear c6
   replace H := Option.bind_eq_some_iff.mp H
   obtain ⟨t726, A70, H⟩ := H
   replace H : ((manifest_without.f l0_1 l1_1).bind fun t729 => (some (t726, t729, 0))) = some (r1, r2, r3) := H
   have A7 := Aside0.mk A70
   clear A70
   replace H := Option.bind_eq_some_iff.mp H
   obtain ⟨t729, A80, H⟩ := H
   replace H : (some (t726, t729, 0)) = some (r1, r2, r3) := H
   have A8 := Aside0.mk A80
   clear A80
   simp only [Option.some.injEq, Prod.mk.injEq] at H
   obtain ⟨rfl, rfl, rfl⟩ := H
   go_enter Try.func47, Try.ntmps47
   try go_wp2_with (first | ((with_reducible refine gate_dst (N := 2) rfl ?_); refine box_event ?hg (N := 2) ?hd (cs := #[.int .i64 a0_0, .slice A0_1 l0_1.length c0_1]) (t := 32) ?hr ?_; (case hd => rfl); (case hg => rfl); (case hr => first | (go_simp; done) | (go_simp; rfl)); intro gb722 hg w9 hbox hb; have n0_ := Aside0.mk (below_step (by repeat (first | (with_reducible first | exact HB.out | apply below_alloc | apply pw_below_drewN | apply below_drew1) | exact HB.out)) hb); have n1_ := Aside0.mk (hbox); have n2_ := Aside0.mk ((by rw [hg]; exact (below_size (by repeat (first | (with_reducible first | exact HB.out | apply below_alloc | apply pw_below_drewN | apply below_drew1) | exact HB.out))) : w.heap.size ≤ gb722)); have n3_ := Aside0.mk ((by rw [hg]; exact (below_size (by repeat (first | (with_reducible first | exact HB.out | apply below_alloc | apply pw_below_drewN | apply below_drew1) | exact HB.out))) : w.heap.size ≤ gb722)); clear HB; have HB := n0_; have BK722 := n1_; have GW722 := n2_; have GE722 := n3_; clear n0_ n1_ n2_ n3_; clear hb hbox hg) | ((with_reducible refine gate_dst (N := 3) rfl ?_); refine box_event ?hg (N := 3) ?hd (cs := #[.int .i64 a1_0, .slice A1_1 l1_1.length c1_1]) (t := 32) ?hr ?_; (case hd => rfl); (case hg => rfl); (case hr => first | (go_simp; done) | (go_simp; rfl)); intro gb723 hg w10 hbox hb; have n0_ := Aside0.mk (blk_below (g := gb722) (o := .cells #[.int .i64 a0_0, .slice A0_1 l0_1.length c0_1] 32 (0, 0)) (by (with_reducible repeat (first | refine blk_drewN ?_ _ | refine blk_drew ?_ | refine blk_alloc ?_ _)); exact BK722.out) hb); have n1_ := Aside0.mk (below_step (by repeat (first | (with_reducible first | exact HB.out | apply below_alloc | apply pw_below_drewN | apply below_drew1 | refine below_set ?_ GE722.out) | exact HB.out)) hb); have n2_ := Aside0.mk (hbox); have n3_ := Aside0.mk ((by rw [hg]; exact (below_size (by repeat (first | (with_reducible first | exact HB.out | apply below_alloc | apply pw_below_drewN | apply below_drew1 | refine below_set ?_ GE722.out) | exact HB.out))) : w.heap.size ≤ gb723)); have n4_ := Aside0.mk ((by rw [hg]; exact (below_size (by repeat (first | (with_reducible first | exact HB.out | apply below_alloc | apply pw_below_drewN | apply below_drew1 | refine below_set ?_ GE722.out) | exact HB.out))) : w.heap.size ≤ gb723)); have n5_ := Aside0.mk ((by rw [hg]; exact Nat.ne_of_lt (blk_lt (g := gb722) (o := .cells #[.int .i64 a0_0, .slice A0_1 l0_1.length c0_1] 32 (0, 0)) (by (with_reducible repeat (first | refine blk_drewN ?_ _ | refine blk_drew ?_ | refine blk_alloc ?_ _)); exact BK722.out)) : gb722 ≠ gb723)); have n6_ := Aside0.mk ((by rw [hg]; exact Nat.ne_of_gt (blk_lt (g := gb722) (o := .cells #[.int .i64 a0_0, .slice A0_1 l0_1.length c0_1] 32 (0, 0)) (by (with_reducible repeat (first | refine blk_drewN ?_ _ | refine blk_drew ?_ | refine blk_alloc ?_ _)); exact BK722.out)) : gb723 ≠ gb722)); clear BK722; clear HB; have BK722 := n0_; have HB := n1_; have BK723 := n2_; have GW723 := n3_; have GE723 := n4_; have NB722_723 := n5_; have NB723_722 := n6_; clear n0_ n1_ n2_ n3_ n4_ n5_ n6_; clear hb hbox hg; have hnb11 := NB722_723.out; have hnc11 := NB723_722.out; have hcz12_0 : w10.cell? ⟨gb722, 0, none⟩ = some (.int .i64 a0_0) := (blk_cell BK722.out 0).trans rfl; have hcz12_1 : w10.cell? ⟨gb722, 1, none⟩ = some (.slice A0_1 l0_1.length c0_1) := (blk_cell BK722.out 1).trans rfl; have hfz12_0 := blk_frozen BK722.out 0; have hfz12_1 := blk_frozen BK722.out 1) | ((with_reducible refine gate_callee (f := 56) rfl ?_); refine goesL_ (some 10) rfl rfl Try.func56 (by kernel_rfl) rfl #[.agg #[.int .i64 a0_0, .slice A0_1 l0_1.length c0_1]] rfl (by (try simp only [List.map_toArray, List.map_cons, List.map_nil]); first | done | rfl | (simp only [List.length_drop, List.length_take]; rfl)) ?_; (with_reducible refine (manifest_Check.calls k a0_0 _ _ l0_1 t724 _ ?side1 ?side2 A3.out).mono ?_); (case side1 => repeat (first | exact (Kd.C_below HR0_1.out HB.out) | (with_reducible refine Kd.C_alloc ?_ _) | (with_reducible refine Kd.C_drewN ?_ _) | (with_reducible refine Kd.C_drew ?_))); (case side2 => exact HC0_1.out); rintro e w13 ⟨rfl, hb⟩; refine ⟨_, rfl, ?_⟩; have n0_ := Aside0.mk (blk_below (g := gb722) (o := .cells #[.int .i64 a0_0, .slice A0_1 l0_1.length c0_1] 32 (0, 0)) (by (with_reducible repeat (first | refine blk_drewN ?_ _ | refine blk_drew ?_ | refine blk_alloc ?_ _)); exact BK722.out) hb); have n1_ := Aside0.mk (blk_below (g := gb723) (o := .cells #[.int .i64 a1_0, .slice A1_1 l1_1.length c1_1] 32 (0, 0)) (by (with_reducible repeat (first | refine blk_drewN ?_ _ | refine blk_drew ?_ | refine blk_alloc ?_ _)); exact BK723.out) hb); have n2_ := Aside0.mk (below_step (by repeat (first | (with_reducible first | exact HB.out | apply below_alloc | apply pw_below_drewN | apply below_drew1 | refine below_set ?_ GE722.out | refine below_set ?_ GE723.out) | exact HB.out)) hb); clear BK722; clear BK723; clear HB; have BK722 := n0_; have BK723 := n1_; have HB := n2_; clear n0_ n1_ n2_; (try clear hb); (try clear hb2); (try clear hk); (try clear hi); have hcz14_0 : w13.cell? ⟨gb723, 0, none⟩ = some (.int .i64 a1_0) := (blk_cell BK723.out 0).trans rfl; have hcz14_1 : w13.cell? ⟨gb723, 1, none⟩ = some (.slice A1_1 l1_1.length c1_1) := (blk_cell BK723.out 1).trans rfl; have hfz14_0 := blk_frozen BK723.out 0; have hfz14_1 := blk_frozen BK723.out 1) | ((with_reducible refine gate_callee (f := 56) rfl ?_); refine goesL_ (some 15) rfl rfl Try.func56 (by kernel_rfl) rfl #[.agg #[.int .i64 a1_0, .slice A1_1 l1_1.length c1_1]] rfl (by (try simp only [List.map_toArray, List.map_cons, List.map_nil]); first | done | rfl | (simp only [List.length_drop, List.length_take]; rfl)) ?_; (with_reducible refine (manifest_Check.calls k a1_0 _ _ l1_1 t725 _ ?side1 ?side2 A5.out).mono ?_); (case side1 => repeat (first | exact (Kd.C_below HR1_1.out HB.out) | (with_reducible refine Kd.C_alloc ?_ _) | (with_reducible refine Kd.C_drewN ?_ _) | (with_reducible refine Kd.C_drew ?_))); (case side2 => exact HC1_1.out); rintro e w15 ⟨rfl, hb⟩; refine ⟨_, rfl, ?_⟩; have n0_ := Aside0.mk (blk_below (g := gb722) (o := .cells #[.int .i64 a0_0, .slice A0_1 l0_1.length c0_1] 32 (0, 0)) (by (with_reducible repeat (first | refine blk_drewN ?_ _ | refine blk_drew ?_ | refine blk_alloc ?_ _)); exact BK722.out) hb); have n1_ := Aside0.mk (blk_below (g := gb723) (o := .cells #[.int .i64 a1_0, .slice A1_1 l1_1.length c1_1] 32 (0, 0)) (by (with_reducible repeat (first | refine blk_drewN ?_ _ | refine blk_drew ?_ | refine blk_alloc ?_ _)); exact BK723.out) hb); have n2_ := Aside0.mk (below_step (by repeat (first | (with_reducible first | exact HB.out | apply below_alloc | apply pw_below_drewN | apply below_drew1 | refine below_set ?_ GE722.out | refine below_set ?_ GE723.out) | exact HB.out)) hb); clear BK722; clear BK723; clear HB; have BK722 := n0_; have BK723 := n1_; have HB := n2_; clear n0_ n1_ n2_; (try clear hb); (try clear hb2); (try clear hk); (try clear hi)))
   have n0_ := Aside0.mk (blk_drew BK722.out)
   have n1_ := Aside0.mk (blk_drew BK723.out)
   have n2_ := Aside0.mk (below_drew1 HB.out)
   clear BK722
   clear BK723
   clear HB
   have BK722 := n0_
   have BK723 := n1_
   have HB := n2_
   clear n0_ n1_ n2_
   refine start_ (n := 13) (S := fun w' => w'.cell? ⟨gb723, 0, none⟩ = some (.int .i64 a1_0) ∧ w'.cell? ⟨gb723, 1, none⟩ = some (.slice A1_1 l1_1.length c1_1) ∧ w'.cell? ⟨gb722, 0, none⟩ = some (.int .i64 a0_0) ∧ w'.cell? ⟨gb722, 1, none⟩ = some (.slice A0_1 l0_1.length c0_1)) (ds := []) #[false, false, false, false, false, false, false, false, false, false, false, false, false] (by kernel_rfl) rfl rfl ⟨(blk_cell BK723.out 0).trans rfl, (blk_cell BK723.out 1).trans rfl, (blk_cell BK722.out 0).trans rfl, (blk_cell BK722.out 1).trans rfl⟩ (fun hHeld => ?_); refine with_tabW manifest_Change.tab7 manifest_Change.bits7 (fun HT_ HW_ => ?_)
   generalize w15.drew = w16 at BK722 BK723 HB hHeld ⊢
   refine pu 0 19 (v := ?_) (a' := ?_) HT_ rfl rfl (by kernel_rfl) (fun _ _ _ h => h) (Or.inl ⟨by rfl, ?_⟩) ?_ ?_
   rotate_left; (intro w'; go_simp; with_reducible rfl); rotate_left; (simp only [Act.put, Sa, Sz, Ss, i64_w, i32_w]; rfl)
   refine pu 2 21 (v := ?_) (a' := ?_) HT_ rfl rfl (by kernel_rfl) (fun _ _ _ h => h) (Or.inl ⟨by rfl, ?_⟩) ?_ ?_
   rotate_left; (intro w'; go_simp; with_reducible rfl); rotate_left; (simp only [Act.put, Sa, Sz, Ss, i64_w, i32_w]; rfl)
   refine pu 5 24 (v := ?_) (a' := ?_) HT_ rfl rfl (by kernel_rfl) (fun _ _ _ h => h) (Or.inl ⟨by rfl, ?_⟩) ?_ ?_
   rotate_left; (intro w'; go_simp; with_reducible rfl); rotate_left; (simp only [Act.put, Sa, Sz, Ss, i64_w, i32_w]; rfl)
   refine pu 7 26 (v := ?_) (a' := ?_) HT_ rfl rfl (by kernel_rfl) (fun _ _ _ h => h) (Or.inl ⟨by rfl, ?_⟩) ?_ ?_
   rotate_left; (intro w'; go_simp; with_reducible rfl); rotate_left; (simp only [Act.put, Sa, Sz, Ss, i64_w, i32_w]; rfl)
   refine tk 1 20 (v := ?_) (a' := ?_) HT_ HW_ rfl rfl (by kernel_rfl) (fun _ _ _ h => h) (Or.inl ⟨by rfl, ?_⟩) hHeld ?_ ?_
   rotate_left; (rintro w' ⟨s0, s1, s2, s3⟩; go_simp; with_reducible rfl); rotate_left; (simp only [Act.put, Sa, Sz, Ss, i64_w, i32_w]; rfl)
   refine tk 3 22 (v := ?_) (a' := ?_) HT_ HW_ rfl rfl (by kernel_rfl) (fun _ _ _ h => h) (Or.inl ⟨by rfl, ?_⟩) hHeld ?_ ?_
   rotate_left; (rintro w' ⟨s0, s1, s2, s3⟩; go_simp; with_reducible rfl); rotate_left; (simp only [Act.put, Sa, Sz, Ss, i64_w, i32_w]; rfl)
   refine tk 6 25 (v := ?_) (a' := ?_) HT_ HW_ rfl rfl (by kernel_rfl) (fun _ _ _ h => h) (Or.inl ⟨by rfl, ?_⟩) hHeld ?_ ?_
   rotate_left; (rintro w' ⟨s0, s1, s2, s3⟩; go_simp; with_reducible rfl); rotate_left; (simp only [Act.put, Sa, Sz, Ss, i64_w, i32_w]; rfl)
   refine tk 8 27 (v := ?_) (a' := ?_) HT_ HW_ rfl rfl (by kernel_rfl) (fun _ _ _ h => h) (Or.inl ⟨by rfl, ?_⟩) hHeld ?_ ?_
   rotate_left; (rintro w' ⟨s0, s1, s2, s3⟩; go_simp; with_reducible rfl); rotate_left; (simp only [Act.put, Sa, Sz, Ss, i64_w, i32_w]; rfl)
   refine one_ (i := 4) (N := some 23) #[true, true, true, true, true, true, true, true, true, false, false, false, false] rfl rfl (one_of HT_.out (by kernel_rfl)) (by decide) (fun K hK => ?_)
   refine goes_ Try.func86 (by kernel_rfl) rfl #[.slice A1_1 l1_1.length c1_1, .slice A0_1 l0_1.length c0_1] (by rfl) rfl rfl (by (try simp only [List.map_toArray, List.map_cons, List.map_nil]); first | done | rfl | (simp only [List.length_drop, List.length_take]; rfl)) ?_
   with_reducible refine (manifest_without.calls _ _ l1_1 _ _ l0_1 t726 _ ?side1 ?side2 ?side3 ?side4 A7.out).mono ?_
   (case side1 => repeat (first | exact (Kd.C_below HR1_1.out HB.out) | (with_reducible refine Kd.C_alloc ?_ _) | (with_reducible refine Kd.C_drewN ?_ _) | (with_reducible refine Kd.C_drew ?_)))
   (case side2 => exact HC1_1.out)
   (case side3 => repeat (first | exact (Kd.C_below HR0_1.out HB.out) | (with_reducible refine Kd.C_alloc ?_ _) | (with_reducible refine Kd.C_drewN ?_ _) | (with_reducible refine Kd.C_drew ?_)))
   (case side4 => exact HC0_1.out)
   rintro e w17 ⟨v727, rfl, ho0, hb⟩
   refine ⟨_, rfl, ?_⟩
   have n0_ := Aside0.mk (Kd.R_lower ho0 (below_size (by repeat (first | (with_reducible first | exact HB.out | apply below_alloc | apply pw_below_drewN | apply below_drew1 | refine below_set ?_ GE722.out | refine below_set ?_ GE723.out) | exact HB.out))))
   have n1_ := Aside0.mk (blk_below (g := gb722) (o := .cells #[.int .i64 a0_0, .slice A0_1 l0_1.length c0_1] 32 (0, 0)) (by (with_reducible repeat (first | refine blk_drewN ?_ _ | refine blk_drew ?_ | refine blk_alloc ?_ _)); exact BK722.out) hb)
   have n2_ := Aside0.mk (blk_below (g := gb723) (o := .cells #[.int .i64 a1_0, .slice A1_1 l1_1.length c1_1] 32 (0, 0)) (by (with_reducible repeat (first | refine blk_drewN ?_ _ | refine blk_drew ?_ | refine blk_alloc ?_ _)); exact BK723.out) hb)
   have n3_ := Aside0.mk (below_step (by repeat (first | (with_reducible first | exact HB.out | apply below_alloc | apply pw_below_drewN | apply below_drew1 | refine below_set ?_ GE722.out | refine below_set ?_ GE723.out) | exact HB.out)) hb)
   clear BK722
   clear BK723
   clear HB
   have HO728 := n0_
   have BK722 := n1_
   have BK723 := n2_
   have HB := n3_
   clear n0_ n1_ n2_ n3_
   (try clear hb)
   (try clear hb2)
   (try clear hk)
   (try clear hi)
   (try clear ho0)
   refine hK.out _ _ ⟨(blk_cell BK723.out 0).trans rfl, (blk_cell BK723.out 1).trans rfl, (blk_cell BK722.out 0).trans rfl, (blk_cell BK722.out 1).trans rfl⟩ (fun hHeld => ?_)
   clear hK K
   refine norm_ (a' := ?_) ?_ ?_
   rotate_left
   ·show Act.put _ (some 23) _ = _
    simp only [Act.put, Sa, Sz, Ss, i64_w, i32_w]
    rfl
   refine one_ (i := 9) (N := some 28) #[true, true, true, true, true, true, true, true, true, true, false, false, false] rfl rfl (one_of HT_.out (by kernel_rfl)) (by decide) (fun K hK => ?_)
   refine goes_ Try.func86 (by kernel_rfl) rfl #[.slice A0_1 l0_1.length c0_1, .slice A1_1 l1_1.length c1_1] (by rfl) rfl rfl (by (try simp only [List.map_toArray, List.map_cons, List.map_nil]); first | done | rfl | (simp only [List.length_drop, List.length_take]; rfl)) ?_
   with_reducible refine (manifest_without.calls _ _ l0_1 _ _ l1_1 t729 _ ?side1 ?side2 ?side3 ?side4 A8.out).mono ?_
   (case side1 => repeat (first | exact (Kd.C_below HR0_1.out HB.out) | (with_reducible refine Kd.C_alloc ?_ _) | (with_reducible refine Kd.C_drewN ?_ _) | (with_reducible refine Kd.C_drew ?_)))
   (case side2 => exact HC0_1.out)
   (case side3 => repeat (first | exact (Kd.C_below HR1_1.out HB.out) | (with_reducible refine Kd.C_alloc ?_ _) | (with_reducible refine Kd.C_drewN ?_ _) | (with_reducible refine Kd.C_drew ?_)))
   (case side4 => exact HC1_1.out)
   rintro e w18 ⟨v730, rfl, ho0, hb⟩
   refine ⟨_, rfl, ?_⟩
   have n0_ := Aside0.mk (Kd.R_elder' (by (with_reducible repeat (first | apply Kd.R_alloc | apply Kd.R_drewN | apply Kd.R_drew)); exact HO728.out) (Kd.R_base ho0) hb)
   have n1_ := Aside0.mk (Kd.R_lower (Kd.R_new' ho0 (Kd.R_lt (by (with_reducible repeat (first | apply Kd.R_alloc | apply Kd.R_drewN | apply Kd.R_drew)); exact HO728.out))) (below_size (by repeat (first | (with_reducible first | exact HB.out | apply below_alloc | apply pw_below_drewN | apply below_drew1 | refine below_set ?_ GE722.out | refine below_set ?_ GE723.out) | exact HB.out))))
   have n2_ := Aside0.mk (blk_below (g := gb722) (o := .cells #[.int .i64 a0_0, .slice A0_1 l0_1.length c0_1] 32 (0, 0)) (by (with_reducible repeat (first | refine blk_drewN ?_ _ | refine blk_drew ?_ | refine blk_alloc ?_ _)); exact BK722.out) hb)
   have n3_ := Aside0.mk (blk_below (g := gb723) (o := .cells #[.int .i64 a1_0, .slice A1_1 l1_1.length c1_1] 32 (0, 0)) (by (with_reducible repeat (first | refine blk_drewN ?_ _ | refine blk_drew ?_ | refine blk_alloc ?_ _)); exact BK723.out) hb)
   have n4_ := Aside0.mk (below_step (by repeat (first | (with_reducible first | exact HB.out | apply below_alloc | apply pw_below_drewN | apply below_drew1 | refine below_set ?_ GE722.out | refine below_set ?_ GE723.out) | exact HB.out)) hb)
   clear HO728
   clear BK722
   clear BK723
   clear HB
   have HO728 := n0_
   have HO731 := n1_
   have BK722 := n2_
   have BK723 := n3_
   have HB := n4_
   clear n0_ n1_ n2_ n3_ n4_
   (try clear hb)
   (try clear hb2)
   (try clear hk)
   (try clear hi)
   (try clear ho0)
   refine hK.out _ _ ⟨(blk_cell BK723.out 0).trans rfl, (blk_cell BK723.out 1).trans rfl, (blk_cell BK722.out 0).trans rfl, (blk_cell BK722.out 1).trans rfl⟩ (fun hHeld => ?_)
   clear hK K
   refine norm_ (a' := ?_) ?_ ?_
   rotate_left
   ·show Act.put _ (some 28) _ = _
    simp only [Act.put, Sa, Sz, Ss, i64_w, i32_w]
    rfl
   refine pu 10 4 (v := ?_) (a' := ?_) HT_ rfl rfl (by kernel_rfl) (fun _ _ _ h => h) (Or.inl ⟨by rfl, ?_⟩) ?_ ?_
   rotate_left; (intro w'; go_simp; with_reducible rfl); rotate_left; (simp only [Act.put, Sa, Sz, Ss, i64_w, i32_w]; rfl)
   refine pu 11 5 (v := ?_) (a' := ?_) HT_ rfl rfl (by kernel_rfl) (fun _ _ _ h => h) (Or.inl ⟨by rfl, ?_⟩) ?_ ?_
   rotate_left; (intro w'; go_simp; with_reducible rfl); rotate_left; (simp only [Act.put, Sa, Sz, Ss, i64_w, i32_w]; rfl)
   refine pu 12 6 (v := ?_) (a' := ?_) HT_ rfl rfl (by kernel_rfl) (fun _ _ _ h => h) (Or.inl ⟨by rfl, ?_⟩) ?_ ?_
   rotate_left; (intro w'; go_simp; with_reducible rfl); rotate_left; (simp only [Act.put, Sa, Sz, Ss, i64_w, i32_w]; rfl)
   refine done_ (done_of HT_.out (by kernel_rfl)) ?_
   try go_wp2
   go_ret3
   exact ⟨_, _, by first | rfl | (simp [errW_none, errW_some] <;> rfl) | (simp [*, errW_none, errW_some] <;> rfl), by (with_reducible repeat (first | apply Kd.R_alloc | apply Kd.R_drewN | apply Kd.R_drew)); exact Kd.R_mono HO728.out (fun _ hk => hk.2), by (with_reducible repeat (first | apply Kd.R_alloc | apply Kd.R_drewN | apply Kd.R_drew)); exact Kd.R_mono HO731.out (fun _ hk => hk.2), by repeat (first | (with_reducible first | exact HB.out | apply below_alloc | apply pw_below_drewN | apply below_drew1 | refine below_set ?_ GE722.out | refine below_set ?_ GE723.out) | exact HB.out)⟩
  ·rw [if_neg c6] at H
   have c6b0 : (t725 == 0) = false := beq_eq_false_iff_ne.mpr c6
   have c6b1 : (t725 != 0) = true := bne_iff_ne.mpr c6
   simp only [Option.some.injEq, Prod.mk.injEq] at H
   obtain ⟨rfl, rfl, rfl⟩ := H
   go_enter Try.func47, Try.ntmps47
   go_wp2_with (first | ((with_reducible refine gate_dst (N := 2) rfl ?_); refine box_event ?hg (N := 2) ?hd (cs := #[.int .i64 a0_0, .slice A0_1 l0_1.length c0_1]) (t := 32) ?hr ?_; (case hd => rfl); (case hg => rfl); (case hr => first | (go_simp; done) | (go_simp; rfl)); intro gb722 hg w19 hbox hb; have n0_ := Aside0.mk (below_step (by repeat (first | (with_reducible first | exact HB.out | apply below_alloc | apply pw_below_drewN | apply below_drew1) | exact HB.out)) hb); have n1_ := Aside0.mk (hbox); have n2_ := Aside0.mk ((by rw [hg]; exact (below_size (by repeat (first | (with_reducible first | exact HB.out | apply below_alloc | apply pw_below_drewN | apply below_drew1) | exact HB.out))) : w.heap.size ≤ gb722)); have n3_ := Aside0.mk ((by rw [hg]; exact (below_size (by repeat (first | (with_reducible first | exact HB.out | apply below_alloc | apply pw_below_drewN | apply below_drew1) | exact HB.out))) : w.heap.size ≤ gb722)); clear HB; have HB := n0_; have BK722 := n1_; have GW722 := n2_; have GE722 := n3_; clear n0_ n1_ n2_ n3_; clear hb hbox hg) | ((with_reducible refine gate_dst (N := 3) rfl ?_); refine box_event ?hg (N := 3) ?hd (cs := #[.int .i64 a1_0, .slice A1_1 l1_1.length c1_1]) (t := 32) ?hr ?_; (case hd => rfl); (case hg => rfl); (case hr => first | (go_simp; done) | (go_simp; rfl)); intro gb723 hg w20 hbox hb; have n0_ := Aside0.mk (blk_below (g := gb722) (o := .cells #[.int .i64 a0_0, .slice A0_1 l0_1.length c0_1] 32 (0, 0)) (by (with_reducible repeat (first | refine blk_drewN ?_ _ | refine blk_drew ?_ | refine blk_alloc ?_ _)); exact BK722.out) hb); have n1_ := Aside0.mk (below_step (by repeat (first | (with_reducible first | exact HB.out | apply below_alloc | apply pw_below_drewN | apply below_drew1 | refine below_set ?_ GE722.out) | exact HB.out)) hb); have n2_ := Aside0.mk (hbox); have n3_ := Aside0.mk ((by rw [hg]; exact (below_size (by repeat (first | (with_reducible first | exact HB.out | apply below_alloc | apply pw_below_drewN | apply below_drew1 | refine below_set ?_ GE722.out) | exact HB.out))) : w.heap.size ≤ gb723)); have n4_ := Aside0.mk ((by rw [hg]; exact (below_size (by repeat (first | (with_reducible first | exact HB.out | apply below_alloc | apply pw_below_drewN | apply below_drew1 | refine below_set ?_ GE722.out) | exact HB.out))) : w.heap.size ≤ gb723)); have n5_ := Aside0.mk ((by rw [hg]; exact Nat.ne_of_lt (blk_lt (g := gb722) (o := .cells #[.int .i64 a0_0, .slice A0_1 l0_1.length c0_1] 32 (0, 0)) (by (with_reducible repeat (first | refine blk_drewN ?_ _ | refine blk_drew ?_ | refine blk_alloc ?_ _)); exact BK722.out)) : gb722 ≠ gb723)); have n6_ := Aside0.mk ((by rw [hg]; exact Nat.ne_of_gt (blk_lt (g := gb722) (o := .cells #[.int .i64 a0_0, .slice A0_1 l0_1.length c0_1] 32 (0, 0)) (by (with_reducible repeat (first | refine blk_drewN ?_ _ | refine blk_drew ?_ | refine blk_alloc ?_ _)); exact BK722.out)) : gb723 ≠ gb722)); clear BK722; clear HB; have BK722 := n0_; have HB := n1_; have BK723 := n2_; have GW723 := n3_; have GE723 := n4_; have NB722_723 := n5_; have NB723_722 := n6_; clear n0_ n1_ n2_ n3_ n4_ n5_ n6_; clear hb hbox hg; have hnb21 := NB722_723.out; have hnc21 := NB723_722.out; have hcz22_0 : w20.cell? ⟨gb722, 0, none⟩ = some (.int .i64 a0_0) := (blk_cell BK722.out 0).trans rfl; have hcz22_1 : w20.cell? ⟨gb722, 1, none⟩ = some (.slice A0_1 l0_1.length c0_1) := (blk_cell BK722.out 1).trans rfl; have hfz22_0 := blk_frozen BK722.out 0; have hfz22_1 := blk_frozen BK722.out 1) | ((with_reducible refine gate_callee (f := 56) rfl ?_); refine goesL_ (some 10) rfl rfl Try.func56 (by kernel_rfl) rfl #[.agg #[.int .i64 a0_0, .slice A0_1 l0_1.length c0_1]] rfl (by (try simp only [List.map_toArray, List.map_cons, List.map_nil]); first | done | rfl | (simp only [List.length_drop, List.length_take]; rfl)) ?_; (with_reducible refine (manifest_Check.calls k a0_0 _ _ l0_1 t724 _ ?side1 ?side2 A3.out).mono ?_); (case side1 => repeat (first | exact (Kd.C_below HR0_1.out HB.out) | (with_reducible refine Kd.C_alloc ?_ _) | (with_reducible refine Kd.C_drewN ?_ _) | (with_reducible refine Kd.C_drew ?_))); (case side2 => exact HC0_1.out); rintro e w23 ⟨rfl, hb⟩; refine ⟨_, rfl, ?_⟩; have n0_ := Aside0.mk (blk_below (g := gb722) (o := .cells #[.int .i64 a0_0, .slice A0_1 l0_1.length c0_1] 32 (0, 0)) (by (with_reducible repeat (first | refine blk_drewN ?_ _ | refine blk_drew ?_ | refine blk_alloc ?_ _)); exact BK722.out) hb); have n1_ := Aside0.mk (blk_below (g := gb723) (o := .cells #[.int .i64 a1_0, .slice A1_1 l1_1.length c1_1] 32 (0, 0)) (by (with_reducible repeat (first | refine blk_drewN ?_ _ | refine blk_drew ?_ | refine blk_alloc ?_ _)); exact BK723.out) hb); have n2_ := Aside0.mk (below_step (by repeat (first | (with_reducible first | exact HB.out | apply below_alloc | apply pw_below_drewN | apply below_drew1 | refine below_set ?_ GE722.out | refine below_set ?_ GE723.out) | exact HB.out)) hb); clear BK722; clear BK723; clear HB; have BK722 := n0_; have BK723 := n1_; have HB := n2_; clear n0_ n1_ n2_; (try clear hb); (try clear hb2); (try clear hk); (try clear hi); have hcz24_0 : w23.cell? ⟨gb723, 0, none⟩ = some (.int .i64 a1_0) := (blk_cell BK723.out 0).trans rfl; have hcz24_1 : w23.cell? ⟨gb723, 1, none⟩ = some (.slice A1_1 l1_1.length c1_1) := (blk_cell BK723.out 1).trans rfl; have hfz24_0 := blk_frozen BK723.out 0; have hfz24_1 := blk_frozen BK723.out 1) | ((with_reducible refine gate_callee (f := 56) rfl ?_); refine goesL_ (some 15) rfl rfl Try.func56 (by kernel_rfl) rfl #[.agg #[.int .i64 a1_0, .slice A1_1 l1_1.length c1_1]] rfl (by (try simp only [List.map_toArray, List.map_cons, List.map_nil]); first | done | rfl | (simp only [List.length_drop, List.length_take]; rfl)) ?_; (with_reducible refine (manifest_Check.calls k a1_0 _ _ l1_1 t725 _ ?side1 ?side2 A5.out).mono ?_); (case side1 => repeat (first | exact (Kd.C_below HR1_1.out HB.out) | (with_reducible refine Kd.C_alloc ?_ _) | (with_reducible refine Kd.C_drewN ?_ _) | (with_reducible refine Kd.C_drew ?_))); (case side2 => exact HC1_1.out); rintro e w25 ⟨rfl, hb⟩; refine ⟨_, rfl, ?_⟩; have n0_ := Aside0.mk (blk_below (g := gb722) (o := .cells #[.int .i64 a0_0, .slice A0_1 l0_1.length c0_1] 32 (0, 0)) (by (with_reducible repeat (first | refine blk_drewN ?_ _ | refine blk_drew ?_ | refine blk_alloc ?_ _)); exact BK722.out) hb); have n1_ := Aside0.mk (blk_below (g := gb723) (o := .cells #[.int .i64 a1_0, .slice A1_1 l1_1.length c1_1] 32 (0, 0)) (by (with_reducible repeat (first | refine blk_drewN ?_ _ | refine blk_drew ?_ | refine blk_alloc ?_ _)); exact BK723.out) hb); have n2_ := Aside0.mk (below_step (by repeat (first | (with_reducible first | exact HB.out | apply below_alloc | apply pw_below_drewN | apply below_drew1 | refine below_set ?_ GE722.out | refine below_set ?_ GE723.out) | exact HB.out)) hb); clear BK722; clear BK723; clear HB; have BK722 := n0_; have BK723 := n1_; have HB := n2_; clear n0_ n1_ n2_; (try clear hb); (try clear hb2); (try clear hk); (try clear hi)))
   go_ret3
   exact ⟨_, _, by first | rfl | (simp [errW_none, errW_some] <;> rfl) | (simp [*, errW_none, errW_some] <;> rfl), by first | exact Kd.R_nil _ _ _ _ _ | exact Kd.N_nil _ _ _ _ _ | exact Kd.V_nil _ _ _ _ _ | exact Kd.Q_nil _ _ _ _ _ | exact Kd.S_nil _ _ _ _ _, by first | exact Kd.R_nil _ _ _ _ _ | exact Kd.N_nil _ _ _ _ _ | exact Kd.V_nil _ _ _ _ _ | exact Kd.Q_nil _ _ _ _ _ | exact Kd.S_nil _ _ _ _ _, by repeat (first | (with_reducible first | exact HB.out | apply below_alloc | apply pw_below_drewN | apply below_drew1 | refine below_set ?_ GE722.out | refine below_set ?_ GE723.out) | exact HB.out)⟩
 ·rw [if_neg c4] at H
  have c4b0 : (t724 == 0) = false := beq_eq_false_iff_ne.mpr c4
  have c4b1 : (t724 != 0) = true := bne_iff_ne.mpr c4
  simp only [Option.some.injEq, Prod.mk.injEq] at H
  obtain ⟨rfl, rfl, rfl⟩ := H
  go_enter Try.func47, Try.ntmps47
  go_wp2_with (first | ((with_reducible refine gate_dst (N := 2) rfl ?_); refine box_event ?hg (N := 2) ?hd (cs := #[.int .i64 a0_0, .slice A0_1 l0_1.length c0_1]) (t := 32) ?hr ?_; (case hd => rfl); (case hg => rfl); (case hr => first | (go_simp; done) | (go_simp; rfl)); intro gb722 hg w26 hbox hb; have n0_ := Aside0.mk (below_step (by repeat (first | (with_reducible first | exact HB.out | apply below_alloc | apply pw_below_drewN | apply below_drew1) | exact HB.out)) hb); have n1_ := Aside0.mk (hbox); have n2_ := Aside0.mk ((by rw [hg]; exact (below_size (by repeat (first | (with_reducible first | exact HB.out | apply below_alloc | apply pw_below_drewN | apply below_drew1) | exact HB.out))) : w.heap.size ≤ gb722)); have n3_ := Aside0.mk ((by rw [hg]; exact (below_size (by repeat (first | (with_reducible first | exact HB.out | apply below_alloc | apply pw_below_drewN | apply below_drew1) | exact HB.out))) : w.heap.size ≤ gb722)); clear HB; have HB := n0_; have BK722 := n1_; have GW722 := n2_; have GE722 := n3_; clear n0_ n1_ n2_ n3_; clear hb hbox hg) | ((with_reducible refine gate_dst (N := 3) rfl ?_); refine box_event ?hg (N := 3) ?hd (cs := #[.int .i64 a1_0, .slice A1_1 l1_1.length c1_1]) (t := 32) ?hr ?_; (case hd => rfl); (case hg => rfl); (case hr => first | (go_simp; done) | (go_simp; rfl)); intro gb723 hg w27 hbox hb; have n0_ := Aside0.mk (blk_below (g := gb722) (o := .cells #[.int .i64 a0_0, .slice A0_1 l0_1.length c0_1] 32 (0, 0)) (by (with_reducible repeat (first | refine blk_drewN ?_ _ | refine blk_drew ?_ | refine blk_alloc ?_ _)); exact BK722.out) hb); have n1_ := Aside0.mk (below_step (by repeat (first | (with_reducible first | exact HB.out | apply below_alloc | apply pw_below_drewN | apply below_drew1 | refine below_set ?_ GE722.out) | exact HB.out)) hb); have n2_ := Aside0.mk (hbox); have n3_ := Aside0.mk ((by rw [hg]; exact (below_size (by repeat (first | (with_reducible first | exact HB.out | apply below_alloc | apply pw_below_drewN | apply below_drew1 | refine below_set ?_ GE722.out) | exact HB.out))) : w.heap.size ≤ gb723)); have n4_ := Aside0.mk ((by rw [hg]; exact (below_size (by repeat (first | (with_reducible first | exact HB.out | apply below_alloc | apply pw_below_drewN | apply below_drew1 | refine below_set ?_ GE722.out) | exact HB.out))) : w.heap.size ≤ gb723)); have n5_ := Aside0.mk ((by rw [hg]; exact Nat.ne_of_lt (blk_lt (g := gb722) (o := .cells #[.int .i64 a0_0, .slice A0_1 l0_1.length c0_1] 32 (0, 0)) (by (with_reducible repeat (first | refine blk_drewN ?_ _ | refine blk_drew ?_ | refine blk_alloc ?_ _)); exact BK722.out)) : gb722 ≠ gb723)); have n6_ := Aside0.mk ((by rw [hg]; exact Nat.ne_of_gt (blk_lt (g := gb722) (o := .cells #[.int .i64 a0_0, .slice A0_1 l0_1.length c0_1] 32 (0, 0)) (by (with_reducible repeat (first | refine blk_drewN ?_ _ | refine blk_drew ?_ | refine blk_alloc ?_ _)); exact BK722.out)) : gb723 ≠ gb722)); clear BK722; clear HB; have BK722 := n0_; have HB := n1_; have BK723 := n2_; have GW723 := n3_; have GE723 := n4_; have NB722_723 := n5_; have NB723_722 := n6_; clear n0_ n1_ n2_ n3_ n4_ n5_ n6_; clear hb hbox hg; have hnb28 := NB722_723.out; have hnc28 := NB723_722.out; have hcz29_0 : w27.cell? ⟨gb722, 0, none⟩ = some (.int .i64 a0_0) := (blk_cell BK722.out 0).trans rfl; have hcz29_1 : w27.cell? ⟨gb722, 1, none⟩ = some (.slice A0_1 l0_1.length c0_1) := (blk_cell BK722.out 1).trans rfl; have hfz29_0 := blk_frozen BK722.out 0; have hfz29_1 := blk_frozen BK722.out 1) | ((with_reducible refine gate_callee (f := 56) rfl ?_); refine goesL_ (some 10) rfl rfl Try.func56 (by kernel_rfl) rfl #[.agg #[.int .i64 a0_0, .slice A0_1 l0_1.length c0_1]] rfl (by (try simp only [List.map_toArray, List.map_cons, List.map_nil]); first | done | rfl | (simp only [List.length_drop, List.length_take]; rfl)) ?_; (with_reducible refine (manifest_Check.calls k a0_0 _ _ l0_1 t724 _ ?side1 ?side2 A3.out).mono ?_); (case side1 => repeat (first | exact (Kd.C_below HR0_1.out HB.out) | (with_reducible refine Kd.C_alloc ?_ _) | (with_reducible refine Kd.C_drewN ?_ _) | (with_reducible refine Kd.C_drew ?_))); (case side2 => exact HC0_1.out); rintro e w30 ⟨rfl, hb⟩; refine ⟨_, rfl, ?_⟩; have n0_ := Aside0.mk (blk_below (g := gb722) (o := .cells #[.int .i64 a0_0, .slice A0_1 l0_1.length c0_1] 32 (0, 0)) (by (with_reducible repeat (first | refine blk_drewN ?_ _ | refine blk_drew ?_ | refine blk_alloc ?_ _)); exact BK722.out) hb); have n1_ := Aside0.mk (blk_below (g := gb723) (o := .cells #[.int .i64 a1_0, .slice A1_1 l1_1.length c1_1] 32 (0, 0)) (by (with_reducible repeat (first | refine blk_drewN ?_ _ | refine blk_drew ?_ | refine blk_alloc ?_ _)); exact BK723.out) hb); have n2_ := Aside0.mk (below_step (by repeat (first | (with_reducible first | exact HB.out | apply below_alloc | apply pw_below_drewN | apply below_drew1 | refine below_set ?_ GE722.out | refine below_set ?_ GE723.out) | exact HB.out)) hb); clear BK722; clear BK723; clear HB; have BK722 := n0_; have BK723 := n1_; have HB := n2_; clear n0_ n1_ n2_; (try clear hb); (try clear hb2); (try clear hk); (try clear hi)))
  go_ret3
  exact ⟨_, _, by first | rfl | (simp [errW_none, errW_some] <;> rfl) | (simp [*, errW_none, errW_some] <;> rfl), by first | exact Kd.R_nil _ _ _ _ _ | exact Kd.N_nil _ _ _ _ _ | exact Kd.V_nil _ _ _ _ _ | exact Kd.Q_nil _ _ _ _ _ | exact Kd.S_nil _ _ _ _ _, by first | exact Kd.R_nil _ _ _ _ _ | exact Kd.N_nil _ _ _ _ _ | exact Kd.V_nil _ _ _ _ _ | exact Kd.Q_nil _ _ _ _ _ | exact Kd.S_nil _ _ _ _ _, by repeat (first | (with_reducible first | exact HB.out | apply below_alloc | apply pw_below_drewN | apply below_drew1 | refine below_set ?_ GE722.out | refine below_set ?_ GE723.out) | exact HB.out)⟩
end Go.Proofs.Ytodhkbahjomfhaa.Q

namespace Go.Proofs.Ytodhkbahjomfhaa.Q
open Go.RowKit Go.Proofs.YtodhkbahjomfhaaW.PrintWords Go.Proofs.YtodhkbahjomfhaaW.PrintLast Go.Proofs.YtodhkbahjomfhaaW.PrintMore Go.Proofs.Ytodhkbahjomfhaa.Gput Go.Proofs.Ytodhkbahjomfhaa.Gputl
attribute [local go_sem] max2_int min2_int max_two min_two max_three min_three max_four min_four   -- for this text's walks alone
set_option linter.unusedVariables false
set_option linter.unusedSimpArgs false
attribute [local go_sem high] eqA78
noncomputable def api_Name_83.l0 : Nat → List (S78) → List (S78) → Int → Int → Option (Bool)
 | 0, _, _, _, _ => none
 | k + 1, x0, x1, x12, x13 => if x13 < x12 then (if 0 ≤ x13 then (if x13 < (x0.length : Int) then (if x13 < (x1.length : Int) then (if (!(((rd_T78 x0 x13).f0) == ((rd_T78 x1 x13).f0)) || (!(((rd_T78 x0 x13).f1) == ((rd_T78 x1 x13).f1)))) = true then (some false) else (api_Name_83.l0 k x0 x1 x12 (wrap64 (x13 + 1)))) else (none)) else (none)) else (none)) else (some true)
noncomputable def api_Name_83.f (k : Nat) (l0 : List (S78)) (l1 : List (S78)) : Option (Bool) := if (l0.length : Int) = (l1.length : Int) then (api_Name_83.l0 k l0 l1 (l0.length : Int) 0) else (some false)
set_option maxHeartbeats 8000000 in
set_option maxRecDepth 100000 in
theorem api_Name_83.calls (k : Nat) (A0 : Option Addr) (c0 : Nat) (l0 : List (S78)) (A1 : Option Addr) (c1 : Nat) (l1 : List (S78)) (r : Bool) (w : World) (hr0 : Kd.C k78 w A0 l0.length l0) (hc0 : l0.length ≤ c0) (hr1 : Kd.C k78 w A1 l1.length l1) (hc1 : l1.length ≤ c1) (h : api_Name_83.f k l0 l1 = some r) :
 Calls Try.prog 83 #[.slice A0 l0.length c0, .slice A1 l1.length c1] w fun e w' => e = .returned (.bool r) ∧ Drawn0 w w' := by
 have hu78 := Try.underlying78
 have HR0 := Aside0.mk hr0
 have HC0 := Aside0.mk hc0
 clear hr0 hc0
 have HR1 := Aside0.mk hr1
 have HC1 := Aside0.mk hc1
 clear hr1 hc1
 have H : (if (l0.length : Int) = (l1.length : Int) then (api_Name_83.l0 k l0 l1 (l0.length : Int) 0) else (some false)) = some r := h
 clear h
 by_cases c3 : (l0.length : Int) = (l1.length : Int)
 ·rw [if_pos c3] at H
  have c3b0 : ((l0.length : Int) == (l1.length : Int)) = true := beq_iff_eq.mpr c3
  have c3b1 : ((l0.length : Int) != (l1.length : Int)) = false := bne_eq_false_iff_eq.mpr c3
  have c3b2 : (l0.length == l1.length) = true := by first | simpa using c3 | (simp at c3 ⊢; omega)
  clear c3
  have H' := Aside0.mk H
  clear H
  go_enter Try.func83, Try.ntmps83
  go_wp2
  repeat (go_quiet (fail); try go_wp2)
  go_loopg [13] k (fun kq v13 w' => ∃ (x13_1 : Int), v13 = .int .i64 x13_1 ∧ Aside0 (api_Name_83.l0 kq l0 l1 (l0.length : Int) x13_1 = some r) ∧ Aside0 (kq ≤ k) ∧ Drawn0 w w')
  case atStart => exact ⟨(0), (by first | rfl | (simp; done) | (simp [*]; done)), H', ⟨Nat.le_refl _⟩, by repeat (first | exact Drawn0.refl _ | apply Drawn0.step)⟩
  case round =>
   clear H'
   try clear c1
   try clear p2
   try clear c3
   try clear c3b0
   try clear c3b1
   try clear c3b2
   obtain ⟨x13_1, rfl, HA, HK1, ⟨m1, rfl⟩⟩ := hrel
   cases gk with
   | zero => exact absurd HA.out (by simp [api_Name_83.l0])
   | succ k1 =>
    have H := HA.out
    clear HA
    simp only [api_Name_83.l0] at H
    by_cases c4 : x13_1 < (l0.length : Int)
    ·rw [if_pos c4] at H
     have c4b0 : decide (x13_1 < (l0.length : Int)) = true := decide_eq_true c4
     clear c4
     by_cases c5 : 0 ≤ x13_1
     ·rw [if_pos c5] at H
      have c5b0 : decide (0 ≤ x13_1) = true := decide_eq_true c5
      clear c5
      by_cases c6 : x13_1 < (l0.length : Int)
      ·rw [if_pos c6] at H
       have c6b0 : decide (x13_1 < (l0.length : Int)) = true := decide_eq_true c6
       clear c6
       by_cases c7 : x13_1 < (l1.length : Int)
       ·rw [if_pos c7] at H
        have c7b0 : decide (x13_1 < (l1.length : Int)) = true := decide_eq_true c7
        clear c7
        by_cases c8 : (!(((rd_T78 l0 x13_1).f0) == ((rd_T78 l1 x13_1).f0)) || (!(((rd_T78 l0 x13_1).f1) == ((rd_T78 l1 x13_1).f1)))) = true
        ·rw [if_pos c8] at H
         have c8b0 : (!(((rd_T78 l0 x13_1).f0) == ((rd_T78 l1 x13_1).f0)) || (!(((rd_T78 l0 x13_1).f1) == ((rd_T78 l1 x13_1).f1)))) = true := c8
         clear c8
         obtain rfl := Option.some.inj H
         have p646 : 0 ≤ (x13_1 : Int) := of_decide_eq_true (by first | (with_reducible assumption) | assumption)
         have q646 : x13_1 < (l0.length : Int) := of_decide_eq_true (by first | (with_reducible assumption) | assumption)
         obtain ⟨ad646, e646, hx646_0, hx646_1⟩ := at_T78 HR0.out x13_1 p646 q646
         cases e646
         replace p646 := eq_true p646
         replace q646 := eq_true q646
         have p647 : 0 ≤ (x13_1 : Int) := of_decide_eq_true (by first | (with_reducible assumption) | assumption)
         have q647 : x13_1 < (l1.length : Int) := of_decide_eq_true (by first | (with_reducible assumption) | assumption)
         obtain ⟨ad647, e647, hx647_0, hx647_1⟩ := at_T78 HR1.out x13_1 p647 q647
         cases e647
         replace p647 := eq_true p647
         replace q647 := eq_true q647
         go_wp2
         repeat (go_quiet (fail); try go_wp2)
         go_ret
         exact ⟨by first | rfl | (simp; done) | (simp [*]; done), by repeat (first | exact Drawn0.refl _ | apply Drawn0.step)⟩
        ·rw [if_neg c8] at H
         have c8b0 : (!(((rd_T78 l0 x13_1).f0) == ((rd_T78 l1 x13_1).f0)) || (!(((rd_T78 l0 x13_1).f1) == ((rd_T78 l1 x13_1).f1)))) = false := by simpa using c8
         clear c8
         have H' := Aside0.mk H
         clear H
         have p646 : 0 ≤ (x13_1 : Int) := of_decide_eq_true (by first | (with_reducible assumption) | assumption)
         have q646 : x13_1 < (l0.length : Int) := of_decide_eq_true (by first | (with_reducible assumption) | assumption)
         obtain ⟨ad646, e646, hx646_0, hx646_1⟩ := at_T78 HR0.out x13_1 p646 q646
         cases e646
         replace p646 := eq_true p646
         replace q646 := eq_true q646
         have p647 : 0 ≤ (x13_1 : Int) := of_decide_eq_true (by first | (with_reducible assumption) | assumption)
         have q647 : x13_1 < (l1.length : Int) := of_decide_eq_true (by first | (with_reducible assumption) | assumption)
         obtain ⟨ad647, e647, hx647_0, hx647_1⟩ := at_T78 HR1.out x13_1 p647 q647
         cases e647
         replace p647 := eq_true p647
         replace q647 := eq_true q647
         go_wp2
         repeat (go_quiet (fail); try go_wp2)
         go_roundg k1
         case measure => have := HK1.out; omega
         case rel => exact ⟨(wrap64 (x13_1 + 1)), (by first | rfl | (simp; done) | (simp [*]; done)), H', ⟨by have := HK1.out; omega⟩, by repeat (first | exact Drawn0.refl _ | apply Drawn0.step)⟩
       ·rw [if_neg c7] at H
        exact absurd H (by simp)
      ·rw [if_neg c6] at H
       exact absurd H (by simp)
     ·rw [if_neg c5] at H
      exact absurd H (by simp)
    ·rw [if_neg c4] at H
     have c4b0 : decide (x13_1 < (l0.length : Int)) = false := decide_eq_false c4
     clear c4
     obtain rfl := Option.some.inj H
     go_wp2
     repeat (go_quiet (fail); try go_wp2)
     go_ret
     exact ⟨by first | rfl | (simp; done) | (simp [*]; done), by repeat (first | exact Drawn0.refl _ | apply Drawn0.step)⟩
 ·rw [if_neg c3] at H
  have c3b0 : ((l0.length : Int) == (l1.length : Int)) = false := beq_eq_false_iff_ne.mpr c3
  have c3b1 : ((l0.length : Int) != (l1.length : Int)) = true := bne_iff_ne.mpr c3
  have c3b2 : (l0.length == l1.length) = false := by first | simpa using c3 | (simp at c3 ⊢; omega)
  obtain rfl := Option.some.inj H
  go_enter Try.func83, Try.ntmps83
  go_wp2
  repeat (go_quiet (fail); try go_wp2)
  go_ret
  exact ⟨by first | rfl | (simp; done) | (simp [*]; done), by repeat (first | exact Drawn0.refl _ | apply Drawn0.step)⟩
end Go.Proofs.Ytodhkbahjomfhaa.Q

namespace Go.Proofs.Ytodhkbahjomfhaa.Q
open Go.RowKit Go.Proofs.YtodhkbahjomfhaaW.PrintWords Go.Proofs.YtodhkbahjomfhaaW.PrintLast Go.Proofs.YtodhkbahjomfhaaW.PrintMore Go.Proofs.Ytodhkbahjomfhaa.Gput Go.Proofs.Ytodhkbahjomfhaa.Gputl
attribute [local go_sem] max2_int min2_int max_two min_two max_three min_three max_four min_four   -- for this text's walks alone
set_option linter.unusedVariables false
set_option linter.unusedSimpArgs false
noncomputable def manifest_Same.f (k : Nat) (a0_0 : Int) (l0_1 : List (S78)) (a1_0 : Int) (l1_1 : List (S78)) : Option (Bool) := if a0_0 = a1_0 then ((api_Name_83.f k l0_1 l1_1).bind fun t650 => (some t650)) else (some false)
set_option maxHeartbeats 8000000 in
set_option maxRecDepth 100000 in
theorem manifest_Same.calls (k : Nat) (a0_0 : Int) (A0_1 : Option Addr) (c0_1 : Nat) (l0_1 : List (S78)) (a1_0 : Int) (A1_1 : Option Addr) (c1_1 : Nat) (l1_1 : List (S78)) (r : Bool) (w : World) (hr0_1 : Kd.C k78 w A0_1 l0_1.length l0_1) (hc0_1 : l0_1.length ≤ c0_1) (hr1_1 : Kd.C k78 w A1_1 l1_1.length l1_1) (hc1_1 : l1_1.length ≤ c1_1) (h : manifest_Same.f k a0_0 l0_1 a1_0 l1_1 = some r) :
 Calls Try.prog 41 #[.agg #[.int .i64 a0_0, .slice A0_1 l0_1.length c0_1], .agg #[.int .i64 a1_0, .slice A1_1 l1_1.length c1_1]] w fun e w' => e = .returned (.bool r) ∧ Below w.heap.size w w' := by
 have hu32 := Try.underlying32
 have HR0_1 := Aside0.mk hr0_1
 have HC0_1 := Aside0.mk hc0_1
 clear hr0_1 hc0_1
 have HR1_1 := Aside0.mk hr1_1
 have HC1_1 := Aside0.mk hc1_1
 clear hr1_1 hc1_1
 have HB := Aside0.mk (Below.refl w.heap.size w)
 have H : (if a0_0 = a1_0 then ((api_Name_83.f k l0_1 l1_1).bind fun t650 => (some t650)) else (some false)) = some r := h
 clear h
 by_cases c3 : a0_0 = a1_0
 ·rw [if_pos c3] at H
  have c3b0 : (a0_0 == a1_0) = true := beq_iff_eq.mpr c3
  have c3b1 : (a0_0 != a1_0) = false := bne_eq_false_iff_eq.mpr c3
  clear c3
  replace H := Option.bind_eq_some_iff.mp H
  obtain ⟨t650, A40, H⟩ := H
  replace H : (some t650) = some r := H
  have A4 := Aside0.mk A40
  clear A40
  obtain rfl := Option.some.inj H
  go_enter Try.func41, Try.ntmps41
  go_wp2_with (first | ((with_reducible refine gate_dst (N := 2) rfl ?_); refine box_event ?hg (N := 2) ?hd (cs := #[.int .i64 a0_0, .slice A0_1 l0_1.length c0_1]) (t := 32) ?hr ?_; (case hd => rfl); (case hg => rfl); (case hr => first | (go_simp; done) | (go_simp; rfl)); intro gb648 hg w5 hbox hb; have n0_ := Aside0.mk (below_step (by repeat (first | (with_reducible first | exact HB.out | apply below_alloc | apply pw_below_drewN | apply below_drew1) | exact HB.out)) hb); have n1_ := Aside0.mk (hbox); have n2_ := Aside0.mk ((by rw [hg]; exact (below_size (by repeat (first | (with_reducible first | exact HB.out | apply below_alloc | apply pw_below_drewN | apply below_drew1) | exact HB.out))) : w.heap.size ≤ gb648)); have n3_ := Aside0.mk ((by rw [hg]; exact (below_size (by repeat (first | (with_reducible first | exact HB.out | apply below_alloc | apply pw_below_drewN | apply below_drew1) | exact HB.out))) : w.heap.size ≤ gb648)); clear HB; have HB := n0_; have BK648 := n1_; have GW648 := n2_; have GE648 := n3_; clear n0_ n1_ n2_ n3_; clear hb hbox hg) | ((with_reducible refine gate_dst (N := 3) rfl ?_); refine box_event ?hg (N := 3) ?hd (cs := #[.int .i64 a1_0, .slice A1_1 l1_1.length c1_1]) (t := 32) ?hr ?_; (case hd => rfl); (case hg => rfl); (case hr => first | (go_simp; done) | (go_simp; rfl)); intro gb649 hg w6 hbox hb; have n0_ := Aside0.mk (blk_below (g := gb648) (o := .cells #[.int .i64 a0_0, .slice A0_1 l0_1.length c0_1] 32 (0, 0)) (by (with_reducible repeat (first | refine blk_drewN ?_ _ | refine blk_drew ?_ | refine blk_alloc ?_ _)); exact BK648.out) hb); have n1_ := Aside0.mk (below_step (by repeat (first | (with_reducible first | exact HB.out | apply below_alloc | apply pw_below_drewN | apply below_drew1 | refine below_set ?_ GE648.out) | exact HB.out)) hb); have n2_ := Aside0.mk (hbox); have n3_ := Aside0.mk ((by rw [hg]; exact (below_size (by repeat (first | (with_reducible first | exact HB.out | apply below_alloc | apply pw_below_drewN | apply below_drew1 | refine below_set ?_ GE648.out) | exact HB.out))) : w.heap.size ≤ gb649)); have n4_ := Aside0.mk ((by rw [hg]; exact (below_size (by repeat (first | (with_reducible first | exact HB.out | apply below_alloc | apply pw_below_drewN | apply below_drew1 | refine below_set ?_ GE648.out) | exact HB.out))) : w.heap.size ≤ gb649)); have n5_ := Aside0.mk ((by rw [hg]; exact Nat.ne_of_lt (blk_lt (g := gb648) (o := .cells #[.int .i64 a0_0, .slice A0_1 l0_1.length c0_1] 32 (0, 0)) (by (with_reducible repeat (first | refine blk_drewN ?_ _ | refine blk_drew ?_ | refine blk_alloc ?_ _)); exact BK648.out)) : gb648 ≠ gb649)); have n6_ := Aside0.mk ((by rw [hg]; exact Nat.ne_of_gt (blk_lt (g := gb648) (o := .cells #[.int .i64 a0_0, .slice A0_1 l0_1.length c0_1] 32 (0, 0)) (by (with_reducible repeat (first | refine blk_drewN ?_ _ | refine blk_drew ?_ | refine blk_alloc ?_ _)); exact BK648.out)) : gb649 ≠ gb648)); clear BK648; clear HB; have BK648 := n0_; have HB := n1_; have BK649 := n2_; have GW649 := n3_; have GE649 := n4_; have NB648_649 := n5_; have NB649_648 := n6_; clear n0_ n1_ n2_ n3_ n4_ n5_ n6_; clear hb hbox hg; have hnb7 := NB648_649.out; have hnc7 := NB649_648.out; have hcz8_0 : w6.cell? ⟨gb648, 0, none⟩ = some (.int .i64 a0_0) := (blk_cell BK648.out 0).trans rfl; have hcz8_1 : w6.cell? ⟨gb648, 1, none⟩ = some (.slice A0_1 l0_1.length c0_1) := (blk_cell BK648.out 1).trans rfl; have hfz8_0 := blk_frozen BK648.out 0; have hfz8_1 := blk_frozen BK648.out 1; have hcz9_0 : w6.cell? ⟨gb649, 0, none⟩ = some (.int .i64 a1_0) := (blk_cell BK649.out 0).trans rfl; have hcz9_1 : w6.cell? ⟨gb649, 1, none⟩ = some (.slice A1_1 l1_1.length c1_1) := (blk_cell BK649.out 1).trans rfl; have hfz9_0 := blk_frozen BK649.out 0; have hfz9_1 := blk_frozen BK649.out 1) | (go_at_call 83; (with_reducible refine (api_Name_83.calls k _ _ l0_1 _ _ l1_1 t650 _ ?side1 ?side2 ?side3 ?side4 A4.out).mono ?_); (case side1 => repeat (first | exact (Kd.C_below HR0_1.out HB.out) | (with_reducible refine Kd.C_alloc ?_ _) | (with_reducible refine Kd.C_drewN ?_ _) | (with_reducible refine Kd.C_drew ?_))); (case side2 => exact HC0_1.out); (case side3 => repeat (first | exact (Kd.C_below HR1_1.out HB.out) | (with_reducible refine Kd.C_alloc ?_ _) | (with_reducible refine Kd.C_drewN ?_ _) | (with_reducible refine Kd.C_drew ?_))); (case side4 => exact HC1_1.out); rintro e w' ⟨rfl, ⟨nd, rfl⟩⟩))
  go_ret
  exact ⟨by first | rfl | (simp [errW_none, errW_some] <;> rfl) | (simp [*, errW_none, errW_some] <;> rfl), by repeat (first | (with_reducible first | exact HB.out | apply below_alloc | apply pw_below_drewN | apply below_drew1 | refine below_set ?_ GE648.out | refine below_set ?_ GE649.out) | exact HB.out)⟩
 ·rw [if_neg c3] at H
  have c3b0 : (a0_0 == a1_0) = false := beq_eq_false_iff_ne.mpr c3
  have c3b1 : (a0_0 != a1_0) = true := bne_iff_ne.mpr c3
  obtain rfl := Option.some.inj H
  go_enter Try.func41, Try.ntmps41
  go_wp2_with (first | ((with_reducible refine gate_dst (N := 2) rfl ?_); refine box_event ?hg (N := 2) ?hd (cs := #[.int .i64 a0_0, .slice A0_1 l0_1.length c0_1]) (t := 32) ?hr ?_; (case hd => rfl); (case hg => rfl); (case hr => first | (go_simp; done) | (go_simp; rfl)); intro gb648 hg w10 hbox hb; have n0_ := Aside0.mk (below_step (by repeat (first | (with_reducible first | exact HB.out | apply below_alloc | apply pw_below_drewN | apply below_drew1) | exact HB.out)) hb); have n1_ := Aside0.mk (hbox); have n2_ := Aside0.mk ((by rw [hg]; exact (below_size (by repeat (first | (with_reducible first | exact HB.out | apply below_alloc | apply pw_below_drewN | apply below_drew1) | exact HB.out))) : w.heap.size ≤ gb648)); have n3_ := Aside0.mk ((by rw [hg]; exact (below_size (by repeat (first | (with_reducible first | exact HB.out | apply below_alloc | apply pw_below_drewN | apply below_drew1) | exact HB.out))) : w.heap.size ≤ gb648)); clear HB; have HB := n0_; have BK648 := n1_; have GW648 := n2_; have GE648 := n3_; clear n0_ n1_ n2_ n3_; clear hb hbox hg) | ((with_reducible refine gate_dst (N := 3) rfl ?_); refine box_event ?hg (N := 3) ?hd (cs := #[.int .i64 a1_0, .slice A1_1 l1_1.length c1_1]) (t := 32) ?hr ?_; (case hd => rfl); (case hg => rfl); (case hr => first | (go_simp; done) | (go_simp; rfl)); intro gb649 hg w11 hbox hb; have n0_ := Aside0.mk (blk_below (g := gb648) (o := .cells #[.int .i64 a0_0, .slice A0_1 l0_1.length c0_1] 32 (0, 0)) (by (with_reducible repeat (first | refine blk_drewN ?_ _ | refine blk_drew ?_ | refine blk_alloc ?_ _)); exact BK648.out) hb); have n1_ := Aside0.mk (below_step (by repeat (first | (with_reducible first | exact HB.out | apply below_alloc | apply pw_below_drewN | apply below_drew1 | refine below_set ?_ GE648.out) | exact HB.out)) hb); have n2_ := Aside0.mk (hbox); have n3_ := Aside0.mk ((by rw [hg]; exact (below_size (by repeat (first | (with_reducible first | exact HB.out | apply below_alloc | apply pw_below_drewN | apply below_drew1 | refine below_set ?_ GE648.out) | exact HB.out))) : w.heap.size ≤ gb649)); have n4_ := Aside0.mk ((by rw [hg]; exact (below_size (by repeat (first | (with_reducible first | exact HB.out | apply below_alloc | apply pw_below_drewN | apply below_drew1 | refine below_set ?_ GE648.out) | exact HB.out))) : w.heap.size ≤ gb649)); have n5_ := Aside0.mk ((by rw [hg]; exact Nat.ne_of_lt (blk_lt (g := gb648) (o := .cells #[.int .i64 a0_0, .slice A0_1 l0_1.length c0_1] 32 (0, 0)) (by (with_reducible repeat (first | refine blk_drewN ?_ _ | refine blk_drew ?_ | refine blk_alloc ?_ _)); exact BK648.out)) : gb648 ≠ gb649)); have n6_ := Aside0.mk ((by rw [hg]; exact Nat.ne_of_gt (blk_lt (g := gb648) (o := .cells #[.int .i64 a0_0, .slice A0_1 l0_1.length c0_1] 32 (0, 0)) (by (with_reducible repeat (first | refine blk_drewN ?_ _ | refine blk_drew ?_ | refine blk_alloc ?_ _)); exact BK648.out)) : gb649 ≠ gb648)); clear BK648; clear HB; have BK648 := n0_; have HB := n1_; have BK649 := n2_; have GW649 := n3_; have GE649 := n4_; have NB648_649 := n5_; have NB649_648 := n6_; clear n0_ n1_ n2_ n3_ n4_ n5_ n6_; clear hb hbox hg; have hnb12 := NB648_649.out; have hnc12 := NB649_648.out; have hcz13_0 : w11.cell? ⟨gb648, 0, none⟩ = some (.int .i64 a0_0) := (blk_cell BK648.out 0).trans rfl; have hcz13_1 : w11.cell? ⟨gb648, 1, none⟩ = some (.slice A0_1 l0_1.length c0_1) := (blk_cell BK648.out 1).trans rfl; have hfz13_0 := blk_frozen BK648.out 0; have hfz13_1 := blk_frozen BK648.out 1; have hcz14_0 : w11.cell? ⟨gb649, 0, none⟩ = some (.int .i64 a1_0) := (blk_cell BK649.out 0).trans rfl; have hcz14_1 : w11.cell? ⟨gb649, 1, none⟩ = some (.slice A1_1 l1_1.length c1_1) := (blk_cell BK649.out 1).trans rfl; have hfz14_0 := blk_frozen BK649.out 0; have hfz14_1 := blk_frozen BK649.out 1))
  go_ret
  exact ⟨by first | rfl | (simp [errW_none, errW_some] <;> rfl) | (simp [*, errW_none, errW_some] <;> rfl), by repeat (first | (with_reducible first | exact HB.out | apply below_alloc | apply pw_below_drewN | apply below_drew1 | refine below_set ?_ GE648.out | refine below_set ?_ GE649.out) | exact HB.out)⟩
end Go.Proofs.Ytodhkbahjomfhaa.Q

namespace Go.Proofs.Ytodhkbahjomfhaa.Gdo
open Go Go.RowKit Go.Proofs.Ytodhkbahjomfhaa.Gqb Go.Proofs.Ytodhkbahjomfhaa.Q Go.Proofs.YtodhkbahjomfhaaW.PrintWords Go.Proofs.YtodhkbahjomfhaaW.PrintLast Go.Proofs.YtodhkbahjomfhaaW.PrintMore
set_option linter.unusedVariables false
theorem deck_blk {w0 W : World} {g : Nat} {f0 : List Int} {f1 : Int} (h : IsS86 w0 W g f0 f1) : ∃ cells, W.heap[g]? = some (.cells cells 86 (0, 0)) := by
 obtain ⟨A0, c0, hb, -, -⟩ := h
 exact ⟨_, hb⟩
theorem keep5 {w0 W W' : World} {g g5 : Nat} {f0 : List Int} {f1 : Int} {cells : Array Value} (h5 : W.heap[g5]? = some (.cells cells 32 (0, 0))) (h : IsS86 w0 W g f0 f1) (hk : KeepBut W W' g none) : W'.heap[g5]? = some (.cells cells 32 (0, 0)) := by
 obtain ⟨cg, hg⟩ := deck_blk h
 refine (hk.2 g5 (blk_lt h5) ?_ (by simp)).trans h5
 rintro rfl
 rw [hg] at h5
 injection h5 with h5
 injection h5 with _ h5
 exact absurd h5 (by decide)
def LastOk (KK : Nat) (vb : Int) (nb : List S78) (v : Int) (vs : List S78) : Prop :=
 ∃ (m e : Int) (p q : List S78) (g c : Int) (z : Bool), manifest_Size.f KK v vs = some (m, e) ∧ storagebarterref08_Size.f KK v vs = some (m, e) ∧ manifest_Change.f KK v vs vb nb = some (p, q, g) ∧ storagebarterref08_Change.f KK v vs vb nb = some (p, q, g) ∧
  manifest_Check.f KK v vs = some c ∧ storagebarterref08_Check.f KK v vs = some c ∧ storagebarterref08_SameNames.f KK p p = some true ∧ storagebarterref08_SameNames.f KK q q = some true ∧ manifest_Same.f KK v vs vb nb = some z ∧ storagebarterref08_Same.f KK v vs vb nb = some z
def OfOk (KK : Nat) (q : List ByteArray) (n : Int) : Prop := ∃ (x1 : Int) (x2 : List S78) (e : Int), manifest_Of.f n q = some (x1, x2, e) ∧ storagebarterref08_Of.f KK n q = some (x1, x2, e) ∧ storagebarterref08_Same.f KK x1 x2 x1 x2 = some true
def ReOk2 (KK : Nat) (q : List ByteArray) (v : Int) (vs : List S78) : Prop := ∃ (s : ByteArray) (e : Int), manifest_Restore.f v vs q = some (s, e) ∧ storagebarterref08_Restore.f KK v vs q = some (s, e)
structure Does (KK : Nat) (L : List Int) (a : Int) (ns : List S78) (ts : List ByteArray) (num m9 : Int) (cs : List ByteArray) (at1 va : Int) (na : List S78) (at2 vb : Int) (nb : List S78) (at3 vo : Int) (no : List S78) (eo : Int) : Prop where
 f4 : storagebartermake_Chunks.f KK L 0 = some (cs, at1)
 f5 : storagebartermake_Version.f KK L at1 = some (va, na, at2)
 f6 : storagebartermake_Version.f KK L at2 = some (vb, nb, at3)
 f7 : storagebarterref08_Of.f KK 3 cs = some (vo, no, eo)
 f8 : storagebartermake_Mod.f num 9 = some m9
 f9 : OfOk KK ts num ∧ OfOk KK ts (wrap64 (1 + m9)) ∧ OfOk KK cs num ∧ OfOk KK cs (wrap64 (1 + m9))
 g1 : ReOk2 KK ts a ns ∧ ReOk2 KK ts va na ∧ ReOk2 KK ts vo no
 g2 : ReOk2 KK cs a ns ∧ ReOk2 KK cs va na ∧ ReOk2 KK cs vo no
 g3 : LastOk KK vb nb a ns ∧ LastOk KK vb nb va na
structure DoW (w W : World) (g5 g11 g12 g13 : Nat) (a : Int) (A1 : Option Addr) (c1 : Nat) (ns : List S78) (va : Int) (A11 : Option Addr) (c11 : Nat) (na : List S78) (vb : Int) (A12 : Option Addr) (c12 : Nat) (nb : List S78) (vo : Int) (A13 : Option Addr) (c13 : Nat) (no : List S78) (A10 : Option Addr) (cs : List ByteArray) : Prop where
 hb : Below w.heap.size w W
 b5 : W.heap[g5]? = some (.cells #[.int .i64 a, .slice A1 ns.length c1] 32 (0, 0))
 b11 : W.heap[g11]? = some (.cells #[.int .i64 va, .slice A11 na.length c11] 32 (0, 0))
 b12 : W.heap[g12]? = some (.cells #[.int .i64 vb, .slice A12 nb.length c12] 32 (0, 0))
 b13 : W.heap[g13]? = some (.cells #[.int .i64 vo, .slice A13 no.length c13] 32 (0, 0))
 ra : Kd.C k78 W A11 na.length na
 rb : Kd.C k78 W A12 nb.length nb
 ro : Kd.C k78 W A13 no.length no
 rc : Kd.C Kd.string W A10 cs.length cs
section
variable {w W W' : World} {g5 g11 g12 g13 : Nat} {a : Int} {A1 : Option Addr} {c1 : Nat} {ns : List S78} {va : Int} {A11 : Option Addr} {c11 : Nat} {na : List S78} {vb : Int} {A12 : Option Addr} {c12 : Nat} {nb : List S78} {vo : Int} {A13 : Option Addr} {c13 : Nat} {no : List S78} {A10 : Option Addr} {cs : List ByteArray}
theorem DoW.below (h : DoW w W g5 g11 g12 g13 a A1 c1 ns va A11 c11 na vb A12 c12 nb vo A13 c13 no A10 cs) (hb : Below W.heap.size W W') : DoW w W' g5 g11 g12 g13 a A1 c1 ns va A11 c11 na vb A12 c12 nb vo A13 c13 no A10 cs :=
 ⟨below_step h.hb hb, blk_below h.b5 hb, blk_below h.b11 hb, blk_below h.b12 hb, blk_below h.b13 hb, Kd.C_below h.ra hb, Kd.C_below h.rb hb, Kd.C_below h.ro hb, Kd.C_below h.rc hb⟩
theorem DoW.alloc (h : DoW w W g5 g11 g12 g13 a A1 c1 ns va A11 c11 na vb A12 c12 nb vo A13 c13 no A10 cs) (o : Obj) : DoW w (W.alloc o) g5 g11 g12 g13 a A1 c1 ns va A11 c11 na vb A12 c12 nb vo A13 c13 no A10 cs := h.below (below_alloc (Below.refl _ _) o)
end
set_option maxRecDepth 100000 in
set_option maxHeartbeats 8000000 in
theorem calls (KK : Nat) (A0 : Option Addr) (c0 : Nat) (L : List Int) (a : Int) (A1 : Option Addr) (c1 : Nat) (ns : List S78) (A2 : Option Addr) (c2 : Nat) (ts : List ByteArray) (num : Int) (b3 : Bool)
 (m9 : Int) (cs : List ByteArray) (at1 va : Int) (na : List S78) (at2 vb : Int) (nb : List S78) (at3 vo : Int) (no : List S78) (eo : Int) (w : World)
 (hr0 : Kd.C (Kd.int .i64) w A0 L.length L) (hc0 : L.length ≤ c0) (hr1 : Kd.C k78 w A1 ns.length ns) (hc1 : ns.length ≤ c1) (hr2 : Kd.C Kd.string w A2 ts.length ts) (hc2 : ts.length ≤ c2)
 (hs : storagebarterlaw08_sane.f KK = some true) (h3 : storagebarterlaw08_small.f KK ts = some b3) (hd : (L.length : Int) ≤ 500 → (ns.length : Int) ≤ 400 → b3 = true → Does KK L a ns ts num m9 cs at1 va na at2 vb nb at3 vo no eo) :
 Calls Try.prog 12 #[.slice A0 L.length c0, .agg #[.int .i64 a, .slice A1 ns.length c1], .slice A2 ts.length c2, .int .i64 num] w fun e w' => e = .returned (.bool true) ∧ Below w.heap.size w w' := by
 have hu32 := Try.underlying32
 have HR0 := Aside0.mk hr0
 have HR1 := Aside0.mk hr1
 have HR2 := Aside0.mk hr2
 have HB := Aside0.mk (Below.refl w.heap.size w)
 have F1 := Aside0.mk hs
 have F3 := Aside0.mk h3
 clear hr0 hr1 hr2 hs h3
 by_cases h1 : (L.length : Int) ≤ 500
 case neg =>
  have F2 : Aside0 (storagebartermake_Few.f L = some false) := ⟨by unfold storagebartermake_Few.f; rw [decide_eq_false h1]⟩
  clear h1 hd
  go_enter Try.func12, Try.ntmps12
  go_wp2_with (first | ((with_reducible refine gate_dst (N := 5) rfl ?_); refine box_event ?hg (N := 5) ?hd (cs := #[.int .i64 a, .slice A1 ns.length c1]) (t := 32) ?hr ?_; (case hd => rfl); (case hg => rfl); (case hr => first | (go_simp; done) | (go_simp; rfl)); intro g5 hg w1 hbox hb; have BK5 := Aside0.mk hbox; have n0_ := Aside0.mk (below_step HB.out hb); clear HB; have HB := n0_; clear n0_; clear hb hbox hg) | (go_at_call 13; with_reducible refine (storagebarterlaw08_sane.calls KK true _ F1.out).mono ?_; rintro e w2 ⟨rfl, hb⟩; have n5_ := Aside0.mk (blk_below BK5.out hb); clear BK5; have BK5 := n5_; clear n5_; have n0_ := Aside0.mk (below_step HB.out hb); clear HB; have HB := n0_; clear n0_; clear hb) | (go_at_call 14; with_reducible refine (storagebartermake_Few.calls A0 c0 L _ _ (Kd.C_below HR0.out HB.out) hc0 F2.out).mono ?_; rintro e w3 ⟨rfl, hd⟩; have hb := hd.below; have n5_ := Aside0.mk (blk_below BK5.out hb); clear BK5; have BK5 := n5_; clear n5_; have n0_ := Aside0.mk (below_step HB.out hb); clear HB; have HB := n0_; clear n0_; clear hb hd; have hx5_1 : w3.cell? ⟨g5, 1, none⟩ = some (.slice A1 ns.length c1) := (blk_cell BK5.out 1).trans rfl))
  go_ret
  exact ⟨rfl, HB.out⟩
 case pos =>
 have F2 : Aside0 (storagebartermake_Few.f L = some true) := ⟨by unfold storagebartermake_Few.f; rw [decide_eq_true h1]⟩
 by_cases h2 : (ns.length : Int) ≤ 400
 case neg =>
  have hz : decide (400 < (ns.length : Int)) = true := decide_eq_true (by omega)
  have hz' : decide (400 < ns.length) = true := decide_eq_true (by omega)
  clear h1 h2 hd
  go_enter Try.func12, Try.ntmps12
  go_wp2_with (first | ((with_reducible refine gate_dst (N := 5) rfl ?_); refine box_event ?hg (N := 5) ?hd (cs := #[.int .i64 a, .slice A1 ns.length c1]) (t := 32) ?hr ?_; (case hd => rfl); (case hg => rfl); (case hr => first | (go_simp; done) | (go_simp; rfl)); intro g5 hg w1 hbox hb; have BK5 := Aside0.mk hbox; have n0_ := Aside0.mk (below_step HB.out hb); clear HB; have HB := n0_; clear n0_; clear hb hbox hg) | (go_at_call 13; with_reducible refine (storagebarterlaw08_sane.calls KK true _ F1.out).mono ?_; rintro e w2 ⟨rfl, hb⟩; have n5_ := Aside0.mk (blk_below BK5.out hb); clear BK5; have BK5 := n5_; clear n5_; have n0_ := Aside0.mk (below_step HB.out hb); clear HB; have HB := n0_; clear n0_; clear hb) | (go_at_call 14; with_reducible refine (storagebartermake_Few.calls A0 c0 L _ _ (Kd.C_below HR0.out HB.out) hc0 F2.out).mono ?_; rintro e w3 ⟨rfl, hd⟩; have hb := hd.below; have n5_ := Aside0.mk (blk_below BK5.out hb); clear BK5; have BK5 := n5_; clear n5_; have n0_ := Aside0.mk (below_step HB.out hb); clear HB; have HB := n0_; clear n0_; clear hb hd; have hx5_1 : w3.cell? ⟨g5, 1, none⟩ = some (.slice A1 ns.length c1) := (blk_cell BK5.out 1).trans rfl))
  go_ret
  exact ⟨rfl, HB.out⟩
 case pos =>
 have hz : decide (400 < (ns.length : Int)) = false := decide_eq_false (by omega)
 have hz' : decide (400 < ns.length) = false := decide_eq_false (by omega)
 cases b3 with
 | false =>
  clear h1 h2 hd
  go_enter Try.func12, Try.ntmps12
  go_wp2_with (first | ((with_reducible refine gate_dst (N := 5) rfl ?_); refine box_event ?hg (N := 5) ?hd (cs := #[.int .i64 a, .slice A1 ns.length c1]) (t := 32) ?hr ?_; (case hd => rfl); (case hg => rfl); (case hr => first | (go_simp; done) | (go_simp; rfl)); intro g5 hg w1 hbox hb; have BK5 := Aside0.mk hbox; have n0_ := Aside0.mk (below_step HB.out hb); clear HB; have HB := n0_; clear n0_; clear hb hbox hg) | (go_at_call 13; with_reducible refine (storagebarterlaw08_sane.calls KK true _ F1.out).mono ?_; rintro e w2 ⟨rfl, hb⟩; have n5_ := Aside0.mk (blk_below BK5.out hb); clear BK5; have BK5 := n5_; clear n5_; have n0_ := Aside0.mk (below_step HB.out hb); clear HB; have HB := n0_; clear n0_; clear hb) | (go_at_call 14; with_reducible refine (storagebartermake_Few.calls A0 c0 L _ _ (Kd.C_below HR0.out HB.out) hc0 F2.out).mono ?_; rintro e w3 ⟨rfl, hd⟩; have hb := hd.below; have n5_ := Aside0.mk (blk_below BK5.out hb); clear BK5; have BK5 := n5_; clear n5_; have n0_ := Aside0.mk (below_step HB.out hb); clear HB; have HB := n0_; clear n0_; clear hb hd; have hx5_1 : w3.cell? ⟨g5, 1, none⟩ = some (.slice A1 ns.length c1) := (blk_cell BK5.out 1).trans rfl) | (go_at_call 15; with_reducible refine (storagebarterlaw08_small.calls KK A2 c2 ts _ _ (Kd.C_below HR2.out HB.out) hc2 F3.out).mono ?_; rintro e w4 ⟨rfl, hd⟩; have hb := hd.below; clear hx5_1; have n5_ := Aside0.mk (blk_below BK5.out hb); clear BK5; have BK5 := n5_; clear n5_; have n0_ := Aside0.mk (below_step HB.out hb); clear HB; have HB := n0_; clear n0_; clear hb hd))
  go_ret
  exact ⟨rfl, HB.out⟩
 | true =>
 obtain ⟨f4, f5, f6, f7, f8, f9, g1, g2, g3⟩ := hd h1 h2 rfl
 have F4 := Aside0.mk f4
 have F5 := Aside0.mk f5
 have F6 := Aside0.mk f6
 have F7 := Aside0.mk f7
 have F8 := Aside0.mk f8
 have F9 := Aside0.mk f9
 have G1 := Aside0.mk g1
 have G2 := Aside0.mk g2
 have G3 := Aside0.mk g3
 clear h1 h2 hd f4 f5 f6 f7 f8 f9 g1 g2 g3
 go_enter Try.func12, Try.ntmps12
 go_wp2_with (first | ((with_reducible refine gate_dst (N := 5) rfl ?_); refine box_event ?hg (N := 5) ?hd (cs := #[.int .i64 a, .slice A1 ns.length c1]) (t := 32) ?hr ?_; (case hd => rfl); (case hg => rfl); (case hr => first | (go_simp; done) | (go_simp; rfl)); intro g5 hg w1 hbox hb; have BK5 := Aside0.mk hbox; have n0_ := Aside0.mk (below_step HB.out hb); clear HB; have HB := n0_; clear n0_; clear hb hbox hg) | (go_at_call 13; with_reducible refine (storagebarterlaw08_sane.calls KK true _ F1.out).mono ?_; rintro e w2 ⟨rfl, hb⟩; have n5_ := Aside0.mk (blk_below BK5.out hb); clear BK5; have BK5 := n5_; clear n5_; have n0_ := Aside0.mk (below_step HB.out hb); clear HB; have HB := n0_; clear n0_; clear hb) | (go_at_call 14; with_reducible refine (storagebartermake_Few.calls A0 c0 L _ _ (Kd.C_below HR0.out HB.out) hc0 F2.out).mono ?_; rintro e w3 ⟨rfl, hd⟩; have hb := hd.below; have n5_ := Aside0.mk (blk_below BK5.out hb); clear BK5; have BK5 := n5_; clear n5_; have n0_ := Aside0.mk (below_step HB.out hb); clear HB; have HB := n0_; clear n0_; clear hb hd; have hx5_1 : w3.cell? ⟨g5, 1, none⟩ = some (.slice A1 ns.length c1) := (blk_cell BK5.out 1).trans rfl) | (go_at_call 15; with_reducible refine (storagebarterlaw08_small.calls KK A2 c2 ts _ _ (Kd.C_below HR2.out HB.out) hc2 F3.out).mono ?_; rintro e w4 ⟨rfl, hd⟩; have hb := hd.below; clear hx5_1; have n5_ := Aside0.mk (blk_below BK5.out hb); clear BK5; have BK5 := n5_; clear n5_; have n0_ := Aside0.mk (below_step HB.out hb); clear HB; have HB := n0_; clear n0_; clear hb hd) | (go_at_call 16; with_reducible refine (storagebartermake_New.calls A0 c0 L L 0 w _ HB.out HR0.out hc0 rfl).mono ?_; rintro e w5 ⟨gd, rfl, hI, hB, hb⟩; have HI := Aside0.mk hI; have n5_ := Aside0.mk (blk_below BK5.out hb); clear BK5; have BK5 := n5_; clear n5_; clear HB; have HB := Aside0.mk hB; clear hI hB hb) | (go_at_call 17; with_reducible refine (storagebartermake_Chunks.calls KK gd L 0 cs at1 w _ HI.out HB.out F4.out).mono ?_; rintro e w6 ⟨vc, rfl, hR, hI, hB, hk⟩; obtain ⟨Ac, cc, rfl⟩ := Kd.R_slice hR; have HCS := Aside0.mk (Kd.R_lower hR HB.out.size); have n5_ := Aside0.mk (keep5 BK5.out HI.out hk); clear BK5 HI HB; have BK5 := n5_; have HI := Aside0.mk hI; have HB := Aside0.mk hB; clear n5_ hR hI hB hk) | (go_at_call 33; with_reducible refine (storagebartermake_Version.calls KK gd L at1 va na at2 w _ HI.out HB.out F5.out).mono ?_; rintro e w7 ⟨v1, rfl, hR, hI, hB, hk⟩; obtain ⟨cg, hbg⟩ := deck_blk HI.out; obtain ⟨A11, c11, rfl⟩ := Kd.R_slice hR; have nc_ := Aside0.mk (Kd.R_mono (Kd.R_keep (Kd.R_types HCS.out hbg (by first | decide | (intro q hq; rcases List.mem_cons.1 hq with h_ | h_; (subst h_; decide); (first | (cases h_; done) | (simp [Kd.string, Kd.scalar] at h_))))) hk (fun _ z => z.2)) (fun _ _ => trivial)); have HNA := Aside0.mk (Kd.R_lower hR HB.out.size); have n5_ := Aside0.mk (keep5 BK5.out HI.out hk); clear BK5 HI HB HCS; have BK5 := n5_; have HCS := nc_; have HI := Aside0.mk hI; have HB := Aside0.mk hB; clear n5_ nc_ hR hI hB hk hbg) | (go_at_call 33; with_reducible refine (storagebartermake_Version.calls KK gd L at2 vb nb at3 w _ HI.out HB.out F6.out).mono ?_; rintro e w8 ⟨v2, rfl, hR, hI, hB, hk⟩; obtain ⟨cg, hbg⟩ := deck_blk HI.out; obtain ⟨A12, c12, rfl⟩ := Kd.R_slice hR; have nc_ := Kd.R_keep (Kd.R_types HCS.out hbg (by first | decide | (intro q hq; rcases List.mem_cons.1 hq with h_ | h_; (subst h_; decide); (first | (cases h_; done) | (simp [Kd.string, Kd.scalar] at h_))))) hk (fun _ z => z.2); have na_ := Kd.R_keep (Kd.R_types HNA.out hbg (by first | decide | (intro q hq; rcases List.mem_cons.1 hq with h_ | h_; (subst h_; decide); (first | (cases h_; done) | (simp [k78] at h_))))) hk (fun _ z => z.2); have HCc := Aside0.mk (Kd.R_reads' nc_).2.2; have HCl := Aside0.mk (Kd.R_reads' nc_).2.1; have HCa := Aside0.mk (Kd.R_reads' na_).2.2; have HCal := Aside0.mk (Kd.R_reads' na_).2.1; have HCb := Aside0.mk (Kd.R_reads' hR).2.2; have HCbl := Aside0.mk (Kd.R_reads' hR).2.1; have n5_ := Aside0.mk (keep5 BK5.out HI.out hk); clear BK5 HI HB HCS HNA; have BK5 := n5_; have HB := Aside0.mk hB; clear n5_ nc_ na_ hR hI hB hk hbg) | (go_at_call 51; have hb0 : Below w8.heap.size w8 ((w8.alloc (.cells #[.int .i64 va, .slice A11 na.length c11] 32)).alloc (.cells #[.int .i64 vb, .slice A12 nb.length c12] 32)) := below_alloc (below_alloc (Below.refl _ _) _) _; with_reducible refine (storagebarterref08_Of.calls KK 3 Ac cc cs vo no eo _ (Kd.C_below HCc.out hb0) HCl.out F7.out).mono ?_; rintro e w9 ⟨v3, rfl, hR, hb⟩; obtain ⟨A13, c13, rfl⟩ := Kd.R_slice hR; have HD : Aside0 (DoW w (w9.alloc (.cells #[.int .i64 vo, .slice A13 no.length c13] 32)) g5 w8.heap.size (w8.heap.size + 1) w9.heap.size a A1 c1 ns va A11 c11 na vb A12 c12 nb vo A13 c13 no Ac cs) := ⟨⟨below_alloc (below_step (below_alloc (below_alloc HB.out _) _) hb) _, blk_alloc (blk_below (blk_alloc (blk_alloc BK5.out _) _) hb) _, blk_alloc (blk_below (blk_alloc (heap_alloc_new w8 _) _) hb) _, blk_alloc (blk_below (by simpa using heap_alloc_new (w8.alloc (.cells #[.int .i64 va, .slice A11 na.length c11] 32)) (.cells #[.int .i64 vb, .slice A12 nb.length c12] 32)) hb) _, heap_alloc_new w9 _, Kd.C_below HCa.out (below_alloc (below_step hb0 hb) _), Kd.C_below HCb.out (below_alloc (below_step hb0 hb) _), Kd.C_below (Kd.R_reads' hR).2.2 (below_alloc (Below.refl _ _) _), Kd.C_below HCc.out (below_alloc (below_step hb0 hb) _)⟩⟩; have HC3l := Aside0.mk (Kd.R_reads' hR).2.1; clear BK5 HB HCc HCa HCb hb0 hb hR))
 have HQ : Aside0 ((w9.alloc (.cells #[.int .i64 vo, .slice A13 no.length c13] 32)).alloc (.cells #[.slice A2 ts.length c2, .slice Ac cs.length cc] 23) |>.heap[w9.heap.size + 1]? = some (.cells #[.slice A2 ts.length c2, .slice Ac cs.length cc] 23 (0, 0))) := ⟨by simpa using heap_alloc_new (w9.alloc (.cells #[.int .i64 vo, .slice A13 no.length c13] 32)) (.cells #[.slice A2 ts.length c2, .slice Ac cs.length cc] 23)⟩
 go_loopw [8, 74] (fun v8 v74 wr => ∃ (k : Nat), k ≤ 2 ∧ v8 = .bool false ∧ v74 = .int .i64 k ∧ Aside0 (DoW w wr g5 w8.heap.size (w8.heap.size + 1) w9.heap.size a A1 c1 ns va A11 c11 na vb A12 c12 nb vo A13 c13 no Ac cs) ∧ Aside0 (wr.heap[w9.heap.size + 1]? = some (.cells #[.slice A2 ts.length c2, .slice Ac cs.length cc] 23 (0, 0)))) (fun _ v74 _ => 2 - (intOf v74).toNat)
 case atStart => exact ⟨0, by omega, rfl, rfl, ⟨HD.out.alloc _⟩, HQ⟩
 case round =>
  clear HD HQ
  obtain ⟨k, hk, rfl, rfl, HD, HQ⟩ := hrel
  by_cases hlt : k < 2
  case pos =>
   obtain ⟨Aq, cq, q, hcell, hC, hcq, ho, hr1, hr2, hr3⟩ : ∃ (Aq : Option Addr) (cq : Nat) (q : List ByteArray), wr.cell? ⟨w9.heap.size + 1, k, none⟩ = some (.slice Aq q.length cq) ∧ Kd.C Kd.string wr Aq q.length q ∧ q.length ≤ cq ∧ (∀ n, n = num ∨ n = wrap64 (1 + m9) → OfOk KK q n) ∧ ReOk2 KK q a ns ∧ ReOk2 KK q va na ∧ ReOk2 KK q vo no := by
    have f9 := F9.out
    rcases Nat.lt_or_ge k 1 with h | h
    ·obtain rfl : k = 0 := by omega
     exact ⟨A2, c2, ts, (blk_cell HQ.out 0).trans rfl, Kd.C_below HR2.out HD.out.hb, hc2, fun n hn => by rcases hn with rfl | rfl; exact f9.1; exact f9.2.1, G1.out⟩
    ·obtain rfl : k = 1 := by omega
     exact ⟨Ac, cc, cs, (blk_cell HQ.out 1).trans rfl, HD.out.rc, HCl.out, fun n hn => by rcases hn with rfl | rfl; exact f9.2.2.1; exact f9.2.2.2, G2.out⟩
   have HCq := Aside0.mk hC
   have HOf := Aside0.mk ho
   have HR1q := Aside0.mk (And.intro hr1 (And.intro hr2 hr3))
   clear hC ho hr1 hr2 hr3
   go_wp2_with (go_at_call 52; with_reducible refine (storagebartermake_Mod.calls num 9 m9 _ F8.out).mono ?_; rintro e w10 ⟨rfl, hd⟩; have hb := hd.below; have n1_ := Aside0.mk (HD.out.below hb); have n2_ := Aside0.mk (blk_below HQ.out hb); have n3_ := Aside0.mk (Kd.C_below HCq.out hb); clear HD HQ HCq hcell; have HD := n1_; have HQ := n2_; have HCq := n3_; clear n1_ n2_ n3_ hb hd)
   have HN : Aside0 ((w10.alloc (.cells #[.int .i64 num, .int .i64 (wrap64 (1 + m9))] 3)).heap[w10.heap.size]? = some (.cells #[.int .i64 num, .int .i64 (wrap64 (1 + m9))] 3 (0, 0))) := ⟨heap_alloc_new w10 _⟩
   go_loopw [8, 84] (fun v8 v84 wr => ∃ (j : Nat), j ≤ 2 ∧ v8 = .bool false ∧ v84 = .int .i64 j ∧ Aside0 (DoW w wr g5 w8.heap.size (w8.heap.size + 1) w9.heap.size a A1 c1 ns va A11 c11 na vb A12 c12 nb vo A13 c13 no Ac cs) ∧ Aside0 (wr.heap[w9.heap.size + 1]? = some (.cells #[.slice A2 ts.length c2, .slice Ac cs.length cc] 23 (0, 0))) ∧ Aside0 (Kd.C Kd.string wr Aq q.length q) ∧ Aside0 (wr.heap[w10.heap.size]? = some (.cells #[.int .i64 num, .int .i64 (wrap64 (1 + m9))] 3 (0, 0)))) (fun _ v84 _ => 2 - (intOf v84).toNat)
   case atStart => exact ⟨0, by omega, rfl, rfl, ⟨HD.out.alloc _⟩, ⟨blk_alloc HQ.out _⟩, ⟨Kd.C_alloc HCq.out _⟩, HN⟩
   case round =>
    clear HD HQ HCq HN
    obtain ⟨j, hj, rfl, rfl, HD, HQ, HCq, HN⟩ := hrel
    by_cases hlt2 : j < 2
    case pos =>
     obtain ⟨n, hcell, hn⟩ : ∃ n, wr.cell? ⟨w10.heap.size, j, none⟩ = some (.int .i64 n) ∧ (n = num ∨ n = wrap64 (1 + m9)) := by
      rcases Nat.lt_or_ge j 1 with h | h
      ·obtain rfl : j = 0 := by omega
       exact ⟨_, (blk_cell HN.out 0).trans rfl, .inl rfl⟩
      ·obtain rfl : j = 1 := by omega
       exact ⟨_, (blk_cell HN.out 1).trans rfl, .inr rfl⟩
     obtain ⟨x1, x2, e1, o1, o2, o3⟩ := HOf.out n hn
     have O1 := Aside0.mk o1
     have O2 := Aside0.mk o2
     have O3 := Aside0.mk o3
     clear o1 o2 o3 hn
     go_wp2_with (first | (go_at_call 18; with_reducible refine (manifest_Of.calls n Aq cq q x1 x2 e1 _ HCq.out hcq O1.out).mono ?_; rintro e w11 ⟨v1, rfl, hR, hb⟩; obtain ⟨A19, c19, rfl⟩ := Kd.R_slice hR; have n1_ := Aside0.mk (HD.out.below hb); have n2_ := Aside0.mk (blk_below HQ.out hb); have n3_ := Aside0.mk (Kd.C_below HCq.out hb); have n4_ := Aside0.mk (blk_below HN.out hb); have H19 := Aside0.mk (Kd.R_reads' hR).2.2; have H19l := Aside0.mk (Kd.R_reads' hR).2.1; clear HD HQ HCq HN hcell; have HD := n1_; have HQ := n2_; have HCq := n3_; have HN := n4_; clear n1_ n2_ n3_ n4_ hb hR) | (go_at_call 51; have hb0 : Below w11.heap.size w11 (w11.alloc (.cells #[.int .i64 x1, .slice A19 x2.length c19] 32)) := below_alloc (Below.refl _ _) _; with_reducible refine (storagebarterref08_Of.calls KK n Aq cq q x1 x2 e1 _ (Kd.C_below HCq.out hb0) hcq O2.out).mono ?_; rintro e w12 ⟨v2, rfl, hR, hb'⟩; have hb := below_step hb0 hb'; obtain ⟨A21, c21, rfl⟩ := Kd.R_slice hR; have n1_ := Aside0.mk (HD.out.below hb); have n2_ := Aside0.mk (blk_below HQ.out hb); have n3_ := Aside0.mk (Kd.C_below HCq.out hb); have n4_ := Aside0.mk (blk_below HN.out hb); have n5_ := Aside0.mk (Kd.C_below H19.out hb); have H21 := Aside0.mk (Kd.R_reads' hR).2.2; have H21l := Aside0.mk (Kd.R_reads' hR).2.1; have B19 := Aside0.mk (blk_below (heap_alloc_new w11 (.cells #[.int .i64 x1, .slice A19 x2.length c19] 32)) hb'); clear HD HQ HCq HN H19; have HD := n1_; have HQ := n2_; have HCq := n3_; have HN := n4_; have H19 := n5_; clear n1_ n2_ n3_ n4_ n5_ hb hb0 hb' hR; have hx19_0 : (w12.alloc (.cells #[.int .i64 x1, .slice A21 x2.length c21] 32)).cell? ⟨w11.heap.size, 0, none⟩ = some (.int .i64 x1) := (blk_cell (blk_alloc B19.out _) 0).trans rfl; have hx19_1 : (w12.alloc (.cells #[.int .i64 x1, .slice A21 x2.length c21] 32)).cell? ⟨w11.heap.size, 1, none⟩ = some (.slice A19 x2.length c19) := (blk_cell (blk_alloc B19.out _) 1).trans rfl) | (go_at_call 37; have hb0 : Below w12.heap.size w12 (w12.alloc (.cells #[.int .i64 x1, .slice A21 x2.length c21] 32)) := below_alloc (Below.refl _ _) _; with_reducible refine (storagebarterref08_Same.calls KK x1 A19 c19 x2 x1 A21 c21 x2 true _ (Kd.C_below H19.out hb0) H19l.out (Kd.C_below H21.out hb0) H21l.out O3.out).mono ?_; rintro e w13 ⟨rfl, hb'⟩; have hb := below_step hb0 hb'; have n1_ := Aside0.mk (HD.out.below hb); have n2_ := Aside0.mk (blk_below HQ.out hb); have n3_ := Aside0.mk (Kd.C_below HCq.out hb); have n4_ := Aside0.mk (blk_below HN.out hb); clear HD HQ HCq HN hx19_0 hx19_1; have HD := n1_; have HQ := n2_; have HCq := n3_; have HN := n4_; clear n1_ n2_ n3_ n4_ hb hb0 hb'))
     go_roundw
     case rel => exact ⟨j + 1, by omega, rfl, by simp, HD, HQ, HCq, HN⟩
     case measure => simp only [intOf]; omega
    case neg =>
     obtain rfl : j = 2 := by omega
     have hv5_0 : wr.cell? ⟨g5, 0, none⟩ = some (.int .i64 a) := (blk_cell HD.out.b5 0).trans rfl
     have hv5_1 : wr.cell? ⟨g5, 1, none⟩ = some (.slice A1 ns.length c1) := (blk_cell HD.out.b5 1).trans rfl
     have hv11_0 : wr.cell? ⟨w8.heap.size, 0, none⟩ = some (.int .i64 va) := (blk_cell HD.out.b11 0).trans rfl
     have hv11_1 : wr.cell? ⟨w8.heap.size, 1, none⟩ = some (.slice A11 na.length c11) := (blk_cell HD.out.b11 1).trans rfl
     have hv13_0 : wr.cell? ⟨w9.heap.size, 0, none⟩ = some (.int .i64 vo) := (blk_cell HD.out.b13 0).trans rfl
     have hv13_1 : wr.cell? ⟨w9.heap.size, 1, none⟩ = some (.slice A13 no.length c13) := (blk_cell HD.out.b13 1).trans rfl
     have HV := Aside0.mk (heap_alloc_new wr (.cells #[.int .i64 a, .slice A1 ns.length c1, .int .i64 va, .slice A11 na.length c11, .int .i64 vo, .slice A13 no.length c13] 32))
     obtain ⟨g20, hg20⟩ : ∃ g20, wr.heap.size = g20 := ⟨_, rfl⟩
     have HG20 := Aside0.mk hg20
     rw [hg20] at HV
     clear HN hg20
     go_wp2
     rw [HG20.out]
     go_loopw [8, 115] (fun v8 v115 w2 => ∃ (i : Nat), i ≤ 3 ∧ v8 = .bool false ∧ v115 = .int .i64 i ∧ Aside0 (DoW w w2 g5 w8.heap.size (w8.heap.size + 1) w9.heap.size a A1 c1 ns va A11 c11 na vb A12 c12 nb vo A13 c13 no Ac cs) ∧ Aside0 (w2.heap[w9.heap.size + 1]? = some (.cells #[.slice A2 ts.length c2, .slice Ac cs.length cc] 23 (0, 0))) ∧ Aside0 (Kd.C Kd.string w2 Aq q.length q) ∧ Aside0 (w2.heap[g20]? = some (.cells #[.int .i64 a, .slice A1 ns.length c1, .int .i64 va, .slice A11 na.length c11, .int .i64 vo, .slice A13 no.length c13] 32 (0, 0)))) (fun _ v115 _ => 3 - (intOf v115).toNat)
     case atStart => exact ⟨0, by omega, rfl, rfl, ⟨HD.out.alloc _⟩, ⟨blk_alloc HQ.out _⟩, ⟨Kd.C_alloc HCq.out _⟩, HV⟩
     case round =>
      clear HD HQ HCq HV hv5_0 hv5_1 hv11_0 hv11_1 hv13_0 hv13_1
      obtain ⟨i, hi, rfl, rfl, HD, HQ, HCq, HV⟩ := hrel
      by_cases hlt3 : i < 3
      case pos =>
       obtain ⟨v, Ax, cx, xs, hx0, hx1, hCx, hcx, s, e1, r1, r2⟩ : ∃ (v : Int) (Ax : Option Addr) (cx : Nat) (xs : List S78), wr.cell? ⟨g20, i * 2, none⟩ = some (.int .i64 v) ∧ wr.cell? ⟨g20, i * 2 + 1, none⟩ = some (.slice Ax xs.length cx) ∧ Kd.C k78 wr Ax xs.length xs ∧ xs.length ≤ cx ∧ ReOk2 KK q v xs := by
        obtain ⟨q1, q2, q3⟩ := HR1q.out
        rcases Nat.lt_or_ge i 1 with h | h
        ·obtain rfl : i = 0 := by omega
         exact ⟨a, A1, c1, ns, (blk_cell HV.out 0).trans rfl, (blk_cell HV.out 1).trans rfl, Kd.C_below HR1.out HD.out.hb, hc1, q1⟩
        ·rcases Nat.lt_or_ge i 2 with h | h
         ·obtain rfl : i = 1 := by omega
          exact ⟨va, A11, c11, na, (blk_cell HV.out 2).trans rfl, (blk_cell HV.out 3).trans rfl, HD.out.ra, HCal.out, q2⟩
         ·obtain rfl : i = 2 := by omega
          exact ⟨vo, A13, c13, no, (blk_cell HV.out 4).trans rfl, (blk_cell HV.out 5).trans rfl, HD.out.ro, HC3l.out, q3⟩
       have O1 := Aside0.mk r1
       have O2 := Aside0.mk r2
       have HCx := Aside0.mk hCx
       clear r1 r2 hCx
       go_wp2_with (first | (go_at_call 20; have hb0 : Below wr.heap.size wr (wr.alloc (.cells #[.int .i64 v, .slice Ax xs.length cx] 32)) := below_alloc (Below.refl _ _) _; with_reducible refine (manifest_Restore.calls v Ax cx xs Aq cq q s e1 _ (Kd.C_below HCx.out hb0) hcx (Kd.C_below HCq.out hb0) hcq O1.out).mono ?_; rintro e w14 ⟨rfl, hb'⟩; have hb := below_step hb0 hb'; have n1_ := Aside0.mk (HD.out.below hb); have n2_ := Aside0.mk (blk_below HQ.out hb); have n3_ := Aside0.mk (Kd.C_below HCq.out hb); have n4_ := Aside0.mk (blk_below HV.out hb); have n5_ := Aside0.mk (Kd.C_below HCx.out hb); have B24 := Aside0.mk (blk_below (heap_alloc_new wr (.cells #[.int .i64 v, .slice Ax xs.length cx] 32)) hb'); clear HD HQ HCq HV HCx hx0 hx1; have HD := n1_; have HQ := n2_; have HCq := n3_; have HV := n4_; have HCx := n5_; clear n1_ n2_ n3_ n4_ n5_ hb hb0 hb'; have hx24_0 : w14.cell? ⟨wr.heap.size, 0, none⟩ = some (.int .i64 v) := (blk_cell B24.out 0).trans rfl; have hx24_1 : w14.cell? ⟨wr.heap.size, 1, none⟩ = some (.slice Ax xs.length cx) := (blk_cell B24.out 1).trans rfl) | (go_at_call 53; with_reducible refine (storagebarterref08_Restore.calls KK v Ax cx xs Aq cq q s e1 _ HCx.out hcx HCq.out hcq O2.out).mono ?_; rintro e w15 ⟨rfl, hb⟩; have n1_ := Aside0.mk (HD.out.below hb); have n2_ := Aside0.mk (blk_below HQ.out hb); have n3_ := Aside0.mk (Kd.C_below HCq.out hb); have n4_ := Aside0.mk (blk_below HV.out hb); clear HD HQ HCq HV HCx hx24_0 hx24_1 B24; have HD := n1_; have HQ := n2_; have HCq := n3_; have HV := n4_; clear n1_ n2_ n3_ n4_ hb))
       go_roundw
       case rel =>
        (repeat apply Exists.intro)
        refine ⟨?_, rfl⟩
        exact ⟨i + 1, by omega, rfl, by simp, HD, HQ, HCq, HV⟩
       case measure =>
        show 3 - (intOf (.int .i64 ((i : Int) + 1))).toNat < 3 - (intOf (.int .i64 (i : Int))).toNat
        simp only [intOf]
        omega
      case neg =>
       obtain rfl : i = 3 := by omega
       go_wp2
       go_roundw
       case rel => exact ⟨k + 1, by omega, rfl, by simp, HD, HQ⟩
       case measure => simp only [intOf]; omega
  case neg =>
   obtain rfl : k = 2 := by omega
   have hv5_0 : wr.cell? ⟨g5, 0, none⟩ = some (.int .i64 a) := (blk_cell HD.out.b5 0).trans rfl
   have hv5_1 : wr.cell? ⟨g5, 1, none⟩ = some (.slice A1 ns.length c1) := (blk_cell HD.out.b5 1).trans rfl
   have hv11_0 : wr.cell? ⟨w8.heap.size, 0, none⟩ = some (.int .i64 va) := (blk_cell HD.out.b11 0).trans rfl
   have hv11_1 : wr.cell? ⟨w8.heap.size, 1, none⟩ = some (.slice A11 na.length c11) := (blk_cell HD.out.b11 1).trans rfl
   have HV := Aside0.mk (heap_alloc_new wr (.cells #[.int .i64 a, .slice A1 ns.length c1, .int .i64 va, .slice A11 na.length c11] 32))
   obtain ⟨g20, hg20⟩ : ∃ g20, wr.heap.size = g20 := ⟨_, rfl⟩
   have HG20 := Aside0.mk hg20
   rw [hg20] at HV
   clear HQ hg20
   go_wp2
   rw [HG20.out]
   go_loopw [8, 145] (fun v8 v145 wr => ∃ (i : Nat), i ≤ 2 ∧ v8 = .bool false ∧ v145 = .int .i64 i ∧ Aside0 (DoW w wr g5 w8.heap.size (w8.heap.size + 1) w9.heap.size a A1 c1 ns va A11 c11 na vb A12 c12 nb vo A13 c13 no Ac cs) ∧ Aside0 (wr.heap[g20]? = some (.cells #[.int .i64 a, .slice A1 ns.length c1, .int .i64 va, .slice A11 na.length c11] 32 (0, 0)))) (fun _ v145 _ => 2 - (intOf v145).toNat)
   case atStart => exact ⟨0, by omega, rfl, rfl, ⟨HD.out.alloc _⟩, HV⟩
   case round =>
    clear HD HV hv5_0 hv5_1 hv11_0 hv11_1
    obtain ⟨i, hi, rfl, rfl, HD, HV⟩ := hrel
    by_cases hlt3 : i < 2
    case pos =>
     obtain ⟨v, Ax, cx, xs, hx0, hx1, hCx, hcx, m, e1, p, pq, g, c, z, r1, r2, r3, r4, r5, r6, r7, r8, r9, r10⟩ : ∃ (v : Int) (Ax : Option Addr) (cx : Nat) (xs : List S78), wr.cell? ⟨g20, i * 2, none⟩ = some (.int .i64 v) ∧ wr.cell? ⟨g20, i * 2 + 1, none⟩ = some (.slice Ax xs.length cx) ∧ Kd.C k78 wr Ax xs.length xs ∧ xs.length ≤ cx ∧ LastOk KK vb nb v xs := by
      obtain ⟨q1, q2⟩ := G3.out
      rcases Nat.lt_or_ge i 1 with h | h
      ·obtain rfl : i = 0 := by omega
       exact ⟨a, A1, c1, ns, (blk_cell HV.out 0).trans rfl, (blk_cell HV.out 1).trans rfl, Kd.C_below HR1.out HD.out.hb, hc1, q1⟩
      ·obtain rfl : i = 1 := by omega
       exact ⟨va, A11, c11, na, (blk_cell HV.out 2).trans rfl, (blk_cell HV.out 3).trans rfl, HD.out.ra, HCal.out, q2⟩
     have O1 := Aside0.mk r1
     have O2 := Aside0.mk r2
     have O3 := Aside0.mk r3
     have O4 := Aside0.mk r4
     have O5 := Aside0.mk r5
     have O6 := Aside0.mk r6
     have O7 := Aside0.mk r7
     have O8 := Aside0.mk r8
     have O9 := Aside0.mk r9
     have O10 := Aside0.mk r10
     have HCx := Aside0.mk hCx
     clear r1 r2 r3 r4 r5 r6 r7 r8 r9 r10 hCx
     go_wp2_with (first | (go_at_call 22; have hb0 : Below wr.heap.size wr (wr.alloc (.cells #[.int .i64 v, .slice Ax xs.length cx] 32)) := below_alloc (Below.refl _ _) _; with_reducible refine (manifest_Size.calls KK v Ax cx xs m e1 _ (Kd.C_below HCx.out hb0) hcx O1.out).mono ?_; rintro e w16 ⟨rfl, hb'⟩; have hb := below_step hb0 hb'; have n1_ := Aside0.mk (HD.out.below hb); have n2_ := Aside0.mk (blk_below HV.out hb); have n3_ := Aside0.mk (Kd.C_below HCx.out hb); have B30 := Aside0.mk (blk_below (heap_alloc_new wr (.cells #[.int .i64 v, .slice Ax xs.length cx] 32)) hb'); clear hx0 hx1; clear HD HV HCx; have HD := n1_; have HV := n2_; have HCx := n3_; clear n1_ n2_ n3_; clear hb hb0 hb'; generalize wr.heap.size = g30 at B30 ⊢; have hx30_0 : w16.cell? ⟨g30, 0, none⟩ = some (.int .i64 v) := (blk_cell B30.out 0).trans rfl; have hx30_1 : w16.cell? ⟨g30, 1, none⟩ = some (.slice Ax xs.length cx) := (blk_cell B30.out 1).trans rfl) | (go_at_call 54; with_reducible refine (storagebarterref08_Size.calls KK v Ax cx xs m e1 _ HCx.out hcx O2.out).mono ?_; rintro e w17 ⟨rfl, hb⟩; have n1_ := Aside0.mk (HD.out.below hb); have n2_ := Aside0.mk (blk_below HV.out hb); have n3_ := Aside0.mk (Kd.C_below HCx.out hb); have n4_ := Aside0.mk (blk_below B30.out hb); clear B30 hx30_0 hx30_1; have B30 := n4_; clear HD HV HCx; have HD := n1_; have HV := n2_; have HCx := n3_; clear n1_ n2_ n3_; clear n4_ hb; have hx30_0 : w17.cell? ⟨g30, 0, none⟩ = some (.int .i64 v) := (blk_cell B30.out 0).trans rfl; have hx30_1 : w17.cell? ⟨g30, 1, none⟩ = some (.slice Ax xs.length cx) := (blk_cell B30.out 1).trans rfl; have hx12_0 : w17.cell? ⟨w8.heap.size + 1, 0, none⟩ = some (.int .i64 vb) := (blk_cell HD.out.b12 0).trans rfl; have hx12_1 : w17.cell? ⟨w8.heap.size + 1, 1, none⟩ = some (.slice A12 nb.length c12) := (blk_cell HD.out.b12 1).trans rfl) | (go_at_call 47; with_reducible refine (manifest_Change.calls KK v Ax cx xs vb A12 c12 nb p pq g _ HCx.out hcx HD.out.rb HCbl.out O3.out).mono ?_; rintro e w18 ⟨v1, v2, rfl, hR1, hR2, hb⟩; obtain ⟨A35, c35, rfl⟩ := Kd.R_slice hR1; obtain ⟨A36, c36, rfl⟩ := Kd.R_slice hR2; have H35 := Aside0.mk (Kd.R_reads' hR1).2.2; have H35l := Aside0.mk (Kd.R_reads' hR1).2.1; have H36 := Aside0.mk (Kd.R_reads' hR2).2.2; have H36l := Aside0.mk (Kd.R_reads' hR2).2.1; have n1_ := Aside0.mk (HD.out.below hb); have n2_ := Aside0.mk (blk_below HV.out hb); have n3_ := Aside0.mk (Kd.C_below HCx.out hb); have n4_ := Aside0.mk (blk_below B30.out hb); clear B30 hx30_0 hx30_1 hx12_0 hx12_1; have B30 := n4_; clear HD HV HCx; have HD := n1_; have HV := n2_; have HCx := n3_; clear n1_ n2_ n3_; clear n4_ hb hR1 hR2; have hx30_0 : w18.cell? ⟨g30, 0, none⟩ = some (.int .i64 v) := (blk_cell B30.out 0).trans rfl; have hx30_1 : w18.cell? ⟨g30, 1, none⟩ = some (.slice Ax xs.length cx) := (blk_cell B30.out 1).trans rfl; have hx12_0 : w18.cell? ⟨w8.heap.size + 1, 0, none⟩ = some (.int .i64 vb) := (blk_cell HD.out.b12 0).trans rfl; have hx12_1 : w18.cell? ⟨w8.heap.size + 1, 1, none⟩ = some (.slice A12 nb.length c12) := (blk_cell HD.out.b12 1).trans rfl) | (go_at_call 55; with_reducible refine (storagebarterref08_Change.calls KK v Ax cx xs vb A12 c12 nb p pq g _ HCx.out hcx HD.out.rb HCbl.out O4.out).mono ?_; rintro e w19 ⟨v1, v2, rfl, hR1, hR2, hb⟩; obtain ⟨A38, c38, rfl⟩ := Kd.R_slice hR1; obtain ⟨A39, c39, rfl⟩ := Kd.R_slice hR2; have H38 := Aside0.mk (Kd.R_reads' hR1).2.2; have H38l := Aside0.mk (Kd.R_reads' hR1).2.1; have H39 := Aside0.mk (Kd.R_reads' hR2).2.2; have H39l := Aside0.mk (Kd.R_reads' hR2).2.1; have n1_ := Aside0.mk (HD.out.below hb); have n2_ := Aside0.mk (blk_below HV.out hb); have n3_ := Aside0.mk (Kd.C_below HCx.out hb); have n4_ := Aside0.mk (blk_below B30.out hb); have n5_ := Aside0.mk (Kd.C_below H35.out hb); have n6_ := Aside0.mk (Kd.C_below H36.out hb); clear B30 hx30_0 hx30_1 hx12_0 hx12_1 H35 H36; have B30 := n4_; have H35 := n5_; have H36 := n6_; clear HD HV HCx; have HD := n1_; have HV := n2_; have HCx := n3_; clear n1_ n2_ n3_; clear n4_ n5_ n6_ hb hR1 hR2))
     have q30_0 : ∀ p_ : BelowBy w19, p_.world.cell? ⟨g30, 0, none⟩ = some (.int .i64 v) := fun p_ => p_.cell (blk_lt B30.out) ((blk_cell B30.out 0).trans rfl)
     have q30_1 : ∀ p_ : BelowBy w19, p_.world.cell? ⟨g30, 1, none⟩ = some (.slice Ax xs.length cx) := fun p_ => p_.cell (blk_lt B30.out) ((blk_cell B30.out 1).trans rfl)
     have q12_0 : ∀ p_ : BelowBy w19, p_.world.cell? ⟨w8.heap.size + 1, 0, none⟩ = some (.int .i64 vb) := fun p_ => p_.cell (blk_lt HD.out.b12) ((blk_cell HD.out.b12 0).trans rfl)
     have q12_1 : ∀ p_ : BelowBy w19, p_.world.cell? ⟨w8.heap.size + 1, 1, none⟩ = some (.slice A12 nb.length c12) := fun p_ => p_.cell (blk_lt HD.out.b12) ((blk_cell HD.out.b12 1).trans rfl)
     refine wp_region_below (by kernel_rfl) (by kernel_rfl) ?_
     iterate 1 (refine wpQuiet_step (fun K hK => ?_); go_simp; refine hK _ ?_; clear hK K)
     refine wpQuiet_step (fun K hK => ?_)
     go_simp
     apply Exists.intro
     refine ⟨fun p_ => ?_, hK _ ?_⟩
     ·exact p_.calls (manifest_Check.calls KK v Ax cx xs c p_.world (Kd.C_below HCx.out p_.h) hcx O5.out)
     clear hK K
     iterate 1 (refine wpQuiet_step (fun K hK => ?_); go_simp; refine hK _ ?_; clear hK K)
     refine wpQuiet_step (fun K hK => ?_)
     go_simp
     apply Exists.intro
     refine ⟨fun p_ => ?_, hK _ ?_⟩
     ·exact p_.calls (storagebarterref08_Check.calls KK v Ax cx xs c p_.world (Kd.C_below HCx.out p_.h) hcx O6.out)
     clear hK K
     iterate 19 (refine wpQuiet_step (fun K hK => ?_); go_simp; refine hK _ ?_; clear hK K)
     refine wpQuiet_step (fun K hK => ?_)
     go_simp
     apply Exists.intro
     refine ⟨fun p_ => ?_, hK _ ?_⟩
     ·exact p_.calls ((storagebarterref08_SameNames.calls KK A35 c35 p A38 c38 p true p_.world (Kd.C_below H35.out p_.h) H35l.out (Kd.C_below H38.out p_.h) H38l.out O7.out).mono fun _ _ h => ⟨h.1, h.2.below⟩)
     clear hK K
     iterate 5 (refine wpQuiet_step (fun K hK => ?_); go_simp; refine hK _ ?_; clear hK K)
     refine wpQuiet_step (fun K hK => ?_)
     go_simp
     apply Exists.intro
     refine ⟨fun p_ => ?_, hK _ ?_⟩
     ·exact p_.calls ((storagebarterref08_SameNames.calls KK A36 c36 pq A39 c39 pq true p_.world (Kd.C_below H36.out p_.h) H36l.out (Kd.C_below H39.out p_.h) H39l.out O8.out).mono fun _ _ h => ⟨h.1, h.2.below⟩)
     clear hK K
     iterate 5 (refine wpQuiet_step (fun K hK => ?_); go_simp; refine hK _ ?_; clear hK K)
     refine wpQuiet_step (fun K hK => ?_)
     go_simp
     apply Exists.intro
     refine ⟨fun p_ => ?_, hK _ ?_⟩
     ·exact p_.calls (manifest_Same.calls KK v Ax cx xs vb A12 c12 nb z p_.world (Kd.C_below HCx.out p_.h) hcx (Kd.C_below HD.out.rb p_.h) HCbl.out O9.out)
     clear hK K
     iterate 2 (refine wpQuiet_step (fun K hK => ?_); go_simp; refine hK _ ?_; clear hK K)
     refine wpQuiet_step (fun K hK => ?_)
     go_simp
     apply Exists.intro
     refine ⟨fun p_ => ?_, hK _ ?_⟩
     ·exact p_.calls (storagebarterref08_Same.calls KK v Ax cx xs vb A12 c12 nb z p_.world (Kd.C_below HCx.out p_.h) hcx (Kd.C_below HD.out.rb p_.h) HCbl.out O10.out)
     clear hK K
     iterate 2 (refine wpQuiet_step (fun K hK => ?_); go_simp; refine hK _ ?_; clear hK K)
     refine wpQuiet_nil ?_
     intro _ hw'
     obtain ⟨p_, hw''⟩ := hw'
     subst hw''
     have n1_ := Aside0.mk (HD.out.below p_.h)
     have n2_ := Aside0.mk (blk_below HV.out p_.h)
     clear HD HV q30_0 q30_1 q12_0 q12_1
     have HD := n1_
     have HV := n2_
     clear n1_ n2_
     go_wp2
     go_roundw
     case rel =>
      (repeat apply Exists.intro)
      refine ⟨?_, rfl⟩
      exact ⟨i + 1, by omega, rfl, by simp, HD, HV⟩
     case measure =>
      show 2 - (intOf (.int .i64 ((i : Int) + 1))).toNat < 2 - (intOf (.int .i64 (i : Int))).toNat
      simp only [intOf]
      omega
    case neg =>
     obtain rfl : i = 2 := by omega
     go_wp2
     go_ret
     exact ⟨rfl, HD.out.hb⟩
end Go.Proofs.Ytodhkbahjomfhaa.Gdo

namespace Go.Proofs.Ytodhkbahjomfhaa.Gdm
open Go Go.RowKit Go.Proofs.Ytodhkbahjomfhaa.Gm Go.Proofs.Ytodhkbahjomfhaa.Q Go.Proofs.Ytodhkbahjomfhaa.Gput Go.Proofs.YtodhkbahjomfhaaW.PrintWords Go.Proofs.YtodhkbahjomfhaaW.PrintLast Go.Proofs.YtodhkbahjomfhaaW.PrintMore
set_option linter.unusedVariables false
theorem w64 {x : Int} (h : -9223372036854775808 ≤ x ∧ x ≤ 9223372036854775807) : wrap64 x = x := by unfold wrap64; omega
theorem bt_at (s : ByteArray) (a : Nat) (h : a < s.size) : bt s (a : Int) = ((s.data.toList.drop a).headD 0).toNat := by
 have h' : a < s.data.size := h
 unfold bt
 rw [dif_pos (by simpa using h)]
 simp only [Int.toNat_natCast]
 rw [List.drop_eq_getElem_cons (by simpa using h')]
 rfl
theorem bt_lt (s : ByteArray) (i : Int) : 0 ≤ bt s i ∧ bt s i < 256 := by
 unfold bt
 split
 ·have := (s[i.toNat]).toNat_lt; omega
 ·omega
theorem wf64 {n : Int} (h : -9223372036854775808 ≤ n ∧ n ≤ 9223372036854775807) : (Lit.int .i64 n).wf = true := Go.WalkArith.wf_i64 h
theorem wire_PutInt_eq (l : List UInt8) (n : Int) (hl : l.length + 10 ≤ 140737488355328) (hn : -9223372036854775808 ≤ n ∧ n ≤ 9223372036854775807) : wire_PutInt.f (B l) n = some (B (l ++ putI n)) := by
 unfold wire_PutInt.f
 rw [if_pos ⟨by rw [B_size]; exact hl, wf64 hn⟩]
 rfl
theorem tmod_mod (a m : Int) (hm : 0 < m) : (Int.tmod a m + m) % m = a % m := by
 have h := Int.mul_tdiv_add_tmod a m
 have e : Int.tmod a m + m = a + m * (1 - Int.tdiv a m) := by rw [Int.mul_sub]; omega
 rw [e, Int.add_mul_emod_self_left]
theorem tmod_range (a m : Int) (hm : 0 < m) : -m < Int.tmod a m ∧ Int.tmod a m < m := by
 refine ⟨?_, Int.tmod_lt_of_pos a hm⟩
 rcases Int.le_total 0 a with h | h
 ·have := Int.tmod_nonneg m h; omega
 ·have h1 := Int.tmod_nonneg m (show 0 ≤ -a by omega)
  have h2 := Int.tmod_lt_of_pos (-a) hm
  rw [Int.neg_tmod] at h1 h2
  omega
theorem mod_eq (a m : Int) (hm : 0 < m) (hb : m ≤ 4294967296) : storagebartermake_Mod.f a m = some (a % m) := by
 unfold storagebartermake_Mod.f
 have hr := tmod_range a m hm
 rw [if_neg (by omega), w64 (by omega), Int.tmod_eq_emod_of_nonneg (by omega), tmod_mod a m hm]
def dg : Int → List UInt8 → Int
 | d, [] => d
 | d, b :: l => dg ((d * 1000003 + b.toNat + 1) % 2147483647) l
theorem dg_range : ∀ (l : List UInt8) (d : Int), 0 ≤ d ∧ d < 2147483647 → 0 ≤ dg d l ∧ dg d l < 2147483647
 | [], d, h => h
 | b :: l, d, h => dg_range l _ (by omega)
theorem sum_step (s : ByteArray) (d : Int) (i : Nat) (hd : 0 ≤ d ∧ d < 2147483647) (hi : i < s.size) : Int.tmod (wrap64 ((wrap64 ((wrap64 (d * 1000003)) + (wrap64 (bt s i)))) + 1)) 2147483647 = (d * 1000003 + (s.data.toList[i]'(by simpa using hi)).toNat + 1) % 2147483647 := by
 have hb := bt_lt s i
 have hbt : bt s i = (s.data.toList[i]'(by simpa using hi)).toNat := by
  have h := bt_at s i hi
  rw [List.drop_eq_getElem_cons (by simpa using hi)] at h
  exact h
 rw [w64 (x := d * 1000003) (by omega), w64 (x := bt s i) (by omega), w64 (x := d * 1000003 + bt s i) (by omega), w64 (by omega), Int.tmod_eq_emod_of_nonneg (by omega), hbt]
theorem Sum_l0 (s : ByteArray) (hs : s.size ≤ 9223372036854775807) : ∀ (n i k : Nat) (d : Int), s.size - i = n → i ≤ s.size → 0 ≤ d ∧ d < 2147483647 → n < k → digest_Sum.l0 k s d s.size i = some (dg d (s.data.toList.drop i)) := by
 intro n
 induction n with
 | zero =>
  intro i k d hn hi hd hk
  obtain ⟨k, rfl⟩ : ∃ m, k = m + 1 := ⟨k - 1, by omega⟩
  simp only [digest_Sum.l0]
  rw [if_neg (by omega), List.drop_of_length_le (by rw [Array.length_toList]; show s.size ≤ i; omega)]
  rfl
 | succ n ih =>
  intro i k d hn hi hd hk
  obtain ⟨k, rfl⟩ : ∃ m, k = m + 1 := ⟨k - 1, by omega⟩
  have hlt : i < s.size := by omega
  simp only [digest_Sum.l0]
  rw [if_pos (by omega), if_pos (by omega), if_pos (by omega), sum_step s d i hd hlt, w64 (by omega), show ((i : Int) + 1) = ((i + 1 : Nat) : Int) by omega, ih (i + 1) k _ (by omega) (by omega) (by omega) (by omega), List.drop_eq_getElem_cons (show i < s.data.toList.length by simpa using hlt)]
  rfl
theorem Sum_eq (l : List UInt8) (k : Nat) (hl : l.length ≤ 9223372036854775807) (hk : l.length < k) : digest_Sum.f k (B l) = some (dg 1 l) := by
 unfold digest_Sum.f
 exact Sum_l0 (B l) (by rw [B_size]; exact hl) l.length 0 k 1 (by rw [B_size]; omega) (by omega) (by omega) hk
theorem next_ok (L : List Int) (at_ n : Int) (hn : 1 ≤ n) (hb : n ≤ 4294967296) (h0 : 0 ≤ at_) (hl : L.length ≤ 1000000) : ∃ t at', storagebartermake_Deck_Next.f L at_ n = some (t, at') ∧ 0 ≤ t ∧ t < n ∧ 0 ≤ at' := by
 unfold storagebartermake_Deck_Next.f
 rw [if_neg (by omega)]
 by_cases h : at_ ≥ (L.length : Int)
 ·rw [if_pos h]
  exact ⟨0, at_, rfl, by omega, by omega, h0⟩
 ·rw [if_neg h, if_pos h0, if_pos (by omega), mod_eq _ _ (by omega) hb, Option.bind_some]
  exact ⟨_, _, rfl, Int.emod_nonneg _ (by omega), Int.emod_lt_of_pos _ (by omega), by rw [w64 (by omega)]; omega⟩
end Go.Proofs.Ytodhkbahjomfhaa.Gdm

namespace Go.Proofs.Ytodhkbahjomfhaa.Gch
open Go Go.RowKit Go.Proofs.Ytodhkbahjomfhaa.Gm Go.Proofs.Ytodhkbahjomfhaa.Gdm Go.Proofs.Ytodhkbahjomfhaa.Q Go.Proofs.Ytodhkbahjomfhaa.Gput Go.Proofs.YtodhkbahjomfhaaW.PrintWords Go.Proofs.YtodhkbahjomfhaaW.PrintLast Go.Proofs.YtodhkbahjomfhaaW.PrintMore
set_option linter.unusedVariables false
theorem nat_pred {k n : Nat} (h : n < k) : ∃ m, k = m + 1 := ⟨k - 1, by omega⟩
theorem dg_r (l : List UInt8) : 0 ≤ dg 1 l ∧ dg 1 l < 2147483647 := dg_range l 1 (by omega)
theorem nameOf_eq (s : ByteArray) (hs : s.size ≤ 9223372036854775807) (k : Nat) (hk : s.size < k) : manifest_nameOf.f k s = some (dg 1 s.data.toList, (s.size : Int)) := by
 have h := Sum_eq s.data.toList k (by rw [data_length]; exact hs) (by rw [data_length]; exact hk)
 have e : B s.data.toList = s := by cases s; rfl
 rw [e] at h
 unfold manifest_nameOf.f
 rw [h]
 rfl
theorem nm_eq (s : ByteArray) (hs : s.size ≤ 9223372036854775807) : nm s = (dg 1 s.data.toList, (s.size : Int)) := nm_of (nameOf_eq s hs _ (Nat.lt_succ_self _))
theorem named (s : ByteArray) (hs : s.size ≤ 9223372036854775807) : Named s := by
 have h := dg_r s.data.toList
 refine ⟨⟨s.size + 1, ?_⟩, ?_, ?_, by unfold maxLen; omega⟩
 ·rw [nm_eq s hs]; exact nameOf_eq s hs _ (Nat.lt_succ_self _)
 ·rw [nm_eq s hs]; exact wf64 (by simp only; omega)
 ·rw [nm_eq s hs]; exact wf64 (by simp only; omega)
theorem strOf_size (l : List Int) : (strOfNums l).size = l.length := by
 unfold strOfNums
 simp [ByteArray.size]
theorem Text_l0 (L : List Int) (hL : L.length ≤ 1000000) : ∀ (n : Nat) (xs : List Int) (at_ : Int) (k : Nat), 0 ≤ at_ → n < k → xs.length + n ≤ 1000 → ∃ t at', storagebartermake_Text.l0 k xs (n : Int) L at_ = some (t, at') ∧ t.size = xs.length + n ∧ 0 ≤ at' := by
 intro n
 induction n with
 | zero =>
  intro xs at_ k h0 hk hl
  obtain ⟨k, rfl⟩ := nat_pred hk
  rw [storagebartermake_Text.l0, if_neg (by omega)]
  exact ⟨_, _, rfl, by rw [strOf_size]; omega, h0⟩
 | succ n ih =>
  intro xs at_ k h0 hk hl
  obtain ⟨k, rfl⟩ := nat_pred hk
  obtain ⟨t, a, e, -, -, h1⟩ := next_ok L at_ 5 (by omega) (by omega) h0 hL
  rw [storagebartermake_Text.l0, if_pos (by omega), e, Option.bind_some, if_pos (by omega), w64 (x := ((n + 1 : Nat) : Int) - 1) (by omega), show (((n + 1 : Nat) : Int) - 1) = (n : Int) by omega]
  obtain ⟨t', a', e', h2, h3⟩ := ih (xs ++ [(wrap64 (t * 51)) % 256]) a k h1 (by omega) (by rw [List.length_append, List.length_singleton]; omega)
  exact ⟨t', a', e', by rw [h2, List.length_append, List.length_singleton]; omega, h3⟩
theorem Text_ok (L : List Int) (hL : L.length ≤ 1000000) (at_ : Int) (h0 : 0 ≤ at_) (most : Nat) (hm : most ≤ 900) (k : Nat) (hk : most < k) : ∃ t at', storagebartermake_Text.f k L at_ (most : Int) = some (t, at') ∧ t.size ≤ most ∧ 0 ≤ at' := by
 unfold storagebartermake_Text.f
 obtain ⟨t, a, e, p, q, h1⟩ := next_ok L at_ ((most : Int) + 1) (by omega) (by omega) h0 hL
 rw [w64 (x := (most : Int) + 1) (by omega), e, Option.bind_some]
 obtain ⟨n, rfl⟩ : ∃ n : Nat, t = n := ⟨t.toNat, by omega⟩
 obtain ⟨t', a', e', h2, h3⟩ := Text_l0 L hL n [] a k h1 (by omega) (by rw [List.length_nil]; omega)
 exact ⟨t', a', e', by rw [h2, List.length_nil]; omega, h3⟩
theorem Cutting_ok (L : List Int) (hL : L.length ≤ 1000000) (at_ : Int) (h0 : 0 ≤ at_) : ∃ c1 c2 c3 c4 at', storagebartermake_Cutting.f L at_ = some (c1, c2, c3, c4, at') ∧ 0 ≤ at' ∧ 4 ≤ c1 ∧ c1 ≤ c2 ∧ c2 ≤ 30 ∧ 1 ≤ c3 ∧ c3 ≤ c1 ∧ 1 ≤ c4 ∧ c4 ≤ 9 := by
 unfold storagebartermake_Cutting.f
 obtain ⟨t1, a1, e1, p1, q1, h1⟩ := next_ok L at_ 6 (by omega) (by omega) h0 hL
 rw [e1, Option.bind_some]
 obtain ⟨t2, a2, e2, p2, q2, h2⟩ := next_ok L a1 20 (by omega) (by omega) h1 hL
 rw [e2, Option.bind_some]
 dsimp only
 rw [w64 (x := 4 + t1) (by omega)]
 obtain ⟨t3, a3, e3, p3, q3, h3⟩ := next_ok L a2 (4 + t1) (by omega) (by omega) h2 hL
 rw [e3, Option.bind_some]
 obtain ⟨t4, a4, e4, p4, q4, h4⟩ := next_ok L a3 9 (by omega) (by omega) h3 hL
 rw [e4, Option.bind_some]
 dsimp only
 rw [w64 (x := 4 + t1 + t2) (by omega), w64 (x := 1 + t3) (by omega), w64 (x := 1 + t4) (by omega)]
 exact ⟨_, _, _, _, _, rfl, h4, by omega, by omega, by omega, by omega, by omega, by omega, by omega⟩
theorem Weight_l0 (s : ByteArray) (hs : s.size ≤ 1000) (x5 : Int) : ∀ (d : Nat) (i : Int) (x6 : Int) (k : Nat), (s.size : Int) - i = d → 0 ≤ i → d < k → ∃ r, storagebarterref04_Weight.l0 k s x5 x6 i = some r := by
 intro d
 induction d with
 | zero =>
  intro i x6 k hd h0 hk
  obtain ⟨k, rfl⟩ := nat_pred hk
  rw [storagebarterref04_Weight.l0, if_neg (by omega)]
  exact ⟨_, rfl⟩
 | succ d ih =>
  intro i x6 k hd h0 hk
  obtain ⟨k, rfl⟩ := nat_pred hk
  rw [storagebarterref04_Weight.l0, if_pos (by omega), if_pos h0, w64 (x := i + 1) (by omega)]
  exact ih (i + 1) _ k (by omega) (by omega) (by omega)
theorem Weight_ok (s : ByteArray) (hs : s.size ≤ 1000) (w : Int) (hw : 1 ≤ w ∧ w ≤ 1000) (k : Nat) (hk : s.size < k) : ∃ r, storagebarterref04_Weight.f k s w = some r := by
 unfold storagebarterref04_Weight.f
 rw [if_neg (by omega), w64 (x := (s.size : Int) - w) (by omega)]
 have h1 : 0 ≤ mx 0 ((s.size : Int) - w) ∧ mx 0 ((s.size : Int) - w) ≤ s.size := by unfold mx; split <;> omega
 exact Weight_l0 s hs _ ((s.size : Int) - mx 0 ((s.size : Int) - w)).toNat _ _ k (by omega) h1.1 (by omega)
def Rise (a : Int) (m : Int) : List Int → Prop
 | [] => True
 | e :: r => a < e ∧ e ≤ m ∧ Rise e m r
theorem Rise_snoc {m : Int} : ∀ {l : List Int} {a e : Int}, Rise a m l → (l.getLast?.getD a) < e → e ≤ m → Rise a m (l ++ [e])
 | [], a, e, _, h1, h2 => ⟨by simpa using h1, h2, trivial⟩
 | b :: r, a, e, ⟨p, q, h⟩, h1, h2 => ⟨p, q, Rise_snoc h (by rw [List.getLast?_cons, Option.getD_some] at h1; exact h1) h2⟩
theorem Ends_l0 (s : ByteArray) (hs : s.size ≤ 60) (c1 c2 c3 c4 : Int) (h3 : 1 ≤ c3 ∧ c3 ≤ 1000) (h4 : 1 ≤ c4) :
 ∀ (d : Nat) (xs : List Int) (st i : Int) (k : Nat), (s.size : Int) + 1 - i = d → 1 ≤ i → Rise 0 s.size xs → st = xs.getLast?.getD 0 → 0 ≤ st → st < i → (xs.length : Int) < i → 100 + d < k →
  ∃ xs', storagebarterref04_Ends.l0 k s xs st i c1 c2 c3 c4 = some (xs', 0) ∧ Rise 0 s.size xs' ∧ xs'.length ≤ 60 := by
 intro d
 induction d with
 | zero =>
  intro xs st i k hd hi hr hst h0 hlt hl hk
  obtain ⟨k, rfl⟩ := nat_pred hk
  rw [storagebarterref04_Ends.l0, if_neg (by omega), if_neg (by omega)]
  exact ⟨_, rfl, hr, by omega⟩
 | succ d ih =>
  intro xs st i k hd hi hr hst h0 hlt hl hk
  obtain ⟨k, rfl⟩ := nat_pred hk
  have hp : ∃ xs', storagebarterref04_Ends.l0 k s (xs ++ [i]) i (i + 1) c1 c2 c3 c4 = some (xs', 0) ∧ Rise 0 s.size xs' ∧ xs'.length ≤ 60 :=
   ih (xs ++ [i]) i (i + 1) k (by omega) (by omega) (Rise_snoc hr (by rw [← hst]; exact hlt) (by omega)) (by simp) (by omega) (by omega) (by rw [List.length_append, List.length_singleton]; omega) (by omega)
  have hq : ∃ xs', storagebarterref04_Ends.l0 k s xs st (i + 1) c1 c2 c3 c4 = some (xs', 0) ∧ Rise 0 s.size xs' ∧ xs'.length ≤ 60 :=
   ih xs st (i + 1) k (by omega) (by omega) hr hst h0 (by omega) (by omega) (by omega)
  have hlen : xs.length < 17592186044416 := by omega
  have hex : ((s.extract st.toNat i.toNat).size) ≤ 60 := by rw [ByteArray.size_extract]; omega
  obtain ⟨wv, hw⟩ := Weight_ok (s.extract st.toNat i.toNat) (by omega) c3 h3 k (by omega)
  rw [storagebarterref04_Ends.l0, if_pos (by omega), w64 (x := i - st) (by omega), w64 (x := i + 1) (by omega)]
  simp only [if_pos hlen]
  split
  ·exact hp
  ·split
   ·try rw [if_pos h0]
    rw [if_pos (by omega), hw, Option.bind_some, if_neg (by omega)]
    split
    ·exact hp
    ·split
     ·exact hp
     ·exact hq
   ·split
    ·exact hp
    ·exact hq
theorem Cut_l0 (s : ByteArray) (xs : List Int) (hx : xs.length ≤ 60) (hs : s.size ≤ 60) : ∀ (d i : Nat) (cs : List ByteArray) (st : Int) (k : Nat), xs.length - i = d → i ≤ xs.length → 0 ≤ st → Rise st s.size (xs.drop i) → d < k → cs.length ≤ i → (∀ c ∈ cs, 1 ≤ c.size ∧ c.size ≤ 60) →
 ∃ cs', storagebarterref04_Cut.l0 k s cs st xs (xs.length : Int) (i : Int) = some (cs', 0) ∧ cs'.length ≤ 60 ∧ ∀ c ∈ cs', 1 ≤ c.size ∧ c.size ≤ 60 := by
 intro d
 induction d with
 | zero =>
  intro i cs st k hd hi h0 hr hk hc hcs
  obtain ⟨k, rfl⟩ := nat_pred hk
  rw [storagebarterref04_Cut.l0, if_neg (by omega)]
  exact ⟨_, rfl, by omega, hcs⟩
 | succ d ih =>
  intro i cs st k hd hi h0 hr hk hc hcs
  obtain ⟨k, rfl⟩ := nat_pred hk
  have hil : i < xs.length := by omega
  have e : rd xs (i : Int) = xs[i] := by simp [rd, List.getD, hil]
  rw [List.drop_eq_getElem_cons hil] at hr
  obtain ⟨p, q, hr2⟩ := hr
  rw [storagebarterref04_Cut.l0, if_pos (by omega), if_pos (by omega), if_pos (by omega), if_pos h0, e, if_pos (by omega), if_pos (by omega), if_pos (by omega), w64 (x := (i : Int) + 1) (by omega), show ((i : Int) + 1) = ((i + 1 : Nat) : Int) by omega]
  refine ih (i + 1) _ xs[i] k (by omega) (by omega) (by omega) hr2 (by omega) (by rw [List.length_append, List.length_singleton]; omega) (fun c hcm => ?_)
  rcases List.mem_append.1 hcm with h | h
  ·exact hcs c h
  ·rw [List.mem_singleton.1 h, ByteArray.size_extract]
   omega
theorem Chunks_ok (L : List Int) (hL : L.length ≤ 1000000) (at_ : Int) (h0 : 0 ≤ at_) (k : Nat) (hk : 300 < k) : ∃ cs at', storagebartermake_Chunks.f k L at_ = some (cs, at') ∧ 0 ≤ at' ∧ cs.length ≤ 60 ∧ ∀ c ∈ cs, 1 ≤ c.size ∧ c.size ≤ 60 := by
 unfold storagebartermake_Chunks.f
 obtain ⟨t, a1, e1, ht, h1⟩ := Text_ok L hL at_ h0 60 (by omega) k (by omega)
 rw [show ((60 : Nat) : Int) = 60 from rfl] at e1
 rw [e1, Option.bind_some]
 obtain ⟨c1, c2, c3, c4, a2, e2, h2, b1, b2, b3, b4, b5, b6, b7⟩ := Cutting_ok L hL a1 h1
 rw [e2, Option.bind_some]
 dsimp only
 have hch : storagebarterref04_Check.f c1 c2 c3 c4 = some 0 := by
  unfold storagebarterref04_Check.f
  rw [if_neg (by omega), if_neg (by omega), if_neg (by omega), if_neg (by omega), if_neg (by omega), if_neg (by omega), if_neg (by omega)]
 obtain ⟨xs, e3, hr, hxl⟩ := Ends_l0 t ht c1 c2 c3 c4 (by omega) (by omega) t.size [] 0 1 k (by omega) (by omega) trivial rfl (by omega) (by omega) (by simp) (by omega)
 have hen : storagebarterref04_Ends.f k t c1 c2 c3 c4 = some (xs, 0) := by
  unfold storagebarterref04_Ends.f
  rw [hch, Option.bind_some, if_pos rfl, if_neg (by omega)]
  exact e3
 obtain ⟨cs, e4, hc1, hc2⟩ := Cut_l0 t xs hxl ht xs.length 0 [] 0 k (by omega) (by omega) (by omega) (by rw [List.drop_zero]; exact hr) (by omega) (by simp) (fun c hc => by cases hc)
 refine ⟨cs, a2, ?_, h2, hc1, hc2⟩
 have hcu : storagebarterref04_Cut.f k t c1 c2 c3 c4 = some (cs, 0) := by
  unfold storagebarterref04_Cut.f
  rw [hen, Option.bind_some, if_pos rfl]
  exact e4
 rw [hcu]
 rfl
def Proper (n : S78) : Prop := 0 ≤ n.f0 ∧ n.f0 < 2147483647 ∧ 1 ≤ n.f1 ∧ n.f1 ≤ 256
theorem proper_ok {n : S78} (h : Proper n) : manifest_proper.f n.f0 n.f1 = some true := by
 obtain ⟨h1, h2, h3, h4⟩ := h
 unfold manifest_proper.f
 rw [if_pos (by omega), if_pos (by omega), if_pos (by omega), decide_eq_true h4]
theorem rdN (l : List S78) (i : Nat) (h : i < l.length) : rd_T78 l (i : Int) = l[i] := by simp [rd_T78, List.getD, h]
theorem Check_l0 (l : List S78) (hl : l.length ≤ 256) (hp : ∀ n ∈ l, Proper n) : ∀ (d i k : Nat), l.length - i = d → i ≤ l.length → d < k → manifest_Check.l0 k l (l.length : Int) (i : Int) = some 0 := by
 intro d
 induction d with
 | zero =>
  intro i k hd hi hk
  obtain ⟨k, rfl⟩ := nat_pred hk
  rw [manifest_Check.l0, if_neg (by omega)]
 | succ d ih =>
  intro i k hd hi hk
  obtain ⟨k, rfl⟩ := nat_pred hk
  have hil : i < l.length := by omega
  rw [manifest_Check.l0, if_pos (by omega), if_pos (by omega), if_pos (by omega), rdN l i hil, proper_ok (hp _ (List.getElem_mem hil)), Option.bind_some, if_pos rfl, w64 (x := (i : Int) + 1) (by omega), show ((i : Int) + 1) = ((i + 1 : Nat) : Int) by omega]
  exact ih (i + 1) k (by omega) (by omega) (by omega)
theorem Check_ok (a : Int) (ha : 1 ≤ a ∧ a < 2147483647) (l : List S78) (hl : l.length ≤ 256) (hp : ∀ n ∈ l, Proper n) (k : Nat) (hk : 256 < k) : manifest_Check.f k a l = some 0 := by
 unfold manifest_Check.f
 rw [numbered_eq, Option.bind_some, decide_eq_true ha, if_pos rfl, if_neg (by omega)]
 exact Check_l0 l hl hp l.length 0 k (by omega) (by omega) (by omega)
def sumN (l : List S78) : Int := (l.map (·.f1)).sum
theorem sumN_bound (l : List S78) (hp : ∀ n ∈ l, Proper n) : 0 ≤ sumN l ∧ sumN l ≤ 256 * (l.length : Int) := by
 induction l with
 | nil => simp [sumN]
 | cons x l ih =>
  obtain ⟨h1, h2⟩ := ih (fun n hn => hp n (List.mem_cons_of_mem _ hn))
  obtain ⟨-, -, h3, h4⟩ := hp x List.mem_cons_self
  unfold sumN at h1 h2 ⊢
  rw [List.map_cons, List.sum_cons, List.length_cons]
  omega
theorem Size_l0 (l : List S78) (hl : l.length ≤ 256) (hp : ∀ n ∈ l, Proper n) : ∀ (d i k : Nat), l.length - i = d → i ≤ l.length → d < k → manifest_Size.l0 k (sumN (l.take i)) l (l.length : Int) (i : Int) = some (sumN l, 0) := by
 intro d
 induction d with
 | zero =>
  intro i k hd hi hk
  obtain ⟨k, rfl⟩ := nat_pred hk
  rw [manifest_Size.l0, if_neg (by omega), List.take_of_length_le (by omega)]
 | succ d ih =>
  intro i k hd hi hk
  obtain ⟨k, rfl⟩ := nat_pred hk
  have hil : i < l.length := by omega
  obtain ⟨b1, b2⟩ := sumN_bound (l.take i) (fun n hn => hp n (List.mem_of_mem_take hn))
  rw [List.length_take] at b2
  obtain ⟨-, -, h3, h4⟩ := hp _ (List.getElem_mem hil)
  have e : sumN (l.take (i + 1)) = sumN (l.take i) + l[i].f1 := by
   unfold sumN
   rw [List.take_succ_eq_append_getElem hil, List.map_append, List.sum_append]
   simp
  have h1 := ih (i + 1) k (by omega) (by omega) (by omega)
  rw [manifest_Size.l0, if_pos (by omega), if_pos (by omega), if_pos (by omega), rdN l i hil, w64 (x := sumN (l.take i) + l[i].f1) (by omega), w64 (x := (i : Int) + 1) (by omega), show ((i : Int) + 1) = ((i + 1 : Nat) : Int) by omega, ← e]
  exact h1
theorem Size_ok (a : Int) (ha : 1 ≤ a ∧ a < 2147483647) (l : List S78) (hl : l.length ≤ 256) (hp : ∀ n ∈ l, Proper n) (k : Nat) (hk : 256 < k) : manifest_Size.f k a l = some (sumN l, 0) := by
 unfold manifest_Size.f
 rw [Check_ok a ha l hl hp k hk, Option.bind_some, if_pos rfl]
 exact Size_l0 l hl hp l.length 0 k (by omega) (by omega) (by omega)
theorem nameS_eq (s : ByteArray) (hs : s.size ≤ 9223372036854775807) : nameS s = ⟨dg 1 s.data.toList, (s.size : Int)⟩ := by
 unfold nameS
 rw [nm_eq s hs]
theorem names_proper (l : List ByteArray) (h : ∀ c ∈ l, 1 ≤ c.size ∧ c.size ≤ 256) : ∀ n ∈ l.map nameS, Proper n := by
 intro n hn
 obtain ⟨s, hs, rfl⟩ := List.mem_map.1 hn
 have h1 := h s hs
 have h2 := dg_r s.data.toList
 rw [nameS_eq s (by omega)]
 exact ⟨h2.1, h2.2, by simp only; omega, by simp only; omega⟩
theorem Of_ok (a : Int) (ha : 1 ≤ a ∧ a < 2147483647) (l : List ByteArray) (hl : l.length ≤ 256) (h : ∀ c ∈ l, 1 ≤ c.size ∧ c.size ≤ 256) :
 manifest_Of.f a l = if ofGo [] l = true then some (0, [], 8) else some (a, l.map nameS, 0) := by
 unfold manifest_Of.f
 rw [if_pos ha, if_neg (by omega), if_neg]
 ·unfold ofEnd
  rw [if_pos (fun s hs => named s (by have := h s hs; omega))]
 ·rintro ⟨s, hs, hb⟩
  have := h s hs
  unfold badS at hb
  omega
theorem Restore_ok (a : Int) (ha : 1 ≤ a ∧ a < 2147483647) (l : List S78) (hl : l.length ≤ 256) (hp : ∀ n ∈ l, Proper n) (cs : List ByteArray) (hcl : cs.length < 9223372036854775807) (hcs : ∀ s ∈ cs, s.size ≤ 9223372036854775807) :
 manifest_Restore.f a l cs = some (reGo cs (reC [] cs []) [] l) := by
 unfold manifest_Restore.f
 rw [Check_ok a ha l hl hp 1000 (by omega), Option.bind_some, if_pos rfl, if_pos]
 refine ⟨by omega, fun n hn => ?_, by unfold maxLen; omega, fun s hs => ⟨named s (hcs s hs), by rw [nm_eq s (hcs s hs)]⟩⟩
 obtain ⟨h1, h2, h3, h4⟩ := hp n hn
 exact ⟨wf64 (by omega), wf64 (by omega), by omega⟩
end Go.Proofs.Ytodhkbahjomfhaa.Gch

namespace Go.Proofs.Ytodhkbahjomfhaa.Gcr
open Go Go.RowKit Go.Proofs.Ytodhkbahjomfhaa.Gm Go.Proofs.Ytodhkbahjomfhaa.Gdm Go.Proofs.Ytodhkbahjomfhaa.Gch Go.Proofs.Ytodhkbahjomfhaa.Q Go.Proofs.Ytodhkbahjomfhaa.Gput Go.Proofs.Ytodhkbahjomfhaa.Gputl Go.Proofs.YtodhkbahjomfhaaW.PrintWords Go.Proofs.YtodhkbahjomfhaaW.PrintLast Go.Proofs.YtodhkbahjomfhaaW.PrintMore
set_option linter.unusedVariables false
theorem toL_inj {s t : ByteArray} (h : s.toList = t.toList) : s = t := by
 rw [ByteArray.toList_eq, ByteArray.toList_eq] at h
 exact ByteArray.ext (Array.toList_inj.1 h)
theorem lookS_some {s : ByteArray} {d z : Int} (hn : nm s = (d, z)) : ∀ (q p : List ByteArray), ∃ t, lookS (p ++ s :: q) d z = some t := by
 intro q p
 unfold lookS
 cases h : (p ++ s :: q).reverse.find? (fun s => decide (nm s = (d, z))) with
 | some t => exact ⟨t, rfl⟩
 | none =>
  rw [List.find?_eq_none] at h
  exact absurd (decide_eq_true hn) (h s (by simp))
theorem lookS_mem {s : ByteArray} {d z : Int} {l : List ByteArray} (hn : nm s = (d, z)) (hs : s ∈ l) : ∃ t, lookS l d z = some t := by
 obtain ⟨p, q, rfl⟩ := List.append_of_mem hs
 exact lookS_some hn q p
theorem reC_mono : ∀ (r seen : List ByteArray) (c : List (Int × Int)) (x : Int × Int), x ∈ c → x ∈ reC seen r c
 | [], _, _, _, h => h
 | s :: r, seen, c, x, h => by
  rw [reC]
  split
  ·exact reC_mono r _ _ _ h
  ·split
   ·exact reC_mono r _ _ _ h
   ·exact reC_mono r _ _ _ (List.mem_append_left _ h)
def sA : ByteArray := ⟨#[97, 98]⟩
def sC : ByteArray := ⟨#[99]⟩
theorem sA_size : sA.size = 2 := rfl
theorem sC_size : sC.size = 1 := rfl
theorem nA : nm sA = (dg 1 [97, 98], 2) := nm_eq sA (by rw [sA_size]; omega)
theorem nC : nm sC = (dg 1 [99], 1) := nm_eq sC (by rw [sC_size]; omega)
theorem nAC : nm sA ≠ nm sC := by rw [nA, nC]; intro h; exact absurd (Prod.mk.inj h).2 (by omega)
theorem putI_1 : putI 1 = [2] := by
 unfold putI
 rw [show zig 1 = 2 by decide, grp_last (by omega)]
 rfl
theorem putI_0 : putI 0 = [0] := by
 unfold putI
 rw [show zig 0 = 0 by decide, grp_last (by omega)]
 rfl
theorem encode_one (k : Nat) (hk : 300 < k) : manifest_Encode.f k 1 [] = some (B [2, 0], 0) := by
 unfold manifest_Encode.f
 rw [Check_ok 1 (by omega) [] (by simp) (by simp) k (by omega), Option.bind_some, if_pos rfl]
 obtain ⟨k, rfl⟩ := nat_pred hk
 rw [manifest_Encode.l0, if_neg (by simp), show (⟨#[]⟩ : ByteArray) = B [] from rfl, wire_PutInt_eq [] 1 (by simp) (by omega), Option.bind_some]
 unfold wire_PutList.f
 rw [if_pos ⟨by rw [B_size, putI_1]; simp, by simp⟩, Option.bind_some, putI_1]
 unfold putL
 simp only [List.length_nil, Int.natCast_zero, putI_0]
 rfl
theorem sane_ok (k : Nat) (hk : 300 < k) : storagebarterlaw08_sane.f k = some true := by
 have hb : ∀ c ∈ [sA, sC, sA], 1 ≤ c.size ∧ c.size ≤ 256 := by
  intro c hc
  simp only [List.mem_cons, List.not_mem_nil, or_false] at hc
  rcases hc with rfl | rfl | rfl
  ·rw [sA_size]; omega
  ·rw [sC_size]; omega
  ·rw [sA_size]; omega
 have hg : ofGo [] [sA, sC, sA] = false := by
  rw [ofGo, lookS_nil]
  simp only
  rw [ofGo, lookS_snoc, if_neg (by exact nAC), lookS_nil]
  simp only
  rw [ofGo, lookS_snoc, if_neg (fun h => nAC h.symm), lookS_snoc, if_pos rfl]
  simp only [if_true]
  rw [ofGo]
 have h1 := Of_ok 1 (by omega) [] (by simp) (by simp)
 rw [ofGo, if_neg (by simp)] at h1
 have h2 := Of_ok 2 (by omega) [sA, sC, sA] (by simp) hb
 rw [hg, if_neg (by simp)] at h2
 have hp : ∀ n ∈ ([sA, sC, sA] : List ByteArray).map nameS, Proper n := names_proper _ hb
 have hc : reC [] [sC, sA] [] = [] := by
  rw [reC, lookS_nil]
  simp only
  rw [reC, lookS_snoc, if_neg (fun h => nAC h.symm), lookS_nil]
  simp only
  rw [reC]
 have lA : lookS [sC, sA] (nm sA).1 (nm sA).2 = some sA := by
  rw [show [sC, sA] = [sC] ++ [sA] from rfl, lookS_snoc, if_pos rfl]
 have lC : lookS [sC, sA] (nm sC).1 (nm sC).2 = some sC := by
  rw [show [sC, sA] = [sC] ++ [sA] from rfl, lookS_snoc, if_neg (by exact nAC), show [sC] = [] ++ [sC] from rfl, lookS_snoc, if_pos rfl]
 have h3 := Restore_ok 2 (by omega) (([sA, sC, sA] : List ByteArray).map nameS) (by simp) hp [sC, sA] (by simp) (by
  intro s hs
  simp only [List.mem_cons, List.not_mem_nil, or_false] at hs
  rcases hs with rfl | rfl
  ·rw [sC_size]; omega
  ·rw [sA_size]; omega)
 have h4 : reGo [sC, sA] [] [] (([sA, sC, sA] : List ByteArray).map nameS) = (B [97, 98, 99, 97, 98], 0) := by
  simp only [List.map_cons, List.map_nil, nameS]
  rw [reGo]
  simp only [lA, List.not_mem_nil, if_false]
  rw [reGo]
  simp only [lC, List.not_mem_nil, if_false]
  rw [reGo]
  simp only [lA, List.not_mem_nil, if_false]
  rw [reGo]
  rfl
 rw [hc, h4] at h3
 have h5 := Size_ok 2 (by omega) (([sA, sC, sA] : List ByteArray).map nameS) (by simp) hp k (by omega)
 have h6 : sumN (([sA, sC, sA] : List ByteArray).map nameS) = 5 := by
  unfold sumN
  simp only [List.map_cons, List.map_nil, nameS, nA, nC, List.sum_cons, List.sum_nil]
  omega
 rw [h6] at h5
 unfold storagebarterlaw08_sane.f
 rw [h1, Option.bind_some]
 dsimp only
 rw [List.map_nil, encode_one k hk, Option.bind_some]
 show (manifest_Of.f 2 [sA, sC, sA]).bind _ = _
 rw [h2, Option.bind_some]
 dsimp only
 show (manifest_Restore.f 2 _ [sC, sA]).bind _ = _
 rw [h3, Option.bind_some, h5, Option.bind_some]
 dsimp only
 rw [if_pos rfl, if_pos rfl, if_pos rfl, if_pos rfl, if_pos rfl, if_pos (by rw [B_toList]), if_pos (by rw [B_toList])]
 rfl
end Go.Proofs.Ytodhkbahjomfhaa.Gcr

namespace Go.Proofs.Ytodhkbahjomfhaa.Gwn
open Go Go.RowKit Go.Sort Go.Lib Go.Proofs.Ytodhkbahjomfhaa.Gm Go.Proofs.Ytodhkbahjomfhaa.Gdm Go.Proofs.Ytodhkbahjomfhaa.Gch Go.Proofs.Ytodhkbahjomfhaa.Gcr Go.Proofs.Ytodhkbahjomfhaa.Q Go.Proofs.YtodhkbahjomfhaaW.PrintWords Go.Proofs.YtodhkbahjomfhaaW.PrintLast Go.Proofs.YtodhkbahjomfhaaW.PrintMore
set_option linter.unusedVariables false
theorem Change_ok (a b : Int) (ha : 1 ≤ a ∧ a < 2147483647) (hb : 1 ≤ b ∧ b < 2147483647) (l m : List S78) (hl : l.length ≤ 256) (hm : m.length ≤ 256) (hpl : ∀ n ∈ l, Proper n) (hpm : ∀ n ∈ m, Proper n) (k : Nat) (hk : 256 < k) :
 manifest_Change.f k a l b m = some (woN m l, woN l m, 0) := by
 unfold manifest_Change.f
 rw [Check_ok a ha l hl hpl k hk, Option.bind_some, if_pos rfl, Check_ok b hb m hm hpm k hk, Option.bind_some, if_pos rfl]
 unfold manifest_without.f
 rw [if_pos ⟨by omega, by omega⟩, Option.bind_some, if_pos ⟨by omega, by omega⟩, Option.bind_some]
theorem srtN_pw (l : List S78) : (srtN l).Pairwise fun x y => ¬ ltN y x := by
 have h := List.pairwise_mergeSort (le := fun x y => !(ltOf cfN) y x) (fun a b c h1 h2 => by
  simp only [Bool.not_eq_true'] at h1 h2 ⊢
  exact swoN.ntrans _ _ _ h2 h1) (fun a b => by
  by_cases z : ltN b a
  ·have : ltOf cfN a b = false := by rw [ltN_not]; unfold ltN at *; omega
   simp [this]
  ·simp [(ltN_not b a).2 z]) l
 refine List.Pairwise.imp ?_ h
 intro x y hxy
 simp only [Bool.not_eq_true'] at hxy
 exact (ltN_not _ _).1 hxy
theorem compact_pw (zs : List S78) (h : zs.Pairwise fun x y => ¬ ltN y x) : (Lib.compact zs).Pairwise ltN := by
 unfold Lib.compact Lib.compactUpTo
 rw [List.pairwise_map]
 have h0 : ((List.range zs.length).filter (keeps zs.toArray)).Pairwise fun a b => a < b := List.Pairwise.filter _ List.pairwise_lt_range
 refine List.Pairwise.imp_of_mem ?_ h0
 intro a b ha hb hab
 have hb2 := List.mem_filter.1 hb
 have hbl : b < zs.length := List.mem_range.1 hb2.1
 have hk := hb2.2
 simp only [keeps, decide_eq_true_eq] at hk
 have hne := hk.resolve_left (by omega)
 have g : ∀ i, i < zs.length → zs.toArray[i]! = zs[i]! := fun i hi => by simp [hi]
 rw [g b hbl, g (b - 1) (by omega)] at hne
 rw [g a (by omega), g b hbl]
 have e : ∀ i (hi : i < zs.length), zs[i]! = zs[i] := fun i hi => by simp [hi]
 rw [e b hbl, e (b - 1) (by omega)] at hne
 rw [e a (by omega), e b hbl]
 rw [List.pairwise_iff_getElem] at h
 have h1 := h (b - 1) b (by omega) hbl (by omega)
 have h2 : ¬ ltN zs[b - 1] zs[a] := by
  by_cases z : a = b - 1
  ·subst z
   unfold ltN
   omega
  ·exact h a (b - 1) (by omega) (by omega) (by omega)
 generalize zs[b] = B at *
 generalize zs[b - 1] = P at *
 generalize zs[a] = A at *
 obtain ⟨b0, b1⟩ := B
 obtain ⟨p0, p1⟩ := P
 have h3 : ¬ (b0 = p0 ∧ b1 = p1) := by
  rintro ⟨rfl, rfl⟩
  exact hne rfl
 unfold ltN at *
 simp only at *
 omega
theorem mem_compact (zs : List S78) (x : S78) : x ∈ Lib.compact zs ↔ x ∈ zs := by
 unfold Lib.compact Lib.compactUpTo
 rw [List.mem_map]
 have g : ∀ i, (hi : i < zs.length) → zs.toArray[i]! = zs[i] := fun i hi => by simp [hi]
 constructor
 ·rintro ⟨j, hj, rfl⟩
  have hl := List.mem_range.1 (List.mem_filter.1 hj).1
  rw [g j hl]
  exact List.getElem_mem hl
 ·intro hx
  obtain ⟨j, hj, rfl⟩ := List.getElem_of_mem hx
  have : ∀ n, (hn : n < zs.length) → ∃ a, a ∈ (List.range zs.length).filter (keeps zs.toArray) ∧ zs.toArray[a]! = zs[n] := by
   intro n
   induction n with
   | zero => exact fun hn => ⟨0, List.mem_filter.2 ⟨List.mem_range.2 hn, by simp [keeps]⟩, g 0 hn⟩
   | succ n ih =>
    intro hn
    by_cases hk : keeps zs.toArray (n + 1) = true
    ·exact ⟨n + 1, List.mem_filter.2 ⟨List.mem_range.2 hn, hk⟩, g (n + 1) hn⟩
    ·simp only [keeps, decide_eq_true_eq, not_or, Nat.add_one_sub_one, Decidable.not_not] at hk
     obtain ⟨a, h1, h2⟩ := ih (by omega)
     have h3 := hk.2
     rw [g (n + 1) hn, g n (by omega)] at h3
     exact ⟨a, h1, by rw [h2, h3]⟩
  exact this j hj
theorem mem_woN (l m : List S78) (x : S78) : x ∈ woN l m ↔ x ∈ l ∧ x ∉ m := by
 unfold woN
 rw [mem_compact]
 unfold srtN
 rw [List.mem_mergeSort]
 unfold notIn
 rw [List.mem_filter]
 simp
theorem woN_sorted (l m : List S78) : (woN l m).Pairwise ltN := compact_pw _ (srtN_pw _)
theorem woN_length (l m : List S78) : (woN l m).length ≤ l.length := by
 unfold woN
 refine Nat.le_trans (compact_le _) ?_
 rw [srtN_length]
 exact List.length_filter_le _ _
end Go.Proofs.Ytodhkbahjomfhaa.Gwn

namespace Go.Proofs.Ytodhkbahjomfhaa.Gdp
open Go Go.RowKit Go.Sort Go.Lib Go.Proofs.Ytodhkbahjomfhaa.Gm Go.Proofs.Ytodhkbahjomfhaa.Gdm Go.Proofs.Ytodhkbahjomfhaa.Gch Go.Proofs.Ytodhkbahjomfhaa.Gcr Go.Proofs.Ytodhkbahjomfhaa.Gwn Go.Proofs.Ytodhkbahjomfhaa.Q Go.Proofs.YtodhkbahjomfhaaW.PrintWords Go.Proofs.YtodhkbahjomfhaaW.PrintLast Go.Proofs.YtodhkbahjomfhaaW.PrintMore
set_option linter.unusedVariables false
theorem ltN_irr (x : S78) : ¬ ltN x x := by unfold ltN; omega
theorem ltN_trans {x y z : S78} (h : ltN x y) (h' : ltN y z) : ltN x z := by unfold ltN at *; omega
theorem ltN_tri {x y : S78} (h : ¬ ltN x y) (hne : x ≠ y) : ltN y x := by
 obtain ⟨a, b⟩ := x
 obtain ⟨c, d⟩ := y
 have : ¬ (a = c ∧ b = d) := by
  rintro ⟨rfl, rfl⟩
  exact hne rfl
 unfold ltN at *
 simp only at *
 omega
theorem rise_ext : ∀ {l m : List S78}, l.Pairwise ltN → m.Pairwise ltN → (∀ x, x ∈ l ↔ x ∈ m) → l = m
 | [], [], _, _, _ => rfl
 | [], y :: m, _, _, h => absurd ((h y).2 List.mem_cons_self) (by simp)
 | x :: l, [], _, _, h => absurd ((h x).1 List.mem_cons_self) (by simp)
 | x :: l, y :: m, h1, h2, h => by
  rw [List.pairwise_cons] at h1 h2
  have hxy : x = y := by
   rcases List.mem_cons.1 ((h x).1 List.mem_cons_self) with e | e
   ·exact e
   ·rcases List.mem_cons.1 ((h y).2 List.mem_cons_self) with e' | e'
    ·exact e'.symm
    ·exact absurd (ltN_trans (h2.1 x e) (h1.1 y e')) (ltN_irr y)
  subst hxy
  congr 1
  refine rise_ext h1.2 h2.2 (fun z => ?_)
  have hz := h z
  rw [List.mem_cons, List.mem_cons] at hz
  constructor
  ·intro hl
   rcases hz.1 (.inr hl) with e | e
   ·subst e
    exact absurd (h1.1 z hl) (ltN_irr z)
   ·exact e
  ·intro hm
   rcases hz.2 (.inr hm) with e | e
   ·subst e
    exact absurd (h2.1 z hm) (ltN_irr z)
   ·exact e
theorem posN_spec (out : List S78) (n : S78) : ∀ i, i ≤ out.length → (∀ j, posN out n i ≤ j → j < i → ltN n (out[j]!)) ∧ (∀ p, posN out n i = p + 1 → ¬ ltN n (out[p]!))
 | 0, _ => ⟨fun j h1 h2 => absurd h2 (Nat.not_lt_zero _), fun p h => by rw [posN] at h; omega⟩
 | i + 1, hi => by
  rw [posN]
  by_cases h : ltN n (out[i]!)
  ·rw [if_pos h]
   obtain ⟨h1, h2⟩ := posN_spec out n i (by omega)
   refine ⟨fun j a b => ?_, h2⟩
   by_cases e : j = i
   ·rw [e]; exact h
   ·exact h1 j a (by omega)
  ·rw [if_neg h]
   refine ⟨fun j a b => by omega, fun p e => ?_⟩
   obtain rfl : i = p := by omega
   exact h
theorem mem_insN (out : List S78) (n x : S78) : x ∈ insN out n ↔ x = n ∨ x ∈ out := by
 unfold insN
 rw [List.mem_append, List.mem_cons]
 have h : x ∈ out ↔ x ∈ out.take (posN out n out.length) ∨ x ∈ out.drop (posN out n out.length) := by
  rw [← List.mem_append, List.take_append_drop]
 rw [h]
 constructor
 ·rintro (a | a | a)
  ·exact .inr (.inl a)
  ·exact .inl a
  ·exact .inr (.inr a)
 ·rintro (a | a | a)
  ·exact .inr (.inl a)
  ·exact .inl a
  ·exact .inr (.inr a)
theorem insN_rise {out : List S78} {n : S78} (h : out.Pairwise ltN) (hn : n ∉ out) : (insN out n).Pairwise ltN := by
 obtain ⟨h1, h2⟩ := posN_spec out n out.length (Nat.le_refl _)
 have hle := posN_le out n out.length
 unfold insN
 generalize posN out n out.length = p at h1 h2 hle ⊢
 have g : ∀ j (hj : j < out.length), out[j]! = out[j] := fun j hj => by simp [hj]
 have below : ∀ x ∈ out.take p, ltN x n := by
  intro x hx
  obtain ⟨j, hj, rfl⟩ := List.getElem_of_mem hx
  rw [List.length_take] at hj
  rw [List.getElem_take]
  cases p with
  | zero => omega
  | succ p =>
   have h3 := h2 p rfl
   rw [g p (by omega)] at h3
   have h4 : ltN out[p] n := ltN_tri h3 (fun e => hn (by rw [e]; exact List.getElem_mem _))
   by_cases e : j = p
   ·subst e; exact h4
   ·exact ltN_trans ((List.pairwise_iff_getElem.1 h) j p (by omega) (by omega) (by omega)) h4
 have above : ∀ x ∈ out.drop p, ltN n x := by
  intro x hx
  obtain ⟨j, hj, rfl⟩ := List.getElem_of_mem hx
  rw [List.length_drop] at hj
  rw [List.getElem_drop]
  have h3 := h1 (p + j) (by omega) (by omega)
  rw [g (p + j) (by omega)] at h3
  exact h3
 refine List.pairwise_append.2 ⟨h.sublist (List.take_sublist _ _), List.pairwise_cons.2 ⟨above, h.sublist (List.drop_sublist _ _)⟩, fun x hx y hy => ?_⟩
 rcases List.mem_cons.1 hy with rfl | hy
 ·exact below x hx
 ·exact ltN_trans (below x hx) (above y hy)
theorem rwGo_rise (b : List S78) : ∀ (a out : List S78), out.Pairwise ltN → (rwGo b out a).Pairwise ltN
 | [], out, h => h
 | n :: r, out, h => by
  rw [rwGo]
  split
  ·exact rwGo_rise b r out h
  ·rename_i hc
   exact rwGo_rise b r _ (insN_rise h (fun z => hc (.inr z)))
theorem mem_rwGo (b : List S78) (x : S78) : ∀ (a out : List S78), x ∈ rwGo b out a ↔ x ∈ out ∨ (x ∈ a ∧ x ∉ b)
 | [], out => by rw [rwGo]; simp
 | n :: r, out => by
  rw [rwGo]
  split
  ·rename_i hc
   rw [mem_rwGo b x r out, List.mem_cons]
   constructor
   ·rintro (h | ⟨h, h'⟩)
    ·exact .inl h
    ·exact .inr ⟨.inr h, h'⟩
   ·rintro (h | ⟨h | h, h'⟩)
    ·exact .inl h
    ·subst h
     rcases hc with z | z
     ·exact absurd z h'
     ·exact .inl z
    ·exact .inr ⟨h, h'⟩
  ·rename_i hc
   rw [mem_rwGo b x r _, mem_insN, List.mem_cons]
   constructor
   ·rintro ((h | h) | ⟨h, h'⟩)
    ·subst h
     exact .inr ⟨.inl rfl, fun z => hc (.inl z)⟩
    ·exact .inl h
    ·exact .inr ⟨.inr h, h'⟩
   ·rintro (h | ⟨h | h, h'⟩)
    ·exact .inl (.inr h)
    ·exact .inl (.inl h)
    ·exact .inr ⟨h, h'⟩
theorem rwGo_woN (a b : List S78) : rwGo b [] a = woN a b :=
 rise_ext (rwGo_rise b a [] List.Pairwise.nil) (woN_sorted a b) (fun x => by rw [mem_rwGo, mem_woN]; simp)
def Clash (l : List ByteArray) : Prop := ∃ i k : Nat, ∃ (hi : i < l.length) (hk : k < l.length), k < i ∧ nm l[i] = nm l[k] ∧ l[i] ≠ l[k]
theorem ofGo_iff : ∀ (r seen : List ByteArray), (∀ s ∈ seen, lookS seen (nm s).1 (nm s).2 = some s) → (ofGo seen r = false ↔ ∀ s ∈ seen ++ r, lookS (seen ++ r) (nm s).1 (nm s).2 = some s)
 | [], seen, h => by
  rw [ofGo, List.append_nil]
  exact ⟨fun _ => h, fun _ => rfl⟩
 | s :: r, seen, h => by
  have e : seen ++ s :: r = (seen ++ [s]) ++ r := by simp
  have good : (∀ t, lookS seen (nm s).1 (nm s).2 = some t → t = s) → ∀ x ∈ seen ++ [s], lookS (seen ++ [s]) (nm x).1 (nm x).2 = some x := by
   intro hg x hx
   rw [lookS_snoc]
   by_cases hn : nm s = ((nm x).1, (nm x).2)
   ·rw [if_pos hn]
    rcases List.mem_append.1 hx with z | z
    ·have h1 := h x z
     have h2 : nm s = nm x := hn
     rw [← h2] at h1
     rw [hg x h1]
    ·rw [List.mem_singleton.1 z]
   ·rw [if_neg hn]
    rcases List.mem_append.1 hx with z | z
    ·exact h x z
    ·rw [List.mem_singleton.1 z] at hn
     exact absurd rfl hn
  rw [ofGo, e]
  cases hl : lookS seen (nm s).1 (nm s).2 with
  | none =>
   simp only
   exact ofGo_iff r (seen ++ [s]) (good (fun t ht => by rw [hl] at ht; cases ht))
  | some t =>
   simp only
   by_cases ht : t.toList = s.toList
   ·rw [if_pos ht]
    exact ofGo_iff r (seen ++ [s]) (good (fun t' ht' => by rw [hl] at ht'; obtain rfl := Option.some.inj ht'; exact toL_inj ht))
   ·rw [if_neg ht]
    refine ⟨fun z => (by cases z), fun z => ?_⟩
    exfalso
    have hts : t ∈ seen := List.mem_reverse.1 (List.mem_of_find?_eq_some (by unfold lookS at hl; exact hl))
    have hn : nm t = nm s := lookS_of_nm hl
    have h1 := z t (List.mem_append_left _ (List.mem_append_left _ hts))
    have h2 := z s (List.mem_append_left _ (List.mem_append_right _ (List.mem_singleton.2 rfl)))
    rw [hn] at h1
    rw [h1] at h2
    exact ht (by rw [Option.some.inj h2])
theorem all_iff_clash (l : List ByteArray) : (∀ s ∈ l, lookS l (nm s).1 (nm s).2 = some s) ↔ ¬ Clash l := by
 constructor
 ·rintro h ⟨i, k, hi, hk, hki, hn, hne⟩
  have h1 := h l[i] (List.getElem_mem hi)
  have h2 := h l[k] (List.getElem_mem hk)
  rw [← hn] at h2
  rw [h1] at h2
  exact hne (Option.some.inj h2)
 ·intro h s hs
  obtain ⟨t, ht⟩ := lookS_mem (s := s) (d := (nm s).1) (z := (nm s).2) rfl hs
  have hts : t ∈ l := List.mem_reverse.1 (List.mem_of_find?_eq_some (by unfold lookS at ht; exact ht))
  have hn : nm t = nm s := lookS_of_nm ht
  rw [ht]
  congr 1
  apply Classical.byContradiction
  intro hne
  obtain ⟨i, hi, rfl⟩ := List.getElem_of_mem hs
  obtain ⟨k, hk, rfl⟩ := List.getElem_of_mem hts
  rcases Nat.lt_trichotomy i k with z | z | z
  ·exact h ⟨k, i, hk, hi, z, hn, hne⟩
  ·subst z; exact hne rfl
  ·exact h ⟨i, k, hi, hk, z, hn.symm, fun e => hne e.symm⟩
theorem ofGo_clash (l : List ByteArray) : ofGo [] l = false ↔ ¬ Clash l := by
 have h := ofGo_iff l [] (fun s hs => by cases hs)
 rw [List.nil_append] at h
 rw [h, all_iff_clash]
theorem reC_iff {d z : Int} : ∀ (r seen : List ByteArray) (c : List (Int × Int)), (d, z) ∉ c → (∀ s ∈ seen, nm s = (d, z) → lookS seen d z = some s) →
 ((d, z) ∉ reC seen r c ↔ ∀ s ∈ seen ++ r, nm s = (d, z) → lookS (seen ++ r) d z = some s)
 | [], seen, c, hc, h => by
  rw [reC, List.append_nil]
  exact ⟨fun _ => h, fun _ => hc⟩
 | s :: r, seen, c, hc, h => by
  have e : seen ++ s :: r = (seen ++ [s]) ++ r := by simp
  have good : (nm s = (d, z) → ∀ t, lookS seen d z = some t → t = s) → ∀ x ∈ seen ++ [s], nm x = (d, z) → lookS (seen ++ [s]) d z = some x := by
   intro hg x hx hnx
   rw [lookS_snoc]
   by_cases hn : nm s = (d, z)
   ·rw [if_pos hn]
    rcases List.mem_append.1 hx with y | y
    ·rw [hg hn x (h x y hnx)]
    ·rw [List.mem_singleton.1 y]
   ·rw [if_neg hn]
    rcases List.mem_append.1 hx with y | y
    ·exact h x y hnx
    ·rw [List.mem_singleton.1 y] at hnx
     exact absurd hnx hn
  rw [reC, e]
  cases hl : lookS seen (nm s).1 (nm s).2 with
  | none =>
   simp only
   refine reC_iff r (seen ++ [s]) c hc (good (fun hn t ht => ?_))
   rw [hn] at hl
   rw [hl] at ht
   cases ht
  | some t =>
   simp only
   by_cases ht : t.toList = s.toList
   ·rw [if_pos ht]
    refine reC_iff r (seen ++ [s]) c hc (good (fun hn t' ht' => ?_))
    rw [hn] at hl
    rw [hl] at ht'
    obtain rfl := Option.some.inj ht'
    exact toL_inj ht
   ·rw [if_neg ht]
    by_cases hn : nm s = (d, z)
    ·refine ⟨fun q => absurd (reC_mono r _ _ (d, z) (by rw [hn]; simp)) q, fun q => ?_⟩
     exfalso
     have hts : t ∈ seen := List.mem_reverse.1 (List.mem_of_find?_eq_some (by unfold lookS at hl; exact hl))
     have hnt : nm t = (d, z) := by rw [hn] at hl; exact lookS_of_nm hl
     have h1 := q t (List.mem_append_left _ (List.mem_append_left _ hts)) hnt
     have h2 := q s (List.mem_append_left _ (List.mem_append_right _ (List.mem_singleton.2 rfl))) hn
     rw [h1] at h2
     exact ht (by rw [Option.some.inj h2])
    ·refine reC_iff r (seen ++ [s]) _ (fun q => ?_) (good (fun q => absurd q hn))
     rcases List.mem_append.1 q with y | y
     ·exact hc y
     ·exact hn (List.mem_singleton.1 y).symm
theorem reC_one (l : List ByteArray) (d z : Int) : (d, z) ∉ reC [] l [] ↔ ∀ s ∈ l, ∀ t ∈ l, nm s = (d, z) → nm t = (d, z) → s = t := by
 have h := reC_iff (d := d) (z := z) l [] [] (by simp) (fun s hs => by cases hs)
 rw [List.nil_append] at h
 rw [h]
 constructor
 ·intro q s hs t ht hns hnt
  have h1 := q s hs hns
  rw [q t ht hnt] at h1
  exact (Option.some.inj h1).symm
 ·intro q s hs hn
  obtain ⟨t, ht⟩ := lookS_mem hn hs
  have hts : t ∈ l := List.mem_reverse.1 (List.mem_of_find?_eq_some (by unfold lookS at ht; exact ht))
  rw [ht, q t hts s hs (lookS_of_nm ht) hn]
end Go.Proofs.Ytodhkbahjomfhaa.Gdp

namespace Go.Proofs.Ytodhkbahjomfhaa.Q
open Go.RowKit Go.Proofs.YtodhkbahjomfhaaW.PrintWords Go.Proofs.YtodhkbahjomfhaaW.PrintLast Go.Proofs.YtodhkbahjomfhaaW.PrintMore Go.Proofs.Ytodhkbahjomfhaa.Gput Go.Proofs.Ytodhkbahjomfhaa.Gputl
attribute [local go_sem] max2_int min2_int max_two min_two max_three min_three max_four min_four   -- for this text's walks alone
set_option linter.unusedVariables false
set_option linter.unusedSimpArgs false
mutual
noncomputable def wire_Int.j0 : Nat → ByteArray → Int → Bool → Option (Int × Int × Int)
 | 0, _, _, _ => none
 | k + 1, x0, x1, x17 => if x17 = true then (some (0, 0, 1)) else (wire_Int.l0 k x0 x1 0 0)
noncomputable def wire_Int.l0 : Nat → ByteArray → Int → Int → Int → Option (Int × Int × Int)
 | 0, _, _, _, _ => none
 | k + 1, x0, x1, x7, x8 => if (wrap64 (x1 + x8)) = (x0.size : Int) then (some (0, 0, 3)) else (if 0 ≤ (wrap64 (x1 + x8)) then (if (wrap64 (x1 + x8)) < (x0.size : Int) then (if x8 = 9 then (if (bt x0 (wrap64 (x1 + x8))) > 1 then (wire_Int.j2 k x0 x1 x7 x8 (bt x0 (wrap64 (x1 + x8))) true) else (if x8 > 0 then (wire_Int.j2 k x0 x1 x7 x8 (bt x0 (wrap64 (x1 + x8))) ((bt x0 (wrap64 (x1 + x8))) == 0)) else (wire_Int.j2 k x0 x1 x7 x8 (bt x0 (wrap64 (x1 + x8))) false))) else (if x8 > 0 then (wire_Int.j2 k x0 x1 x7 x8 (bt x0 (wrap64 (x1 + x8))) ((bt x0 (wrap64 (x1 + x8))) == 0)) else (wire_Int.j2 k x0 x1 x7 x8 (bt x0 (wrap64 (x1 + x8))) false))) else (none)) else (none))
noncomputable def wire_Int.j2 : Nat → ByteArray → Int → Int → Int → Int → Bool → Option (Int × Int × Int)
 | 0, _, _, _, _, _, _ => none
 | k + 1, x0, x1, x7, x8, x9, x44 => if x44 = true then (some (0, 0, 2)) else (if 0 ≤ (wrap64 (7 * x8)) then (if x9 < 128 then (some (Go.bits .xor .i64 (wrap64 ((Go.bits .or .u64 x7 (shl .u64 (IntKind.u64.wrap (Go.bits .and .u8 x9 127)) (wrap64 (7 * x8)))) / 2)) (wrap64 (-(wrap64 (Go.bits .and .u64 (Go.bits .or .u64 x7 (shl .u64 (IntKind.u64.wrap (Go.bits .and .u8 x9 127)) (wrap64 (7 * x8)))) 1)))), wrap64 ((wrap64 (x1 + x8)) + 1), 0)) else (wire_Int.l0 k x0 x1 (Go.bits .or .u64 x7 (shl .u64 (IntKind.u64.wrap (Go.bits .and .u8 x9 127)) (wrap64 (7 * x8)))) (wrap64 (x8 + 1)))) else (none))
end
noncomputable def wire_Int.f (k : Nat) (a0 : ByteArray) (a1 : Int) : Option (Int × Int × Int) := if a1 < 0 then (wire_Int.j0 k a0 a1 true) else (wire_Int.j0 k a0 a1 (decide (a1 > (a0.size : Int))))
set_option maxHeartbeats 8000000 in
set_option maxRecDepth 100000 in
theorem wire_Int.calls (k : Nat) (a0 : ByteArray) (a1 : Int) (r1 : Int) (r2 : Int) (r3 : Int) (w : World) (h : wire_Int.f k a0 a1 = some (r1, r2, r3)) :
 Calls Try.prog 76 #[.string a0, .int .i64 a1] w fun e w' => e = .returned (.tuple #[.int .i64 r1, .int .i64 r2, .int .i64 r3]) ∧ Drawn0 w w' := by
 have H : (if a1 < 0 then (wire_Int.j0 k a0 a1 true) else (wire_Int.j0 k a0 a1 (decide (a1 > (a0.size : Int))))) = some (r1, r2, r3) := h
 clear h
 have HC3 := Aside0.mk H
 clear H
 go_enter Try.func76, Try.ntmps76
 go_upto_region 1 with (fail)
 go_cut [17] (fun v17 wc => ∃ (kq : Nat) (x17_2 : Bool), v17 = .bool x17_2 ∧ Aside0 (wire_Int.j0 kq a0 a1 x17_2 = some (r1, r2, r3)) ∧ Aside0 (kq ≤ k) ∧ Drawn0 w wc)
 case first =>
  have H := HC3.out
  clear HC3
  by_cases c4 : a1 < 0
  ·rw [if_pos c4] at H
   have c4b0 : decide (a1 < 0) = true := decide_eq_true c4
   clear c4
   (first | rw [c4b0] | (simp only [i64_w, i32_w]; rw [c4b0]) | skip)
   have H' := Aside0.mk H
   clear H
   go_wp2
   go_meet
   case rel => exact ⟨_, (true), (by first | rfl | (simp; done) | (simp [*]; done)), H', ⟨by first | omega | exact Nat.le_refl _⟩, by repeat (first | exact Drawn0.refl _ | apply Drawn0.step)⟩
  ·rw [if_neg c4] at H
   have c4b0 : decide (a1 < 0) = false := decide_eq_false c4
   clear c4
   (first | rw [c4b0] | (simp only [i64_w, i32_w]; rw [c4b0]) | skip)
   have H' := Aside0.mk H
   clear H
   go_wp2
   go_meet
   case rel => exact ⟨_, (decide (a1 > (a0.size : Int))), (by first | rfl | (simp; done) | (simp [*]; done)), H', ⟨by first | omega | exact Nat.le_refl _⟩, by repeat (first | exact Drawn0.refl _ | apply Drawn0.step)⟩
 case rest =>
  clear HC3
  try clear p2
  try clear c4
  try clear c4b0
  obtain ⟨kq, x17_2, rfl, HA, HJ2, ⟨mc2, rfl⟩⟩ := hcut
  cases kq with
  | zero => exact absurd HA.out (by simp [wire_Int.j0])
  | succ kj2 =>
   have H := HA.out
   clear HA
   simp only [wire_Int.j0] at H
   by_cases c5 : x17_2 = true
   ·subst c5
    have H1 : (some (0, 0, 1)) = some (r1, r2, r3) := by rw [if_pos rfl] at H; exact H
    clear H
    have H := H1
    clear H1
    simp only [Option.some.injEq, Prod.mk.injEq] at H
    obtain ⟨rfl, rfl, rfl⟩ := H
    go_wp2
    go_ret3
    exact ⟨by first | rfl | (simp; done) | (simp [*]; done), by repeat (first | exact Drawn0.refl _ | apply Drawn0.step)⟩
   ·replace c5 := Bool.eq_false_iff.mpr c5
    subst c5
    have H1 : (wire_Int.l0 kj2 a0 a1 0 0) = some (r1, r2, r3) := by rw [if_neg (show ¬ (false = true) by decide)] at H; exact H
    clear H
    have H := H1
    clear H1
    have H' := Aside0.mk H
    clear H
    go_wp2
    go_loopg [7, 8] kj2 (fun kq v7 v8 w' => ∃ (x7_2 : Int) (x8_2 : Int), v7 = .int .u64 x7_2 ∧ v8 = .int .i64 x8_2 ∧ Aside0 (wire_Int.l0 kq a0 a1 x7_2 x8_2 = some (r1, r2, r3)) ∧ Aside0 (kq ≤ kj2) ∧ Drawn0 w w')
    case atStart => exact ⟨(0), (0), (by first | rfl | (simp; done) | (simp [*]; done)), (by first | rfl | (simp; done) | (simp [*]; done)), H', ⟨Nat.le_refl _⟩, by repeat (first | exact Drawn0.refl _ | apply Drawn0.step)⟩
    case round =>
     clear H'
     try clear c2
     try clear p2
     try clear c4
     try clear c4b0
     try clear c5
     try clear p2
     obtain ⟨x7_2, x8_2, rfl, rfl, HA, HK2, ⟨m2, rfl⟩⟩ := hrel
     cases gk with
     | zero => exact absurd HA.out (by simp [wire_Int.l0])
     | succ k2 =>
      have H := HA.out
      clear HA
      simp only [wire_Int.l0] at H
      by_cases c6 : (wrap64 (a1 + x8_2)) = (a0.size : Int)
      ·rw [if_pos c6] at H
       have c6b0 : ((wrap64 (a1 + x8_2)) == (a0.size : Int)) = true := beq_iff_eq.mpr c6
       have c6b1 : ((wrap64 (a1 + x8_2)) != (a0.size : Int)) = false := bne_eq_false_iff_eq.mpr c6
       clear c6
       simp only [Option.some.injEq, Prod.mk.injEq] at H
       obtain ⟨rfl, rfl, rfl⟩ := H
       go_wp2
       go_ret3
       exact ⟨by first | rfl | (simp; done) | (simp [*]; done), by repeat (first | exact Drawn0.refl _ | apply Drawn0.step)⟩
      ·rw [if_neg c6] at H
       have c6b0 : ((wrap64 (a1 + x8_2)) == (a0.size : Int)) = false := beq_eq_false_iff_ne.mpr c6
       have c6b1 : ((wrap64 (a1 + x8_2)) != (a0.size : Int)) = true := bne_iff_ne.mpr c6
       obtain ⟨ji7, hji7⟩ : ∃ j_ : Int, (wrap64 (a1 + x8_2)) = j_ := ⟨_, rfl⟩
       replace H : (if 0 ≤ (ji7) then (if (ji7) < (a0.size : Int) then (if x8_2 = 9 then (if (bt a0 (ji7)) > 1 then (wire_Int.j2 k2 a0 a1 x7_2 x8_2 (bt a0 (ji7)) true) else (if x8_2 > 0 then (wire_Int.j2 k2 a0 a1 x7_2 x8_2 (bt a0 (ji7)) ((bt a0 (ji7)) == 0)) else (wire_Int.j2 k2 a0 a1 x7_2 x8_2 (bt a0 (ji7)) false))) else (if x8_2 > 0 then (wire_Int.j2 k2 a0 a1 x7_2 x8_2 (bt a0 (ji7)) ((bt a0 (ji7)) == 0)) else (wire_Int.j2 k2 a0 a1 x7_2 x8_2 (bt a0 (ji7)) false))) else (none)) else (none)) = some (r1, r2, r3) := by first | (rw [hji7] at H; exact H) | (simp only [hji7] at H ⊢; exact H)
       (try rw [hji7] at c6b0)
       (try rw [hji7] at c6b1)
       have hji7w : (IntKind.i64.wrap (a1 + x8_2)) = ji7 := (i64_w _).trans hji7
       by_cases c8 : 0 ≤ (ji7)
       ·rw [if_pos c8] at H
        have c8b0 : decide (0 ≤ (ji7)) = true := decide_eq_true c8
        clear c8
        by_cases c9 : (ji7) < (a0.size : Int)
        ·rw [if_pos c9] at H
         have c9b0 : decide ((ji7) < (a0.size : Int)) = true := decide_eq_true c9
         clear c9
         have HC11 := Aside0.mk H
         clear H
         have p10 : 0 ≤ ((ji7) : Int) := of_decide_eq_true (by first | (with_reducible assumption) | assumption)
         have q10 : (ji7) < (a0.size : Int) := of_decide_eq_true (by first | (with_reducible assumption) | assumption)
         have hx10 := bt_at a0 (ji7)
         replace p10 := eq_true p10
         replace q10 := eq_true q10
         go_upto_region 9 with (fail)
         go_cut [44] (fun v44 wc => ∃ (kq : Nat) (x44_10 : Bool), v44 = .bool x44_10 ∧ Aside0 (wire_Int.j2 kq a0 a1 x7_2 x8_2 (bt a0 (ji7)) x44_10 = some (r1, r2, r3)) ∧ Aside0 (kq ≤ k2) ∧ Drawn0 w wc)
         case first =>
          have H := HC11.out
          clear HC11
          by_cases c12 : x8_2 = 9
          ·rw [if_pos c12] at H
           have c12b0 : (x8_2 == 9) = true := beq_iff_eq.mpr c12
           have c12b1 : (x8_2 != 9) = false := bne_eq_false_iff_eq.mpr c12
           clear c12
           (first | rw [c12b0] | (simp only [i64_w, i32_w]; rw [c12b0]) | skip)
           by_cases c13 : (bt a0 (ji7)) > 1
           ·rw [if_pos c13] at H
            have c13b0 : decide (1 < (bt a0 (ji7))) = true := decide_eq_true c13
            clear c13
            have H' := Aside0.mk H
            clear H
            go_wp2
            go_meet
            case rel => exact ⟨_, (true), (by first | rfl | (simp; done) | (simp [*]; done)), H', ⟨by have := HJ2.out; have := HK2.out; first | omega | exact Nat.le_refl _⟩, by repeat (first | exact Drawn0.refl _ | apply Drawn0.step)⟩
           ·rw [if_neg c13] at H
            have c13b0 : decide (1 < (bt a0 (ji7))) = false := decide_eq_false c13
            clear c13
            by_cases c14 : x8_2 > 0
            ·rw [if_pos c14] at H
             have c14b0 : decide (0 < x8_2) = true := decide_eq_true c14
             clear c14
             have H' := Aside0.mk H
             clear H
             go_wp2
             go_meet
             case rel => exact ⟨_, (((bt a0 (ji7)) == 0)), (by first | rfl | (simp; done) | (simp only [← hji7] <;> (first | rfl | simp)) | (simp [*]; done)), H', ⟨by have := HJ2.out; have := HK2.out; first | omega | exact Nat.le_refl _⟩, by repeat (first | exact Drawn0.refl _ | apply Drawn0.step)⟩
            ·rw [if_neg c14] at H
             have c14b0 : decide (0 < x8_2) = false := decide_eq_false c14
             clear c14
             have H' := Aside0.mk H
             clear H
             go_wp2
             go_meet
             case rel => exact ⟨_, (false), (by first | rfl | (simp; done) | (simp [*]; done)), H', ⟨by have := HJ2.out; have := HK2.out; first | omega | exact Nat.le_refl _⟩, by repeat (first | exact Drawn0.refl _ | apply Drawn0.step)⟩
          ·rw [if_neg c12] at H
           have c12b0 : (x8_2 == 9) = false := beq_eq_false_iff_ne.mpr c12
           have c12b1 : (x8_2 != 9) = true := bne_iff_ne.mpr c12
           (first | rw [c12b0] | (simp only [i64_w, i32_w]; rw [c12b0]) | skip)
           by_cases c15 : x8_2 > 0
           ·rw [if_pos c15] at H
            have c15b0 : decide (0 < x8_2) = true := decide_eq_true c15
            clear c15
            have H' := Aside0.mk H
            clear H
            go_wp2
            go_meet
            case rel => exact ⟨_, (((bt a0 (ji7)) == 0)), (by first | rfl | (simp; done) | (simp only [← hji7] <;> (first | rfl | simp)) | (simp [*]; done)), H', ⟨by have := HJ2.out; have := HK2.out; first | omega | exact Nat.le_refl _⟩, by repeat (first | exact Drawn0.refl _ | apply Drawn0.step)⟩
           ·rw [if_neg c15] at H
            have c15b0 : decide (0 < x8_2) = false := decide_eq_false c15
            clear c15
            have H' := Aside0.mk H
            clear H
            go_wp2
            go_meet
            case rel => exact ⟨_, (false), (by first | rfl | (simp; done) | (simp [*]; done)), H', ⟨by have := HJ2.out; have := HK2.out; first | omega | exact Nat.le_refl _⟩, by repeat (first | exact Drawn0.refl _ | apply Drawn0.step)⟩
         case rest =>
          clear HC11
          try clear c1
          try clear p1
          try clear q1
          try clear hx1
          try clear c2
          try clear p2
          try clear c4
          try clear c4b0
          try clear c5
          try clear c6
          try clear c6b0
          try clear c6b1
          try clear p6
          try clear c7
          try clear c8
          try clear c8b0
          try clear c9
          try clear c9b0
          try clear p10
          try clear q10
          try clear hx10
          try clear c12
          try clear c12b0
          try clear c12b1
          try clear c13
          try clear c13b0
          try clear c14
          try clear c14b0
          try clear c15
          try clear c15b0
          try clear p10
          try clear p2
          try clear q10
          obtain ⟨kq, x44_10, rfl, HA, HJ10, ⟨mc10, rfl⟩⟩ := hcut
          cases kq with
          | zero => exact absurd HA.out (by simp [wire_Int.j2])
          | succ kj10 =>
           have H := HA.out
           clear HA
           simp only [wire_Int.j2] at H
           by_cases c16 : x44_10 = true
           ·subst c16
            have H1 : (some (0, 0, 2)) = some (r1, r2, r3) := by rw [if_pos rfl] at H; exact H
            clear H
            have H := H1
            clear H1
            simp only [Option.some.injEq, Prod.mk.injEq] at H
            obtain ⟨rfl, rfl, rfl⟩ := H
            go_wp2
            go_ret3
            exact ⟨by first | rfl | (simp; done) | (simp only [← hji7] <;> (first | rfl | simp)) | (simp [*]; done), by repeat (first | exact Drawn0.refl _ | apply Drawn0.step)⟩
           ·replace c16 := Bool.eq_false_iff.mpr c16
            subst c16
            have H1 : (if 0 ≤ (wrap64 (7 * x8_2)) then (if (bt a0 (ji7)) < 128 then (some (Go.bits .xor .i64 (wrap64 ((Go.bits .or .u64 x7_2 (shl .u64 (IntKind.u64.wrap (Go.bits .and .u8 (bt a0 (ji7)) 127)) (wrap64 (7 * x8_2)))) / 2)) (wrap64 (-(wrap64 (Go.bits .and .u64 (Go.bits .or .u64 x7_2 (shl .u64 (IntKind.u64.wrap (Go.bits .and .u8 (bt a0 (ji7)) 127)) (wrap64 (7 * x8_2)))) 1)))), wrap64 ((wrap64 (a1 + x8_2)) + 1), 0)) else (wire_Int.l0 kj10 a0 a1 (Go.bits .or .u64 x7_2 (shl .u64 (IntKind.u64.wrap (Go.bits .and .u8 (bt a0 (ji7)) 127)) (wrap64 (7 * x8_2)))) (wrap64 (x8_2 + 1)))) else (none)) = some (r1, r2, r3) := by rw [if_neg (show ¬ (false = true) by decide)] at H; exact H
            clear H
            have H := H1
            clear H1
            obtain ⟨ji17, hji17⟩ : ∃ j_ : Int, (wrap64 (7 * x8_2)) = j_ := ⟨_, rfl⟩
            replace H : (if 0 ≤ (ji17) then (if (bt a0 (ji7)) < 128 then (some (Go.bits .xor .i64 (wrap64 ((Go.bits .or .u64 x7_2 (shl .u64 (IntKind.u64.wrap (Go.bits .and .u8 (bt a0 (ji7)) 127)) (ji17))) / 2)) (wrap64 (-(wrap64 (Go.bits .and .u64 (Go.bits .or .u64 x7_2 (shl .u64 (IntKind.u64.wrap (Go.bits .and .u8 (bt a0 (ji7)) 127)) (ji17))) 1)))), wrap64 ((wrap64 (a1 + x8_2)) + 1), 0)) else (wire_Int.l0 kj10 a0 a1 (Go.bits .or .u64 x7_2 (shl .u64 (IntKind.u64.wrap (Go.bits .and .u8 (bt a0 (ji7)) 127)) (ji17))) (wrap64 (x8_2 + 1)))) else (none)) = some (r1, r2, r3) := by first | (rw [hji17] at H; exact H) | (simp only [hji17] at H ⊢; exact H)
            have hji17w : (IntKind.i64.wrap (7 * x8_2)) = ji17 := (i64_w _).trans hji17
            by_cases c18 : 0 ≤ (ji17)
            ·rw [if_pos c18] at H
             have c18b0 := eq_true c18
             have c18b1 : decide (0 ≤ (ji17)) = true := decide_eq_true c18
             clear c18
             obtain ⟨ji19, hji19⟩ : ∃ j_ : Int, (shl .u64 (IntKind.u64.wrap (Go.bits .and .u8 (bt a0 (ji7)) 127)) (ji17)) = j_ := ⟨_, rfl⟩
             replace H : (if (bt a0 (ji7)) < 128 then (some (Go.bits .xor .i64 (wrap64 ((Go.bits .or .u64 x7_2 (ji19)) / 2)) (wrap64 (-(wrap64 (Go.bits .and .u64 (Go.bits .or .u64 x7_2 (ji19)) 1)))), wrap64 ((wrap64 (a1 + x8_2)) + 1), 0)) else (wire_Int.l0 kj10 a0 a1 (Go.bits .or .u64 x7_2 (ji19)) (wrap64 (x8_2 + 1)))) = some (r1, r2, r3) := by first | (rw [hji19] at H; exact H) | (simp only [hji19] at H ⊢; exact H)
             have hji19_ : (IntKind.u64.wrap ((IntKind.u64.wrap (Go.bits .and .u8 (bt a0 (ji7)) 127)) * 2 ^ min (ji17).toNat 64)) = ji19 := hji19
             have hji19z : (ji17) ≤ 64 → (IntKind.u64.wrap ((IntKind.u64.wrap (Go.bits .and .u8 (bt a0 (ji7)) 127)) * 2 ^ (ji17).toNat)) = ji19 := shl_small hji19
             by_cases c20 : (bt a0 (ji7)) < 128
             ·rw [if_pos c20] at H
              have c20b0 : decide ((bt a0 (ji7)) < 128) = true := decide_eq_true c20
              clear c20
              simp only [Option.some.injEq, Prod.mk.injEq] at H
              obtain ⟨rfl, rfl, rfl⟩ := H
              go_wp2
              go_ret3
              exact ⟨by first | rfl | (simp; done) | (simp only [← hji7, ← hji17, ← hji19] <;> (first | rfl | simp)) | (simp [*]; done), by repeat (first | exact Drawn0.refl _ | apply Drawn0.step)⟩
             ·rw [if_neg c20] at H
              have c20b0 : decide ((bt a0 (ji7)) < 128) = false := decide_eq_false c20
              clear c20
              have H' := Aside0.mk H
              clear H
              go_wp2
              go_roundg kj10
              case measure => have := HJ2.out; have := HK2.out; have := HJ10.out; omega
              case rel => exact ⟨(Go.bits .or .u64 x7_2 (ji19)), (wrap64 (x8_2 + 1)), (by first | rfl | (simp; done) | (simp only [← hji19] <;> (first | rfl | simp)) | (simp [*]; done)), (by first | rfl | (simp; done) | (simp [*]; done)), H', ⟨by have := HJ2.out; have := HK2.out; have := HJ10.out; omega⟩, by repeat (first | exact Drawn0.refl _ | apply Drawn0.step)⟩
            ·rw [if_neg c18] at H
             exact absurd H (by simp)
        ·rw [if_neg c9] at H
         exact absurd H (by simp)
       ·rw [if_neg c8] at H
        exact absurd H (by simp)
end Go.Proofs.Ytodhkbahjomfhaa.Q

namespace Go.Proofs.Ytodhkbahjomfhaa.Q
open Go.RowKit Go.Proofs.YtodhkbahjomfhaaW.PrintWords Go.Proofs.YtodhkbahjomfhaaW.PrintLast Go.Proofs.YtodhkbahjomfhaaW.PrintMore Go.Proofs.Ytodhkbahjomfhaa.Gput Go.Proofs.Ytodhkbahjomfhaa.Gputl
attribute [local go_sem] max2_int min2_int max_two min_two max_three min_three max_four min_four   -- for this text's walks alone
set_option linter.unusedVariables false
set_option linter.unusedSimpArgs false
mutual
noncomputable def storagebarterref01_Int.j0 : Nat → ByteArray → Int → Bool → Option (Int × Int × Int)
 | 0, _, _, _ => none
 | k + 1, x0, x1, x18 => if x18 = true then (some (0, 0, 1)) else (storagebarterref01_Int.l0 k x0 x1 0 0)
noncomputable def storagebarterref01_Int.l0 : Nat → ByteArray → Int → Int → Int → Option (Int × Int × Int)
 | 0, _, _, _, _ => none
 | k + 1, x0, x1, x7, x8 => if (wrap64 (x1 + x8)) ≥ (x0.size : Int) then (some (0, 0, 3)) else (if 0 ≤ (wrap64 (x1 + x8)) then (if (wrap64 (x1 + x8)) < (x0.size : Int) then (if x8 = 9 then (storagebarterref01_Int.j2 k x0 x1 x7 x8 (bt x0 (wrap64 (x1 + x8))) (decide ((bt x0 (wrap64 (x1 + x8))) > 1))) else (storagebarterref01_Int.j2 k x0 x1 x7 x8 (bt x0 (wrap64 (x1 + x8))) false)) else (none)) else (none))
noncomputable def storagebarterref01_Int.j2 : Nat → ByteArray → Int → Int → Int → Int → Bool → Option (Int × Int × Int)
 | 0, _, _, _, _, _, _ => none
 | k + 1, x0, x1, x7, x8, x9, x37 => if x37 = true then (some (0, 0, 2)) else (if 0 ≤ (IntKind.u64.wrap (wrap64 (7 * x8))) then (if x9 > 127 then (storagebarterref01_Int.l0 k x0 x1 (Go.bits .or .u64 x7 (shl .u64 (IntKind.u64.wrap (Go.bits .and .u8 x9 127)) (IntKind.u64.wrap (wrap64 (7 * x8))))) (wrap64 (x8 + 1))) else (if x9 = 0 then (storagebarterref01_Int.j3 k x1 (Go.bits .or .u64 x7 (shl .u64 (IntKind.u64.wrap (Go.bits .and .u8 x9 127)) (IntKind.u64.wrap (wrap64 (7 * x8))))) x8 (decide (x8 > 0))) else (storagebarterref01_Int.j3 k x1 (Go.bits .or .u64 x7 (shl .u64 (IntKind.u64.wrap (Go.bits .and .u8 x9 127)) (IntKind.u64.wrap (wrap64 (7 * x8))))) x8 false))) else (none))
noncomputable def storagebarterref01_Int.j3 : Nat → Int → Int → Int → Bool → Option (Int × Int × Int)
 | 0, _, _, _, _ => none
 | k + 1, x1, x7, x8, x54 => if x54 = true then (some (0, 0, 2)) else (if (Go.bits .and .u64 x7 1) = 1 then (some (wrap64 ((wrap64 (-(wrap64 (x7 / 2)))) - 1), wrap64 ((wrap64 (x1 + x8)) + 1), 0)) else (some (wrap64 (x7 / 2), wrap64 ((wrap64 (x1 + x8)) + 1), 0)))
end
noncomputable def storagebarterref01_Int.f (k : Nat) (a0 : ByteArray) (a1 : Int) : Option (Int × Int × Int) := if a1 < 0 then (storagebarterref01_Int.j0 k a0 a1 true) else (storagebarterref01_Int.j0 k a0 a1 (decide (a1 > (a0.size : Int))))
set_option maxHeartbeats 8000000 in
set_option maxRecDepth 100000 in
theorem storagebarterref01_Int.calls (k : Nat) (a0 : ByteArray) (a1 : Int) (r1 : Int) (r2 : Int) (r3 : Int) (w : World) (h : storagebarterref01_Int.f k a0 a1 = some (r1, r2, r3)) :
 Calls Try.prog 78 #[.string a0, .int .i64 a1] w fun e w' => e = .returned (.tuple #[.int .i64 r1, .int .i64 r2, .int .i64 r3]) ∧ Drawn0 w w' := by
 have H : (if a1 < 0 then (storagebarterref01_Int.j0 k a0 a1 true) else (storagebarterref01_Int.j0 k a0 a1 (decide (a1 > (a0.size : Int))))) = some (r1, r2, r3) := h
 clear h
 have HC3 := Aside0.mk H
 clear H
 go_enter Try.func78, Try.ntmps78
 go_upto_region 1 with (fail)
 go_cut [18] (fun v18 wc => ∃ (kq : Nat) (x18_2 : Bool), v18 = .bool x18_2 ∧ Aside0 (storagebarterref01_Int.j0 kq a0 a1 x18_2 = some (r1, r2, r3)) ∧ Aside0 (kq ≤ k) ∧ Drawn0 w wc)
 case first =>
  have H := HC3.out
  clear HC3
  by_cases c4 : a1 < 0
  ·rw [if_pos c4] at H
   have c4b0 : decide (a1 < 0) = true := decide_eq_true c4
   clear c4
   (first | rw [c4b0] | (simp only [i64_w, i32_w]; rw [c4b0]) | skip)
   have H' := Aside0.mk H
   clear H
   go_wp2
   go_meet
   case rel => exact ⟨_, (true), (by first | rfl | (simp; done) | (simp [*]; done)), H', ⟨by first | omega | exact Nat.le_refl _⟩, by repeat (first | exact Drawn0.refl _ | apply Drawn0.step)⟩
  ·rw [if_neg c4] at H
   have c4b0 : decide (a1 < 0) = false := decide_eq_false c4
   clear c4
   (first | rw [c4b0] | (simp only [i64_w, i32_w]; rw [c4b0]) | skip)
   have H' := Aside0.mk H
   clear H
   go_wp2
   go_meet
   case rel => exact ⟨_, (decide (a1 > (a0.size : Int))), (by first | rfl | (simp; done) | (simp [*]; done)), H', ⟨by first | omega | exact Nat.le_refl _⟩, by repeat (first | exact Drawn0.refl _ | apply Drawn0.step)⟩
 case rest =>
  clear HC3
  try clear p2
  try clear c4
  try clear c4b0
  obtain ⟨kq, x18_2, rfl, HA, HJ2, ⟨mc2, rfl⟩⟩ := hcut
  cases kq with
  | zero => exact absurd HA.out (by simp [storagebarterref01_Int.j0])
  | succ kj2 =>
   have H := HA.out
   clear HA
   simp only [storagebarterref01_Int.j0] at H
   by_cases c5 : x18_2 = true
   ·subst c5
    have H1 : (some (0, 0, 1)) = some (r1, r2, r3) := by rw [if_pos rfl] at H; exact H
    clear H
    have H := H1
    clear H1
    simp only [Option.some.injEq, Prod.mk.injEq] at H
    obtain ⟨rfl, rfl, rfl⟩ := H
    go_wp2
    go_ret3
    exact ⟨by first | rfl | (simp; done) | (simp [*]; done), by repeat (first | exact Drawn0.refl _ | apply Drawn0.step)⟩
   ·replace c5 := Bool.eq_false_iff.mpr c5
    subst c5
    have H1 : (storagebarterref01_Int.l0 kj2 a0 a1 0 0) = some (r1, r2, r3) := by rw [if_neg (show ¬ (false = true) by decide)] at H; exact H
    clear H
    have H := H1
    clear H1
    have H' := Aside0.mk H
    clear H
    go_wp2
    go_loopg [7, 8] kj2 (fun kq v7 v8 w' => ∃ (x7_2 : Int) (x8_2 : Int), v7 = .int .u64 x7_2 ∧ v8 = .int .i64 x8_2 ∧ Aside0 (storagebarterref01_Int.l0 kq a0 a1 x7_2 x8_2 = some (r1, r2, r3)) ∧ Aside0 (kq ≤ kj2) ∧ Drawn0 w w')
    case atStart => exact ⟨(0), (0), (by first | rfl | (simp; done) | (simp [*]; done)), (by first | rfl | (simp; done) | (simp [*]; done)), H', ⟨Nat.le_refl _⟩, by repeat (first | exact Drawn0.refl _ | apply Drawn0.step)⟩
    case round =>
     clear H'
     try clear c2
     try clear p2
     try clear c4
     try clear c4b0
     try clear c5
     try clear p2
     obtain ⟨x7_2, x8_2, rfl, rfl, HA, HK2, ⟨m2, rfl⟩⟩ := hrel
     cases gk with
     | zero => exact absurd HA.out (by simp [storagebarterref01_Int.l0])
     | succ k2 =>
      have H := HA.out
      clear HA
      simp only [storagebarterref01_Int.l0] at H
      by_cases c6 : (wrap64 (a1 + x8_2)) ≥ (a0.size : Int)
      ·rw [if_pos c6] at H
       have c6b0 : decide ((a0.size : Int) ≤ (wrap64 (a1 + x8_2))) = true := decide_eq_true c6
       clear c6
       simp only [Option.some.injEq, Prod.mk.injEq] at H
       obtain ⟨rfl, rfl, rfl⟩ := H
       go_wp2
       go_ret3
       exact ⟨by first | rfl | (simp; done) | (simp [*]; done), by repeat (first | exact Drawn0.refl _ | apply Drawn0.step)⟩
      ·rw [if_neg c6] at H
       have c6b0 : decide ((a0.size : Int) ≤ (wrap64 (a1 + x8_2))) = false := decide_eq_false c6
       clear c6
       obtain ⟨ji7, hji7⟩ : ∃ j_ : Int, (wrap64 (a1 + x8_2)) = j_ := ⟨_, rfl⟩
       replace H : (if 0 ≤ (ji7) then (if (ji7) < (a0.size : Int) then (if x8_2 = 9 then (storagebarterref01_Int.j2 k2 a0 a1 x7_2 x8_2 (bt a0 (ji7)) (decide ((bt a0 (ji7)) > 1))) else (storagebarterref01_Int.j2 k2 a0 a1 x7_2 x8_2 (bt a0 (ji7)) false)) else (none)) else (none)) = some (r1, r2, r3) := by first | (rw [hji7] at H; exact H) | (simp only [hji7] at H ⊢; exact H)
       (try rw [hji7] at c6b0)
       have hji7w : (IntKind.i64.wrap (a1 + x8_2)) = ji7 := (i64_w _).trans hji7
       by_cases c8 : 0 ≤ (ji7)
       ·rw [if_pos c8] at H
        have c8b0 : decide (0 ≤ (ji7)) = true := decide_eq_true c8
        clear c8
        by_cases c9 : (ji7) < (a0.size : Int)
        ·rw [if_pos c9] at H
         have c9b0 : decide ((ji7) < (a0.size : Int)) = true := decide_eq_true c9
         clear c9
         have HC11 := Aside0.mk H
         clear H
         have p10 : 0 ≤ ((ji7) : Int) := of_decide_eq_true (by first | (with_reducible assumption) | assumption)
         have q10 : (ji7) < (a0.size : Int) := of_decide_eq_true (by first | (with_reducible assumption) | assumption)
         have hx10 := bt_at a0 (ji7)
         replace p10 := eq_true p10
         replace q10 := eq_true q10
         go_upto_region 9 with (fail)
         go_cut [37] (fun v37 wc => ∃ (kq : Nat) (x37_10 : Bool), v37 = .bool x37_10 ∧ Aside0 (storagebarterref01_Int.j2 kq a0 a1 x7_2 x8_2 (bt a0 (ji7)) x37_10 = some (r1, r2, r3)) ∧ Aside0 (kq ≤ k2) ∧ Drawn0 w wc)
         case first =>
          have H := HC11.out
          clear HC11
          by_cases c12 : x8_2 = 9
          ·rw [if_pos c12] at H
           have c12b0 : (x8_2 == 9) = true := beq_iff_eq.mpr c12
           have c12b1 : (x8_2 != 9) = false := bne_eq_false_iff_eq.mpr c12
           clear c12
           (first | rw [c12b0] | (simp only [i64_w, i32_w]; rw [c12b0]) | skip)
           have H' := Aside0.mk H
           clear H
           go_wp2
           go_meet
           case rel => exact ⟨_, (decide ((bt a0 (ji7)) > 1)), (by first | rfl | (simp; done) | (simp only [← hji7] <;> (first | rfl | simp)) | (simp [*]; done)), H', ⟨by have := HJ2.out; have := HK2.out; first | omega | exact Nat.le_refl _⟩, by repeat (first | exact Drawn0.refl _ | apply Drawn0.step)⟩
          ·rw [if_neg c12] at H
           have c12b0 : (x8_2 == 9) = false := beq_eq_false_iff_ne.mpr c12
           have c12b1 : (x8_2 != 9) = true := bne_iff_ne.mpr c12
           (first | rw [c12b0] | (simp only [i64_w, i32_w]; rw [c12b0]) | skip)
           have H' := Aside0.mk H
           clear H
           go_wp2
           go_meet
           case rel => exact ⟨_, (false), (by first | rfl | (simp; done) | (simp [*]; done)), H', ⟨by have := HJ2.out; have := HK2.out; first | omega | exact Nat.le_refl _⟩, by repeat (first | exact Drawn0.refl _ | apply Drawn0.step)⟩
         case rest =>
          clear HC11
          try clear c1
          try clear p1
          try clear q1
          try clear hx1
          try clear c2
          try clear p2
          try clear c4
          try clear c4b0
          try clear c5
          try clear c6
          try clear c6b0
          try clear p6
          try clear c7
          try clear c8
          try clear c8b0
          try clear c9
          try clear c9b0
          try clear p10
          try clear q10
          try clear hx10
          try clear c12
          try clear c12b0
          try clear c12b1
          try clear p10
          try clear p2
          try clear q10
          obtain ⟨kq, x37_10, rfl, HA, HJ10, ⟨mc10, rfl⟩⟩ := hcut
          cases kq with
          | zero => exact absurd HA.out (by simp [storagebarterref01_Int.j2])
          | succ kj10 =>
           have H := HA.out
           clear HA
           simp only [storagebarterref01_Int.j2] at H
           by_cases c13 : x37_10 = true
           ·subst c13
            have H1 : (some (0, 0, 2)) = some (r1, r2, r3) := by rw [if_pos rfl] at H; exact H
            clear H
            have H := H1
            clear H1
            simp only [Option.some.injEq, Prod.mk.injEq] at H
            obtain ⟨rfl, rfl, rfl⟩ := H
            go_wp2
            go_ret3
            exact ⟨by first | rfl | (simp; done) | (simp only [← hji7] <;> (first | rfl | simp)) | (simp [*]; done), by repeat (first | exact Drawn0.refl _ | apply Drawn0.step)⟩
           ·replace c13 := Bool.eq_false_iff.mpr c13
            subst c13
            have H1 : (if 0 ≤ (IntKind.u64.wrap (wrap64 (7 * x8_2))) then (if (bt a0 (ji7)) > 127 then (storagebarterref01_Int.l0 kj10 a0 a1 (Go.bits .or .u64 x7_2 (shl .u64 (IntKind.u64.wrap (Go.bits .and .u8 (bt a0 (ji7)) 127)) (IntKind.u64.wrap (wrap64 (7 * x8_2))))) (wrap64 (x8_2 + 1))) else (if (bt a0 (ji7)) = 0 then (storagebarterref01_Int.j3 kj10 a1 (Go.bits .or .u64 x7_2 (shl .u64 (IntKind.u64.wrap (Go.bits .and .u8 (bt a0 (ji7)) 127)) (IntKind.u64.wrap (wrap64 (7 * x8_2))))) x8_2 (decide (x8_2 > 0))) else (storagebarterref01_Int.j3 kj10 a1 (Go.bits .or .u64 x7_2 (shl .u64 (IntKind.u64.wrap (Go.bits .and .u8 (bt a0 (ji7)) 127)) (IntKind.u64.wrap (wrap64 (7 * x8_2))))) x8_2 false))) else (none)) = some (r1, r2, r3) := by rw [if_neg (show ¬ (false = true) by decide)] at H; exact H
            clear H
            have H := H1
            clear H1
            obtain ⟨ji14, hji14⟩ : ∃ j_ : Int, (IntKind.u64.wrap (wrap64 (7 * x8_2))) = j_ := ⟨_, rfl⟩
            replace H : (if 0 ≤ (ji14) then (if (bt a0 (ji7)) > 127 then (storagebarterref01_Int.l0 kj10 a0 a1 (Go.bits .or .u64 x7_2 (shl .u64 (IntKind.u64.wrap (Go.bits .and .u8 (bt a0 (ji7)) 127)) (ji14))) (wrap64 (x8_2 + 1))) else (if (bt a0 (ji7)) = 0 then (storagebarterref01_Int.j3 kj10 a1 (Go.bits .or .u64 x7_2 (shl .u64 (IntKind.u64.wrap (Go.bits .and .u8 (bt a0 (ji7)) 127)) (ji14))) x8_2 (decide (x8_2 > 0))) else (storagebarterref01_Int.j3 kj10 a1 (Go.bits .or .u64 x7_2 (shl .u64 (IntKind.u64.wrap (Go.bits .and .u8 (bt a0 (ji7)) 127)) (ji14))) x8_2 false))) else (none)) = some (r1, r2, r3) := by first | (rw [hji14] at H; exact H) | (simp only [hji14] at H ⊢; exact H)
            by_cases c15 : 0 ≤ (ji14)
            ·rw [if_pos c15] at H
             have c15b0 := eq_true c15
             have c15b1 : decide (0 ≤ (ji14)) = true := decide_eq_true c15
             clear c15
             obtain ⟨ji16, hji16⟩ : ∃ j_ : Int, (shl .u64 (IntKind.u64.wrap (Go.bits .and .u8 (bt a0 (ji7)) 127)) (ji14)) = j_ := ⟨_, rfl⟩
             replace H : (if (bt a0 (ji7)) > 127 then (storagebarterref01_Int.l0 kj10 a0 a1 (Go.bits .or .u64 x7_2 (ji16)) (wrap64 (x8_2 + 1))) else (if (bt a0 (ji7)) = 0 then (storagebarterref01_Int.j3 kj10 a1 (Go.bits .or .u64 x7_2 (ji16)) x8_2 (decide (x8_2 > 0))) else (storagebarterref01_Int.j3 kj10 a1 (Go.bits .or .u64 x7_2 (ji16)) x8_2 false))) = some (r1, r2, r3) := by first | (rw [hji16] at H; exact H) | (simp only [hji16] at H ⊢; exact H)
             have hji16_ : (IntKind.u64.wrap ((IntKind.u64.wrap (Go.bits .and .u8 (bt a0 (ji7)) 127)) * 2 ^ min (ji14).toNat 64)) = ji16 := hji16
             have hji16z : (ji14) ≤ 64 → (IntKind.u64.wrap ((IntKind.u64.wrap (Go.bits .and .u8 (bt a0 (ji7)) 127)) * 2 ^ (ji14).toNat)) = ji16 := shl_small hji16
             by_cases c17 : (bt a0 (ji7)) > 127
             ·rw [if_pos c17] at H
              have c17b0 : decide (127 < (bt a0 (ji7))) = true := decide_eq_true c17
              clear c17
              have H' := Aside0.mk H
              clear H
              go_wp2
              go_roundg kj10
              case measure => have := HJ2.out; have := HK2.out; have := HJ10.out; omega
              case rel => exact ⟨(Go.bits .or .u64 x7_2 (ji16)), (wrap64 (x8_2 + 1)), (by first | rfl | (simp; done) | (simp only [← hji16] <;> (first | rfl | simp)) | (simp [*]; done)), (by first | rfl | (simp; done) | (simp [*]; done)), H', ⟨by have := HJ2.out; have := HK2.out; have := HJ10.out; omega⟩, by repeat (first | exact Drawn0.refl _ | apply Drawn0.step)⟩
             ·rw [if_neg c17] at H
              have c17b0 : decide (127 < (bt a0 (ji7))) = false := decide_eq_false c17
              clear c17
              have HC18 := Aside0.mk H
              clear H
              go_upto_region 13 with (fail)
              go_cut [54] (fun v54 wc => ∃ (kq : Nat) (x54_17 : Bool), v54 = .bool x54_17 ∧ Aside0 (storagebarterref01_Int.j3 kq a1 (Go.bits .or .u64 x7_2 (ji16)) x8_2 x54_17 = some (r1, r2, r3)) ∧ Aside0 (kq ≤ kj10) ∧ Drawn0 w wc)
              case first =>
               have H := HC18.out
               clear HC18
               by_cases c19 : (bt a0 (ji7)) = 0
               ·rw [if_pos c19] at H
                have c19b0 : ((bt a0 (ji7)) == 0) = true := beq_iff_eq.mpr c19
                have c19b1 : ((bt a0 (ji7)) != 0) = false := bne_eq_false_iff_eq.mpr c19
                clear c19
                (first | rw [c19b0] | (simp only [i64_w, i32_w]; rw [c19b0]) | skip)
                have H' := Aside0.mk H
                clear H
                go_wp2
                go_meet
                case rel => exact ⟨_, (decide (x8_2 > 0)), (by first | rfl | (simp; done) | (simp [*]; done)), H', ⟨by have := HJ2.out; have := HK2.out; have := HJ10.out; first | omega | exact Nat.le_refl _⟩, by repeat (first | exact Drawn0.refl _ | apply Drawn0.step)⟩
               ·rw [if_neg c19] at H
                have c19b0 : ((bt a0 (ji7)) == 0) = false := beq_eq_false_iff_ne.mpr c19
                have c19b1 : ((bt a0 (ji7)) != 0) = true := bne_iff_ne.mpr c19
                (first | rw [c19b0] | (simp only [i64_w, i32_w]; rw [c19b0]) | skip)
                have H' := Aside0.mk H
                clear H
                go_wp2
                go_meet
                case rel => exact ⟨_, (false), (by first | rfl | (simp; done) | (simp [*]; done)), H', ⟨by have := HJ2.out; have := HK2.out; have := HJ10.out; first | omega | exact Nat.le_refl _⟩, by repeat (first | exact Drawn0.refl _ | apply Drawn0.step)⟩
              case rest =>
               clear HC18
               try clear c1
               try clear p1
               try clear q1
               try clear hx1
               try clear c2
               try clear p2
               try clear c4
               try clear c4b0
               try clear c5
               try clear c6
               try clear c6b0
               try clear p6
               try clear c7
               try clear c8
               try clear c8b0
               try clear c9
               try clear c9b0
               try clear c10
               try clear p10
               try clear q10
               try clear hx10
               try clear c12
               try clear c12b0
               try clear c12b1
               try clear c13
               try clear c15
               try clear c15b0
               try clear c15b1
               try clear c17
               try clear c17b0
               try clear c19
               try clear c19b0
               try clear c19b1
               try clear p1
               try clear p10
               try clear p2
               try clear p6
               try clear q1
               try clear q10
               obtain ⟨kq, x54_17, rfl, HA, HJ17, ⟨mc17, rfl⟩⟩ := hcut
               cases kq with
               | zero => exact absurd HA.out (by simp [storagebarterref01_Int.j3])
               | succ kj17 =>
                have H := HA.out
                clear HA
                simp only [storagebarterref01_Int.j3] at H
                by_cases c20 : x54_17 = true
                ·subst c20
                 have H1 : (some (0, 0, 2)) = some (r1, r2, r3) := by rw [if_pos rfl] at H; exact H
                 clear H
                 have H := H1
                 clear H1
                 simp only [Option.some.injEq, Prod.mk.injEq] at H
                 obtain ⟨rfl, rfl, rfl⟩ := H
                 go_wp2
                 go_ret3
                 exact ⟨by first | rfl | (simp; done) | (simp only [← hji7, ← hji14, ← hji16] <;> (first | rfl | simp)) | (simp [*]; done), by repeat (first | exact Drawn0.refl _ | apply Drawn0.step)⟩
                ·replace c20 := Bool.eq_false_iff.mpr c20
                 subst c20
                 have H1 : (if (Go.bits .and .u64 (Go.bits .or .u64 x7_2 (ji16)) 1) = 1 then (some (wrap64 ((wrap64 (-(wrap64 ((Go.bits .or .u64 x7_2 (ji16)) / 2)))) - 1), wrap64 ((wrap64 (a1 + x8_2)) + 1), 0)) else (some (wrap64 ((Go.bits .or .u64 x7_2 (ji16)) / 2), wrap64 ((wrap64 (a1 + x8_2)) + 1), 0))) = some (r1, r2, r3) := by rw [if_neg (show ¬ (false = true) by decide)] at H; exact H
                 clear H
                 have H := H1
                 clear H1
                 by_cases c21 : (Go.bits .and .u64 (Go.bits .or .u64 x7_2 (ji16)) 1) = 1
                 ·rw [if_pos c21] at H
                  have c21b0 : ((Go.bits .and .u64 (Go.bits .or .u64 x7_2 (ji16)) 1) == 1) = true := beq_iff_eq.mpr c21
                  have c21b1 : ((Go.bits .and .u64 (Go.bits .or .u64 x7_2 (ji16)) 1) != 1) = false := bne_eq_false_iff_eq.mpr c21
                  clear c21
                  simp only [Option.some.injEq, Prod.mk.injEq] at H
                  obtain ⟨rfl, rfl, rfl⟩ := H
                  go_wp2
                  go_ret3
                  exact ⟨by first | rfl | (simp; done) | (simp only [← hji7, ← hji14, ← hji16] <;> (first | rfl | simp)) | (simp [*]; done), by repeat (first | exact Drawn0.refl _ | apply Drawn0.step)⟩
                 ·rw [if_neg c21] at H
                  have c21b0 : ((Go.bits .and .u64 (Go.bits .or .u64 x7_2 (ji16)) 1) == 1) = false := beq_eq_false_iff_ne.mpr c21
                  have c21b1 : ((Go.bits .and .u64 (Go.bits .or .u64 x7_2 (ji16)) 1) != 1) = true := bne_iff_ne.mpr c21
                  simp only [Option.some.injEq, Prod.mk.injEq] at H
                  obtain ⟨rfl, rfl, rfl⟩ := H
                  go_wp2
                  go_ret3
                  exact ⟨by first | rfl | (simp; done) | (simp only [← hji7, ← hji14, ← hji16] <;> (first | rfl | simp)) | (simp [*]; done), by repeat (first | exact Drawn0.refl _ | apply Drawn0.step)⟩
            ·rw [if_neg c15] at H
             exact absurd H (by simp)
        ·rw [if_neg c9] at H
         exact absurd H (by simp)
       ·rw [if_neg c8] at H
        exact absurd H (by simp)
end Go.Proofs.Ytodhkbahjomfhaa.Q

namespace Go.Proofs.Ytodhkbahjomfhaa.Q
open Go.RowKit Go.Proofs.YtodhkbahjomfhaaW.PrintWords Go.Proofs.YtodhkbahjomfhaaW.PrintLast Go.Proofs.YtodhkbahjomfhaaW.PrintMore Go.Proofs.Ytodhkbahjomfhaa.Gput Go.Proofs.Ytodhkbahjomfhaa.Gputl
attribute [local go_sem] max2_int min2_int max_two min_two max_three min_three max_four min_four   -- for this text's walks alone
set_option linter.unusedVariables false
set_option linter.unusedSimpArgs false
noncomputable def storagebarterref01_PutInt.l0 : Nat → ByteArray → Int → Option (ByteArray)
 | 0, _, _ => none
 | k + 1, x0, x5 => if x5 > 127 then ((some (([Go.bits .or .u8 ((x5) % 256) 128] : List Int) : List Int)).bind fun y272 => (if x0.size + (strOfNums y272).size ≤ 9223372036854775807 then (storagebarterref01_PutInt.l0 k (x0 ++ (strOfNums y272)) (x5 / 128)) else (none))) else ((some (([(x5) % 256] : List Int) : List Int)).bind fun y275 => (if x0.size + (strOfNums y275).size ≤ 9223372036854775807 then (some (x0 ++ (strOfNums y275))) else (none)))
noncomputable def storagebarterref01_PutInt.f (k : Nat) (a0 : ByteArray) (a1 : Int) : Option (ByteArray) := storagebarterref01_PutInt.l0 k a0 (Go.bits .xor .u64 (IntKind.u64.wrap ((IntKind.u64.wrap (a1)) * 2)) (IntKind.u64.wrap (a1 / 9223372036854775808)))
set_option maxHeartbeats 8000000 in
set_option maxRecDepth 100000 in
theorem storagebarterref01_PutInt.calls (k : Nat) (a0 : ByteArray) (a1 : Int) (r : ByteArray) (w : World) (h : storagebarterref01_PutInt.f k a0 a1 = some r) :
 Calls Try.prog 66 #[.string a0, .int .i64 a1] w fun e w' => e = .returned (.string r) ∧ Below w.heap.size w w' := by
 have HB := Aside0.mk (Below.refl w.heap.size w)
 have H : (storagebarterref01_PutInt.l0 k a0 (Go.bits .xor .u64 (IntKind.u64.wrap ((IntKind.u64.wrap (a1)) * 2)) (IntKind.u64.wrap (a1 / 9223372036854775808)))) = some r := h
 clear h
 have H' := Aside0.mk H
 clear H
 go_enter Try.func66, Try.ntmps66
 go_wp2
 go_loopg [0, 5] k (fun kq v0 v5 w' => ∃ (x0_1 : ByteArray) (x5_1 : Int), v0 = .string x0_1 ∧ v5 = .int .u64 x5_1 ∧ Aside0 (storagebarterref01_PutInt.l0 kq x0_1 x5_1 = some r) ∧ Aside0 (kq ≤ k) ∧ Aside0 (Below w.heap.size w w'))
 case atStart => exact ⟨(a0), (Go.bits .xor .u64 (IntKind.u64.wrap ((IntKind.u64.wrap (a1)) * 2)) (IntKind.u64.wrap (a1 / 9223372036854775808))), (by first | rfl | (simp; done) | (simp [*]; done)), (by first | rfl | (simp; done) | (simp [*]; done)), H', ⟨Nat.le_refl _⟩, ⟨by repeat (first | (with_reducible first | exact HB.out | apply below_alloc | apply pw_below_drewN | apply below_drew1) | exact HB.out)⟩⟩
 case round =>
  clear H'
  try clear p2
  obtain ⟨x0_1, x5_1, rfl, rfl, HA, HK1, HB⟩ := hrel
  cases gk with
  | zero => exact absurd HA.out (by simp [storagebarterref01_PutInt.l0])
  | succ k1 =>
   have H := HA.out
   clear HA
   simp only [storagebarterref01_PutInt.l0] at H
   by_cases c3 : x5_1 > 127
   ·rw [if_pos c3] at H
    have c3b0 : decide (127 < x5_1) = true := decide_eq_true c3
    clear c3
    obtain ⟨y272, hy272⟩ : ∃ y_ : List Int, y_ = (([Go.bits .or .u8 ((x5_1) % 256) 128] : List Int)) := ⟨_, rfl⟩
    replace H : (if x0_1.size + (strOfNums y272).size ≤ 9223372036854775807 then (storagebarterref01_PutInt.l0 k1 (x0_1 ++ (strOfNums y272)) (x5_1 / 128)) else (none)) = some r := by first | (rw [hy272]; with_reducible exact H) | (have H2_ := (Option.bind_some _ _).symm.trans H; rw [hy272]; with_reducible exact H2_) | (have H2_ := (Option.bind_some _ _).symm.trans H; with_reducible exact H2_) | with_reducible exact H | (rw [hy272]; exact H) | exact H
    have Ny272 := Aside0.mk hy272
    clear hy272
    by_cases c4 : x0_1.size + (strOfNums y272).size ≤ 9223372036854775807
    ·rw [if_pos c4] at H
     have c4b0 := eq_true c4
     have c4b1 : decide (x0_1.size + (strOfNums y272).size ≤ 9223372036854775807) = true := decide_eq_true c4
     try have c4b2 : (9223372036854775807 < x0_1.size + (strOfNums y272).size) = False := eq_false (Nat.not_lt.2 c4)
     have H' := Aside0.mk H
     clear H
     go_wp2_with (first | ((with_reducible refine gate_dst (N := 19) rfl ?_); refine Kd.R_lit (Kd.int .u8) _ 5 ?hg (N := 19) ?hd (xs := ([Go.bits .or .u8 ((x5_1) % 256) 128] : List Int)) (inner := [.int .u8 (Go.bits .or .u8 ((x5_1) % 256) 128)]) (ok := fun _ => True) (okp := fun _ => True) ?hr ?hp (fun _ hk => hk) trivial (Below.refl _ _) (Nat.le_refl _) (by simp) ?_; (case hd => rfl); (case hg => rfl); (case hr => first | (go_simp; done) | (go_simp; rfl)); (case hp => exact (Reps.one (show Kd.M (Kd.int .u8) _ _ _ (Go.bits .or .u8 ((x5_1) % 256) 128) [.int .u8 (Go.bits .or .u8 ((x5_1) % 256) 128)] from rfl) (Reps.none _ _))); intro v273 w5 ho6 hb hg_ hnew_; clear hg_ hnew_; (first | rw [← Ny272.out] at ho6 | (simp only [Int.reduceToNat] at ho6; rw [← Ny272.out] at ho6)); have n0_ := Aside0.mk (Kd.R_lower ho6 (below_size (by repeat (first | (with_reducible first | exact HB.out | apply below_alloc | apply pw_below_drewN | apply below_drew1) | exact HB.out)))); have n1_ := Aside0.mk (below_step (by repeat (first | (with_reducible first | exact HB.out | apply below_alloc | apply pw_below_drewN | apply below_drew1) | exact HB.out)) hb); clear HB; have HO274 := n0_; have HB := n1_; clear n0_ n1_; clear hb ho6; have hcv7 := own_string (P := Try.prog) Try.underlying43 Try.underlying5 Try.underlying9 (Kd.own_of_R HO274.out)))
     go_roundg k1
     case measure => have := HK1.out; omega
     case rel => exact ⟨(x0_1 ++ (strOfNums y272)), (x5_1 / 128), (by first | rfl | (simp; done) | (simp [*]; done)), (by first | rfl | (simp; done) | (simp [*]; done)), H', ⟨by have := HK1.out; omega⟩, ⟨by repeat (first | (with_reducible first | exact HB.out | apply below_alloc | apply pw_below_drewN | apply below_drew1) | exact HB.out)⟩⟩
    ·rw [if_neg c4] at H
     exact absurd H (by simp)
   ·rw [if_neg c3] at H
    have c3b0 : decide (127 < x5_1) = false := decide_eq_false c3
    clear c3
    obtain ⟨y275, hy275⟩ : ∃ y_ : List Int, y_ = (([(x5_1) % 256] : List Int)) := ⟨_, rfl⟩
    replace H : (if x0_1.size + (strOfNums y275).size ≤ 9223372036854775807 then (some (x0_1 ++ (strOfNums y275))) else (none)) = some r := by first | (rw [hy275]; with_reducible exact H) | (have H2_ := (Option.bind_some _ _).symm.trans H; rw [hy275]; with_reducible exact H2_) | (have H2_ := (Option.bind_some _ _).symm.trans H; with_reducible exact H2_) | with_reducible exact H | (rw [hy275]; exact H) | exact H
    have Ny275 := Aside0.mk hy275
    clear hy275
    by_cases c8 : x0_1.size + (strOfNums y275).size ≤ 9223372036854775807
    ·rw [if_pos c8] at H
     have c8b0 := eq_true c8
     have c8b1 : decide (x0_1.size + (strOfNums y275).size ≤ 9223372036854775807) = true := decide_eq_true c8
     try have c8b2 : (9223372036854775807 < x0_1.size + (strOfNums y275).size) = False := eq_false (Nat.not_lt.2 c8)
     obtain rfl := Option.some.inj H
     go_wp2_with (first | ((with_reducible refine gate_dst (N := 27) rfl ?_); refine Kd.R_lit (Kd.int .u8) _ 5 ?hg (N := 27) ?hd (xs := ([(x5_1) % 256] : List Int)) (inner := [.int .u8 ((x5_1) % 256)]) (ok := fun _ => True) (okp := fun _ => True) ?hr ?hp (fun _ hk => hk) trivial (Below.refl _ _) (Nat.le_refl _) (by simp) ?_; (case hd => rfl); (case hg => rfl); (case hr => first | (go_simp; done) | (go_simp; rfl)); (case hp => exact (Reps.one (show Kd.M (Kd.int .u8) _ _ _ ((x5_1) % 256) [.int .u8 ((x5_1) % 256)] from rfl) (Reps.none _ _))); intro v276 w9 ho10 hb hg_ hnew_; clear hg_ hnew_; (first | rw [← Ny275.out] at ho10 | (simp only [Int.reduceToNat] at ho10; rw [← Ny275.out] at ho10)); have n0_ := Aside0.mk (Kd.R_lower ho10 (below_size (by repeat (first | (with_reducible first | exact HB.out | apply below_alloc | apply pw_below_drewN | apply below_drew1) | exact HB.out)))); have n1_ := Aside0.mk (below_step (by repeat (first | (with_reducible first | exact HB.out | apply below_alloc | apply pw_below_drewN | apply below_drew1) | exact HB.out)) hb); clear HB; have HO277 := n0_; have HB := n1_; clear n0_ n1_; clear hb ho10; have hcv11 := own_string (P := Try.prog) Try.underlying43 Try.underlying5 Try.underlying9 (Kd.own_of_R HO277.out)))
     go_ret
     exact ⟨by first | rfl | (simp [errW_none, errW_some] <;> rfl) | (simp [*, errW_none, errW_some] <;> rfl), by repeat (first | (with_reducible first | exact HB.out | apply below_alloc | apply pw_below_drewN | apply below_drew1) | exact HB.out)⟩
    ·rw [if_neg c8] at H
     exact absurd H (by simp)
end Go.Proofs.Ytodhkbahjomfhaa.Q

namespace Go.Proofs.Ytodhkbahjomfhaa.Gwa
open Go Go.RowKit Go.Proofs.Ytodhkbahjomfhaa.Gm Go.Proofs.Ytodhkbahjomfhaa.Q Go.Proofs.Ytodhkbahjomfhaa.Gput Go.Proofs.YtodhkbahjomfhaaW.PrintWords Go.Proofs.YtodhkbahjomfhaaW.PrintLast Go.Proofs.YtodhkbahjomfhaaW.PrintMore
set_option linter.unusedVariables false
theorem wrap_u64 (x : Int) : IntKind.u64.wrap x = x % 18446744073709551616 := by simp [IntKind.wrap, IntKind.bits, IntKind.signed]
theorem wraps_u64 (n : Int) (h₀ : 0 ≤ n) (h₁ : n < 2 ^ 64) : IntKind.u64.wrap n = n := by rw [wrap_u64]; omega
theorem w64 {x : Int} (h : -9223372036854775808 ≤ x ∧ x ≤ 9223372036854775807) : wrap64 x = x := by unfold wrap64; omega
theorem u8_and127 (x : Int) (h₀ : 0 ≤ x) (h₁ : x < 256) : bits .and .u8 x 127 = x % 128 := bits_mask .u8 8 (by decide) wraps_u8 7 (by decide) x h₀ h₁
theorem u64_and1 (x : Int) (h₀ : 0 ≤ x) (h₁ : x < 18446744073709551616) : bits .and .u64 x 1 = x % 2 := bits_mask .u64 64 (by decide) wraps_u64 1 (by decide) x h₀ h₁
theorem or_comm64 (a b : Nat) (ha : a < 2 ^ 64) (hb : b < 2 ^ 64) : bits .or .u64 (a : Int) (b : Int) = bits .or .u64 (b : Int) (a : Int) := by
 rw [(bits_nat .u64 64 (by decide) wraps_u64 a b ha hb).2, (bits_nat .u64 64 (by decide) wraps_u64 b a hb ha).2, Nat.or_comm]
theorem pow128 (i : Nat) : (128 : Nat) ^ i = 2 ^ (7 * i) := by rw [Nat.pow_mul]
theorem mul_lt64 {i b : Nat} (hi : i ≤ 9) (hb : i = 9 → b ≤ 1) : b % 128 * 128 ^ i + 128 ^ i ≤ 18446744073709551616 := by
 obtain ⟨m, hm, hm2, hm9⟩ := pow_split hi
 rw [hm, ← Nat.succ_mul, Nat.mul_comm]
 refine Nat.mul_le_mul_left _ ?_
 rcases Nat.lt_or_ge i 9 with h | h
 ·have := hm9 h; omega
 ·have := hb (by omega); omega
theorem shl_part (b i : Nat) (h256 : b < 256) (hi : i ≤ 9) (hb : i = 9 → b ≤ 1) : shl .u64 (IntKind.u64.wrap (bits .and .u8 (b : Int) 127)) (wrap64 (7 * (i : Int))) = ((b % 128 * 128 ^ i : Nat) : Int) := by
 have hlt := mul_lt64 hi hb
 have hpos : 0 < 128 ^ i := Nat.pow_pos (by decide)
 rw [u8_and127 _ (by omega) (by omega), w64 (by omega), wrap_u64]
 unfold shl
 have e1 : ((b : Int) % 128 % 18446744073709551616) = ((b % 128 : Nat) : Int) := by omega
 have e2 : min (7 * (i : Int)).toNat IntKind.u64.bits = 7 * i := by
  have : IntKind.u64.bits = 64 := rfl
  omega
 rw [e1, e2, wrap_u64]
 have e3 : ((b % 128 : Nat) : Int) * 2 ^ (7 * i) = ((b % 128 * 128 ^ i : Nat) : Int) := by
  rw [pow128, Int.natCast_mul, Int.natCast_pow]
  rfl
 rw [e3]
 omega
theorem or_part (u b i : Nat) (h256 : b < 256) (hi : i ≤ 9) (hb : i = 9 → b ≤ 1) (hu : u < 128 ^ i) :
 bits .or .u64 (u : Int) ((b % 128 * 128 ^ i : Nat) : Int) = ((u + b % 128 * 128 ^ i : Nat) : Int) := by
 have hlt := mul_lt64 hi hb
 have hpos : 0 < 128 ^ i := Nat.pow_pos (by decide)
 have h64 : (18446744073709551616 : Nat) = 2 ^ 64 := by decide
 have hx : b % 128 * 128 ^ i < 2 ^ 64 := by rw [← h64]; omega
 have hu64 : u < 2 ^ 64 := by rw [← h64]; omega
 rw [or_comm64 _ _ hu64 hx]
 have hj := bits_join .u64 64 (by decide) wraps_u64 (7 * i) ((b % 128 * 128 ^ i : Nat) : Int) (u : Int) (by omega)
  (by
   rw [pow128]
   have : ((2 : Int) ^ (7 * i)) = ((2 ^ (7 * i) : Nat) : Int) := by simp
   rw [this, ← Int.natCast_emod, Nat.mul_mod_left]; rfl)
  (by exact_mod_cast hx) (by omega) (by rw [pow128] at hu; exact_mod_cast hu) (by exact_mod_cast hu64)
 rw [hj]
 omega
theorem bits_xor64i (a b : Int) : bits .xor .i64 a b = IntKind.i64.wrap ((BitVec.ofInt 64 a ^^^ BitVec.ofInt 64 b).toNat : Int) := rfl
theorem unzig_bits (U : Nat) (h : U < 18446744073709551616) : bits .xor .i64 (wrap64 ((U : Int) / 2)) (wrap64 (-(wrap64 (bits .and .u64 (U : Int) 1)))) = unzig U := by
 rw [u64_and1 _ (by omega) (by omega), w64 (x := (U : Int) / 2) (by omega), w64 (x := (U : Int) % 2) (by omega), w64 (by omega)]
 have ex : ((U : Int) / 2) = ((U / 2 : Nat) : Int) := by omega
 rw [ex, bits_xor64i, BitVec.ofInt_natCast]
 have hlt : U / 2 < 2 ^ 64 := by omega
 unfold unzig
 rcases Nat.mod_two_eq_zero_or_one U with h0 | h1
 ·have e0 : (-((U : Int) % 2)) = ((0 : Nat) : Int) := by omega
  rw [e0, BitVec.ofInt_natCast, BitVec.toNat_xor, BitVec.toNat_ofNat, BitVec.toNat_ofNat, Nat.mod_eq_of_lt hlt, Nat.zero_mod, Nat.xor_zero, IntKind.wrap_i64, if_pos h0]
  omega
 ·have e1 : (-((U : Int) % 2)) = -1 := by omega
  have hn : BitVec.ofInt 64 (-1) = BitVec.allOnes 64 := by decide
  rw [e1, hn, BitVec.xor_allOnes, BitVec.toNat_not, BitVec.toNat_ofNat, Nat.mod_eq_of_lt hlt, IntKind.wrap_i64, if_neg (by omega)]
  omega
def told (a : Int) : Nat × Nat × Nat → Int × Int × Int
 | (u, n, 0) => (unzig u, a + n, 0)
 | (_, _, e) => (0, 0, e)
def intAt (s : ByteArray) (a : Int) : Int × Int × Int :=
 if a < 0 ∨ a > s.size then (0, 0, 1) else told a (rdU 0 0 (s.data.toList.drop a.toNat))
theorem bt_at (s : ByteArray) (a : Nat) (h : a < s.size) : bt s (a : Int) = ((s.data.toList.drop a).headD 0).toNat := by
 have h' : a < s.data.size := h
 unfold bt
 rw [dif_pos (by simpa using h)]
 simp only [Int.toNat_natCast]
 rw [List.drop_eq_getElem_cons (by simpa using h')]
 rfl
theorem drop_at (s : ByteArray) (a : Nat) (h : a < s.size) : s.data.toList.drop a = UInt8.ofNat (bt s (a : Int)).toNat :: s.data.toList.drop (a + 1) := by
 have h' : a < s.data.size := h
 rw [bt_at s a h, List.drop_eq_getElem_cons (by simpa using h')]
 simp
theorem bt_lt (s : ByteArray) (i : Int) : 0 ≤ bt s i ∧ bt s i < 256 := by
 unfold bt
 split
 ·have := (s[i.toNat]).toNat_lt; omega
 ·omega
set_option maxHeartbeats 1000000 in
theorem wire_Int_l0 (s : ByteArray) (a : Nat) (hs : s.size ≤ 9223372036854775000) : ∀ (d i u k : Nat), 9 - i = d → i ≤ 9 → a + i ≤ s.size → u < 128 ^ i → 2 * d + 3 ≤ k →
 wire_Int.l0 k s a u i = some (told a (rdU i u (s.data.toList.drop (a + i)))) := by
 intro d
 induction d with
 | zero =>
  intro i u k hd hi ha hu hk
  obtain rfl : i = 9 := by omega
  obtain ⟨k, rfl⟩ : ∃ m, k = m + 2 := ⟨k - 2, by omega⟩
  have ew : wrap64 ((a : Int) + ((9 : Nat) : Int)) = ((a + 9 : Nat) : Int) := by rw [w64 (by omega)]; omega
  simp only [wire_Int.l0]
  rw [ew]
  by_cases hend : a + 9 = s.size
  ·rw [if_pos (by omega), List.drop_of_length_le (by rw [Array.length_toList]; exact Nat.le_of_eq hend.symm)]
   rfl
  ·have hlt : a + 9 < s.size := by omega
   have hb := bt_lt s ((a + 9 : Nat) : Int)
   obtain ⟨b, hbn⟩ : ∃ b : Nat, bt s ((a + 9 : Nat) : Int) = b := ⟨(bt s ((a + 9 : Nat) : Int)).toNat, by omega⟩
   rw [if_neg (by omega), if_pos (by omega), if_pos (by omega), drop_at s _ hlt, hbn, rdU, Int.toNat_natCast, u8_ofNat b (by omega), if_pos (by omega)]
   by_cases h1 : 1 < b
   ·rw [if_pos (by omega), if_pos (.inl ⟨rfl, h1⟩)]
    simp only [wire_Int.j2]
    rfl
   ·rw [if_neg (by omega), if_pos (by omega)]
    by_cases h0 : b = 0
    ·rw [if_pos (.inr ⟨by omega, h0⟩)]
     subst h0
     simp only [wire_Int.j2]
     rfl
    ·have hb0 : ((b : Int) == 0) = false := by simp; omega
     rw [if_neg (by omega), if_pos (by omega), hb0]
     simp only [wire_Int.j2]
     rw [if_neg (by simp), if_pos (by rw [w64 (by omega)]; omega), if_pos (by omega), shl_part b 9 (by omega) (by omega) (fun _ => by omega), or_part u b 9 (by omega) (by omega) (fun _ => by omega) hu]
     have hlt := mul_lt64 (i := 9) (b := b) (by omega) (fun _ => by omega)
     rw [unzig_bits _ (by omega), ew, w64 (by omega), Nat.mod_eq_of_lt (show b < 128 by omega)]
     simp only [told]
     rfl
 | succ d ih =>
  intro i u k hd hi ha hu hk
  obtain ⟨k, rfl⟩ : ∃ m, k = m + 2 := ⟨k - 2, by omega⟩
  have ew : wrap64 ((a : Int) + (i : Int)) = ((a + i : Nat) : Int) := by rw [w64 (by omega)]; omega
  simp only [wire_Int.l0]
  rw [ew]
  by_cases hend : a + i = s.size
  ·rw [if_pos (by omega), List.drop_of_length_le (by rw [Array.length_toList]; exact Nat.le_of_eq hend.symm)]
   rfl
  ·have hlt : a + i < s.size := by omega
   have hb := bt_lt s ((a + i : Nat) : Int)
   obtain ⟨b, hbn⟩ : ∃ b : Nat, bt s ((a + i : Nat) : Int) = b := ⟨(bt s ((a + i : Nat) : Int)).toNat, by omega⟩
   have key : ∀ z : Bool, z = decide (0 < i ∧ b = 0) → wire_Int.j2 (k + 1) s a u i b z = some (told a (if (i = 9 ∧ 1 < b) ∨ (0 < i ∧ b = 0) then (0, 0, 2) else if b < 128 then (u + b * 128 ^ i, i + 1, 0) else rdU (i + 1) (u + b % 128 * 128 ^ i) (s.data.toList.drop (a + i + 1)))) := by
    intro z hz
    simp only [wire_Int.j2]
    by_cases hc : 0 < i ∧ b = 0
    ·rw [if_pos (by rw [hz]; simp [hc]), if_pos (.inr hc)]
     rfl
    ·rw [if_neg (by rw [hz]; simpa using hc), if_neg (show ¬ ((i = 9 ∧ 1 < b) ∨ (0 < i ∧ b = 0)) by rintro (⟨h9, -⟩ | h); omega; exact hc h), if_pos (show 0 ≤ wrap64 (7 * (i : Int)) by rw [w64 (by omega)]; omega), shl_part b i (by omega) hi (fun _ => by omega), or_part u b i (by omega) hi (fun _ => by omega) hu]
     have hlt := mul_lt64 hi (b := b) (fun _ => by omega)
     by_cases h128 : b < 128
     ·rw [if_pos (by omega), if_pos h128, unzig_bits _ (by omega), ew, w64 (by omega), Nat.mod_eq_of_lt h128]
      simp only [told]
      rfl
     ·rw [if_neg (by omega), if_neg h128, w64 (by omega)]
      have h2 : u + b % 128 * 128 ^ i < 128 ^ (i + 1) := by
       have h3 : b % 128 * 128 ^ i ≤ 127 * 128 ^ i := Nat.mul_le_mul_right _ (by omega)
       have h4 : 128 ^ (i + 1) = 128 ^ i * 128 := Nat.pow_succ 128 i
       omega
      have := ih (i + 1) (u + b % 128 * 128 ^ i) (k) (by omega) (by omega) (by omega) h2 (by omega)
      rw [show ((i + 1 : Nat) : Int) = (i : Int) + 1 by omega] at this
      rw [this, Nat.add_assoc]
   rw [if_neg (by omega), if_pos (by omega), if_pos (by omega), drop_at s _ hlt, hbn, rdU, Int.toNat_natCast, u8_ofNat b (by omega), if_neg (by omega)]
   by_cases hi0 : 0 < i
   ·rw [if_pos (by omega)]
    refine key _ ?_
    rw [Bool.eq_iff_iff]; simp; omega
   ·rw [if_neg (by omega)]
    exact key _ (by simp; omega)
theorem wire_Int_eq (s : ByteArray) (a : Int) (k : Nat) (hs : s.size ≤ 9223372036854775000) (hk : 24 ≤ k) : wire_Int.f k s a = some (intAt s a) := by
 obtain ⟨k, rfl⟩ : ∃ m, k = m + 1 := ⟨k - 1, by omega⟩
 unfold wire_Int.f intAt
 by_cases h0 : a < 0
 ·rw [if_pos h0, if_pos (.inl h0)]
  simp only [wire_Int.j0]
  rfl
 ·rw [if_neg h0]
  simp only [wire_Int.j0]
  by_cases h1 : a > (s.size : Int)
  ·rw [if_pos (by simpa using h1), if_pos (.inr h1)]
  ·rw [if_neg (by simpa using h1), if_neg (by omega)]
   obtain ⟨n, rfl⟩ : ∃ n : Nat, a = n := ⟨a.toNat, by omega⟩
   exact wire_Int_l0 s n hs 9 0 0 k rfl (by omega) (by omega) (by simp) (by omega)
end Go.Proofs.Ytodhkbahjomfhaa.Gwa

namespace Go.Proofs.Ytodhkbahjomfhaa.Q
open Go.RowKit Go.Proofs.YtodhkbahjomfhaaW.PrintWords Go.Proofs.YtodhkbahjomfhaaW.PrintLast Go.Proofs.YtodhkbahjomfhaaW.PrintMore Go.Proofs.Ytodhkbahjomfhaa.Gput Go.Proofs.Ytodhkbahjomfhaa.Gputl
attribute [local go_sem] max2_int min2_int max_two min_two max_three min_three max_four min_four   -- for this text's walks alone
set_option linter.unusedVariables false
set_option linter.unusedSimpArgs false
noncomputable def wire_count.f (k : Nat) (a0 : ByteArray) (a1 : Int) (a2 : Int) : Option (Int × Int × Int) := (wire_Int.f k a0 a1).bind fun bt101 => (if bt101.2.2 = 0 then (if bt101.1 < 0 then (some (0, 0, 2)) else (if bt101.1 > a2 then (some (0, 0, 4)) else (some (bt101.1, bt101.2.1, 0)))) else (some (0, 0, bt101.2.2)))
set_option maxHeartbeats 8000000 in
set_option maxRecDepth 100000 in
theorem wire_count.calls (k : Nat) (a0 : ByteArray) (a1 : Int) (a2 : Int) (r1 : Int) (r2 : Int) (r3 : Int) (w : World) (h : wire_count.f k a0 a1 a2 = some (r1, r2, r3)) :
 Calls Try.prog 102 #[.string a0, .int .i64 a1, .int .i64 a2] w fun e w' => e = .returned (.tuple #[.int .i64 r1, .int .i64 r2, .int .i64 r3]) ∧ Drawn0 w w' := by
 have H : ((wire_Int.f k a0 a1).bind fun bt101 => (if bt101.2.2 = 0 then (if bt101.1 < 0 then (some (0, 0, 2)) else (if bt101.1 > a2 then (some (0, 0, 4)) else (some (bt101.1, bt101.2.1, 0)))) else (some (0, 0, bt101.2.2)))) = some (r1, r2, r3) := h
 clear h
 replace H := Option.bind_eq_some_iff.mp H
 obtain ⟨⟨t101, t102, t103⟩, A40, H⟩ := H
 replace H : (if t103 = 0 then (if t101 < 0 then (some (0, 0, 2)) else (if t101 > a2 then (some (0, 0, 4)) else (some (t101, t102, 0)))) else (some (0, 0, t103))) = some (r1, r2, r3) := H
 have A4 := Aside0.mk A40
 clear A40
 by_cases c5 : t103 = 0
 ·rw [if_pos c5] at H
  have c5b0 : (t103 == 0) = true := beq_iff_eq.mpr c5
  have c5b1 : (t103 != 0) = false := bne_eq_false_iff_eq.mpr c5
  clear c5
  by_cases c6 : t101 < 0
  ·rw [if_pos c6] at H
   have c6b0 : decide (t101 < 0) = true := decide_eq_true c6
   clear c6
   simp only [Option.some.injEq, Prod.mk.injEq] at H
   obtain ⟨rfl, rfl, rfl⟩ := H
   go_enter Try.func102, Try.ntmps102
   go_wp2_with (first | ((with_reducible refine gate_callee (f := 76) rfl ?_); refine goesL_ (some 14) rfl rfl Try.func76 (by kernel_rfl) rfl #[.string a0, .int .i64 a1] rfl (by (try simp only [List.map_toArray, List.map_cons, List.map_nil]); first | done | rfl | (simp only [List.length_drop, List.length_take]; rfl)) ?_; (with_reducible refine (wire_Int.calls k a0 a1 t101 t102 t103 _ A4.out).mono ?_); rintro e w' ⟨rfl, ⟨nd, rfl⟩⟩; refine ⟨_, rfl, ?_⟩))
   go_ret3
   exact ⟨by first | rfl | (simp; done) | (simp [*]; done), by repeat (first | exact Drawn0.refl _ | apply Drawn0.step)⟩
  ·rw [if_neg c6] at H
   have c6b0 : decide (t101 < 0) = false := decide_eq_false c6
   clear c6
   by_cases c7 : t101 > a2
   ·rw [if_pos c7] at H
    have c7b0 : decide (a2 < t101) = true := decide_eq_true c7
    clear c7
    simp only [Option.some.injEq, Prod.mk.injEq] at H
    obtain ⟨rfl, rfl, rfl⟩ := H
    go_enter Try.func102, Try.ntmps102
    go_wp2_with (first | ((with_reducible refine gate_callee (f := 76) rfl ?_); refine goesL_ (some 14) rfl rfl Try.func76 (by kernel_rfl) rfl #[.string a0, .int .i64 a1] rfl (by (try simp only [List.map_toArray, List.map_cons, List.map_nil]); first | done | rfl | (simp only [List.length_drop, List.length_take]; rfl)) ?_; (with_reducible refine (wire_Int.calls k a0 a1 t101 t102 t103 _ A4.out).mono ?_); rintro e w' ⟨rfl, ⟨nd, rfl⟩⟩; refine ⟨_, rfl, ?_⟩))
    go_ret3
    exact ⟨by first | rfl | (simp; done) | (simp [*]; done), by repeat (first | exact Drawn0.refl _ | apply Drawn0.step)⟩
   ·rw [if_neg c7] at H
    have c7b0 : decide (a2 < t101) = false := decide_eq_false c7
    clear c7
    simp only [Option.some.injEq, Prod.mk.injEq] at H
    obtain ⟨rfl, rfl, rfl⟩ := H
    go_enter Try.func102, Try.ntmps102
    go_wp2_with (first | ((with_reducible refine gate_callee (f := 76) rfl ?_); refine goesL_ (some 14) rfl rfl Try.func76 (by kernel_rfl) rfl #[.string a0, .int .i64 a1] rfl (by (try simp only [List.map_toArray, List.map_cons, List.map_nil]); first | done | rfl | (simp only [List.length_drop, List.length_take]; rfl)) ?_; (with_reducible refine (wire_Int.calls k a0 a1 t101 t102 t103 _ A4.out).mono ?_); rintro e w' ⟨rfl, ⟨nd, rfl⟩⟩; refine ⟨_, rfl, ?_⟩))
    go_ret3
    exact ⟨by first | rfl | (simp; done) | (simp [*]; done), by repeat (first | exact Drawn0.refl _ | apply Drawn0.step)⟩
 ·rw [if_neg c5] at H
  have c5b0 : (t103 == 0) = false := beq_eq_false_iff_ne.mpr c5
  have c5b1 : (t103 != 0) = true := bne_iff_ne.mpr c5
  simp only [Option.some.injEq, Prod.mk.injEq] at H
  obtain ⟨rfl, rfl, rfl⟩ := H
  go_enter Try.func102, Try.ntmps102
  go_wp2_with (first | ((with_reducible refine gate_callee (f := 76) rfl ?_); refine goesL_ (some 14) rfl rfl Try.func76 (by kernel_rfl) rfl #[.string a0, .int .i64 a1] rfl (by (try simp only [List.map_toArray, List.map_cons, List.map_nil]); first | done | rfl | (simp only [List.length_drop, List.length_take]; rfl)) ?_; (with_reducible refine (wire_Int.calls k a0 a1 t101 t102 t103 _ A4.out).mono ?_); rintro e w' ⟨rfl, ⟨nd, rfl⟩⟩; refine ⟨_, rfl, ?_⟩))
  go_ret3
  exact ⟨by first | rfl | (simp; done) | (simp [*]; done), by repeat (first | exact Drawn0.refl _ | apply Drawn0.step)⟩
end Go.Proofs.Ytodhkbahjomfhaa.Q

namespace Go.Proofs.Ytodhkbahjomfhaa.Q
open Go.RowKit Go.Proofs.YtodhkbahjomfhaaW.PrintWords Go.Proofs.YtodhkbahjomfhaaW.PrintLast Go.Proofs.YtodhkbahjomfhaaW.PrintMore Go.Proofs.Ytodhkbahjomfhaa.Gput Go.Proofs.Ytodhkbahjomfhaa.Gputl
attribute [local go_sem] max2_int min2_int max_two min_two max_three min_three max_four min_four   -- for this text's walks alone
set_option linter.unusedVariables false
set_option linter.unusedSimpArgs false
noncomputable def wire_Text.f (k : Nat) (a0 : ByteArray) (a1 : Int) (a2 : Int) : Option (ByteArray × Int × Int) := (wire_count.f k a0 a1 a2).bind fun bt104 => (if bt104.2.2 = 0 then (if bt104.1 > (wrap64 ((a0.size : Int) - bt104.2.1)) then (some ((⟨#[]⟩ : ByteArray), 0, 3)) else (if 0 ≤ bt104.2.1 then (if bt104.2.1 ≤ (wrap64 (bt104.2.1 + bt104.1)) then (if (wrap64 (bt104.2.1 + bt104.1)) ≤ (a0.size : Int) then (some (a0.extract (bt104.2.1 : Int).toNat ((wrap64 (bt104.2.1 + bt104.1)) : Int).toNat, wrap64 (bt104.2.1 + bt104.1), 0)) else (none)) else (none)) else (none))) else (some ((⟨#[]⟩ : ByteArray), 0, bt104.2.2)))
set_option maxHeartbeats 8000000 in
set_option maxRecDepth 100000 in
theorem wire_Text.calls (k : Nat) (a0 : ByteArray) (a1 : Int) (a2 : Int) (r1 : ByteArray) (r2 : Int) (r3 : Int) (w : World) (h : wire_Text.f k a0 a1 a2 = some (r1, r2, r3)) :
 Calls Try.prog 97 #[.string a0, .int .i64 a1, .int .i64 a2] w fun e w' => e = .returned (.tuple #[.string r1, .int .i64 r2, .int .i64 r3]) ∧ Drawn0 w w' := by
 have H : ((wire_count.f k a0 a1 a2).bind fun bt104 => (if bt104.2.2 = 0 then (if bt104.1 > (wrap64 ((a0.size : Int) - bt104.2.1)) then (some ((⟨#[]⟩ : ByteArray), 0, 3)) else (if 0 ≤ bt104.2.1 then (if bt104.2.1 ≤ (wrap64 (bt104.2.1 + bt104.1)) then (if (wrap64 (bt104.2.1 + bt104.1)) ≤ (a0.size : Int) then (some (a0.extract (bt104.2.1 : Int).toNat ((wrap64 (bt104.2.1 + bt104.1)) : Int).toNat, wrap64 (bt104.2.1 + bt104.1), 0)) else (none)) else (none)) else (none))) else (some ((⟨#[]⟩ : ByteArray), 0, bt104.2.2)))) = some (r1, r2, r3) := h
 clear h
 replace H := Option.bind_eq_some_iff.mp H
 obtain ⟨⟨t104, t105, t106⟩, A40, H⟩ := H
 replace H : (if t106 = 0 then (if t104 > (wrap64 ((a0.size : Int) - t105)) then (some ((⟨#[]⟩ : ByteArray), 0, 3)) else (if 0 ≤ t105 then (if t105 ≤ (wrap64 (t105 + t104)) then (if (wrap64 (t105 + t104)) ≤ (a0.size : Int) then (some (a0.extract (t105 : Int).toNat ((wrap64 (t105 + t104)) : Int).toNat, wrap64 (t105 + t104), 0)) else (none)) else (none)) else (none))) else (some ((⟨#[]⟩ : ByteArray), 0, t106))) = some (r1, r2, r3) := H
 have A4 := Aside0.mk A40
 clear A40
 by_cases c5 : t106 = 0
 ·rw [if_pos c5] at H
  have c5b0 : (t106 == 0) = true := beq_iff_eq.mpr c5
  have c5b1 : (t106 != 0) = false := bne_eq_false_iff_eq.mpr c5
  clear c5
  by_cases c6 : t104 > (wrap64 ((a0.size : Int) - t105))
  ·rw [if_pos c6] at H
   have c6b0 : decide ((wrap64 ((a0.size : Int) - t105)) < t104) = true := decide_eq_true c6
   clear c6
   simp only [Option.some.injEq, Prod.mk.injEq] at H
   obtain ⟨rfl, rfl, rfl⟩ := H
   go_enter Try.func97, Try.ntmps97
   go_wp2_with (first | ((with_reducible refine gate_callee (f := 102) rfl ?_); refine goesL_ (some 15) rfl rfl Try.func102 (by kernel_rfl) rfl #[.string a0, .int .i64 a1, .int .i64 a2] rfl (by (try simp only [List.map_toArray, List.map_cons, List.map_nil]); first | done | rfl | (simp only [List.length_drop, List.length_take]; rfl)) ?_; (with_reducible refine (wire_count.calls k a0 a1 a2 t104 t105 t106 _ A4.out).mono ?_); rintro e w' ⟨rfl, ⟨nd, rfl⟩⟩; refine ⟨_, rfl, ?_⟩))
   go_ret3
   exact ⟨by first | rfl | (simp; done) | (simp [*]; done), by repeat (first | exact Drawn0.refl _ | apply Drawn0.step)⟩
  ·rw [if_neg c6] at H
   have c6b0 : decide ((wrap64 ((a0.size : Int) - t105)) < t104) = false := decide_eq_false c6
   clear c6
   by_cases c7 : 0 ≤ t105
   ·rw [if_pos c7] at H
    have c7b0 := eq_true c7
    have c7b1 : decide (0 ≤ t105) = true := decide_eq_true c7
    clear c7
    by_cases c8 : t105 ≤ (wrap64 (t105 + t104))
    ·rw [if_pos c8] at H
     have c8b0 := eq_true c8
     have c8b1 : decide (t105 ≤ (wrap64 (t105 + t104))) = true := decide_eq_true c8
     by_cases c9 : (wrap64 (t105 + t104)) ≤ (a0.size : Int)
     ·rw [if_pos c9] at H
      have c9b0 := eq_true c9
      have c9b1 : decide ((wrap64 (t105 + t104)) ≤ (a0.size : Int)) = true := decide_eq_true c9
      simp only [Option.some.injEq, Prod.mk.injEq] at H
      obtain ⟨rfl, rfl, rfl⟩ := H
      go_enter Try.func97, Try.ntmps97
      go_wp2_with (first | ((with_reducible refine gate_callee (f := 102) rfl ?_); refine goesL_ (some 15) rfl rfl Try.func102 (by kernel_rfl) rfl #[.string a0, .int .i64 a1, .int .i64 a2] rfl (by (try simp only [List.map_toArray, List.map_cons, List.map_nil]); first | done | rfl | (simp only [List.length_drop, List.length_take]; rfl)) ?_; (with_reducible refine (wire_count.calls k a0 a1 a2 t104 t105 t106 _ A4.out).mono ?_); rintro e w' ⟨rfl, ⟨nd, rfl⟩⟩; refine ⟨_, rfl, ?_⟩))
      go_ret3
      exact ⟨by first | rfl | (simp; done) | (simp [*]; done), by repeat (first | exact Drawn0.refl _ | apply Drawn0.step)⟩
     ·rw [if_neg c9] at H
      exact absurd H (by simp)
    ·rw [if_neg c8] at H
     exact absurd H (by simp)
   ·rw [if_neg c7] at H
    exact absurd H (by simp)
 ·rw [if_neg c5] at H
  have c5b0 : (t106 == 0) = false := beq_eq_false_iff_ne.mpr c5
  have c5b1 : (t106 != 0) = true := bne_iff_ne.mpr c5
  simp only [Option.some.injEq, Prod.mk.injEq] at H
  obtain ⟨rfl, rfl, rfl⟩ := H
  go_enter Try.func97, Try.ntmps97
  go_wp2_with (first | ((with_reducible refine gate_callee (f := 102) rfl ?_); refine goesL_ (some 15) rfl rfl Try.func102 (by kernel_rfl) rfl #[.string a0, .int .i64 a1, .int .i64 a2] rfl (by (try simp only [List.map_toArray, List.map_cons, List.map_nil]); first | done | rfl | (simp only [List.length_drop, List.length_take]; rfl)) ?_; (with_reducible refine (wire_count.calls k a0 a1 a2 t104 t105 t106 _ A4.out).mono ?_); rintro e w' ⟨rfl, ⟨nd, rfl⟩⟩; refine ⟨_, rfl, ?_⟩))
  go_ret3
  exact ⟨by first | rfl | (simp; done) | (simp [*]; done), by repeat (first | exact Drawn0.refl _ | apply Drawn0.step)⟩
end Go.Proofs.Ytodhkbahjomfhaa.Q

namespace Go.Proofs.Ytodhkbahjomfhaa.Q
open Go.RowKit Go.Proofs.YtodhkbahjomfhaaW.PrintWords Go.Proofs.YtodhkbahjomfhaaW.PrintLast Go.Proofs.YtodhkbahjomfhaaW.PrintMore Go.Proofs.Ytodhkbahjomfhaa.Gput Go.Proofs.Ytodhkbahjomfhaa.Gputl
attribute [local go_sem] max2_int min2_int max_two min_two max_three min_three max_four min_four   -- for this text's walks alone
set_option linter.unusedVariables false
set_option linter.unusedSimpArgs false
noncomputable def wire_PutText.f (a0 : ByteArray) (a1 : ByteArray) : Option (ByteArray) := (wire_PutInt.f a0 (a1.size : Int)).bind fun t261 => (if t261.size + a1.size ≤ 9223372036854775807 then (some (t261 ++ a1)) else (none))
set_option maxHeartbeats 8000000 in
set_option maxRecDepth 100000 in
theorem wire_PutText.calls (a0 : ByteArray) (a1 : ByteArray) (r : ByteArray) (w : World) (h : wire_PutText.f a0 a1 = some r) :
 Calls Try.prog 71 #[.string a0, .string a1] w fun e w' => e = .returned (.string r) ∧ Below w.heap.size w w' := by
 have HB := Aside0.mk (Below.refl w.heap.size w)
 have H : ((wire_PutInt.f a0 (a1.size : Int)).bind fun t261 => (if t261.size + a1.size ≤ 9223372036854775807 then (some (t261 ++ a1)) else (none))) = some r := h
 clear h
 replace H := Option.bind_eq_some_iff.mp H
 obtain ⟨t261, A30, H⟩ := H
 replace H : (if t261.size + a1.size ≤ 9223372036854775807 then (some (t261 ++ a1)) else (none)) = some r := H
 have A3 := Aside0.mk A30
 clear A30
 by_cases c4 : t261.size + a1.size ≤ 9223372036854775807
 ·rw [if_pos c4] at H
  have c4b0 := eq_true c4
  have c4b1 : decide (t261.size + a1.size ≤ 9223372036854775807) = true := decide_eq_true c4
  try have c4b2 : (9223372036854775807 < t261.size + a1.size) = False := eq_false (Nat.not_lt.2 c4)
  obtain rfl := Option.some.inj H
  go_enter Try.func71, Try.ntmps71
  go_wp2_with (first | ((with_reducible refine gate_callee (f := 65) rfl ?_); refine goesL_ (some 8) rfl rfl Try.func65 (by kernel_rfl) rfl #[.string a0, .int .i64 (a1.size : Int)] rfl (by (try simp only [List.map_toArray, List.map_cons, List.map_nil]); first | done | rfl | (simp only [List.length_drop, List.length_take]; rfl)) ?_; (with_reducible refine (wire_PutInt.calls a0 (a1.size : Int) t261 _ A3.out).mono ?_); rintro e w5 ⟨rfl, hb⟩; refine ⟨_, rfl, ?_⟩; have n0_ := Aside0.mk (below_step (by repeat (first | (with_reducible first | exact HB.out | apply below_alloc | apply pw_below_drewN | apply below_drew1) | exact HB.out)) hb); clear HB; have HB := n0_; clear n0_; (try clear hb); (try clear hb2); (try clear hk); (try clear hi)))
  go_ret
  exact ⟨by first | rfl | (simp [errW_none, errW_some] <;> rfl) | (simp [*, errW_none, errW_some] <;> rfl), by repeat (first | (with_reducible first | exact HB.out | apply below_alloc | apply pw_below_drewN | apply below_drew1) | exact HB.out)⟩
 ·rw [if_neg c4] at H
  exact absurd H (by simp)
end Go.Proofs.Ytodhkbahjomfhaa.Q

namespace Go.Proofs.Ytodhkbahjomfhaa.Q
open Go.RowKit Go.Proofs.YtodhkbahjomfhaaW.PrintWords Go.Proofs.YtodhkbahjomfhaaW.PrintLast Go.Proofs.YtodhkbahjomfhaaW.PrintMore Go.Proofs.Ytodhkbahjomfhaa.Gput Go.Proofs.Ytodhkbahjomfhaa.Gputl
attribute [local go_sem] max2_int min2_int max_two min_two max_three min_three max_four min_four   -- for this text's walks alone
set_option linter.unusedVariables false
set_option linter.unusedSimpArgs false
noncomputable def storagebarterref01_Text.f (k : Nat) (a0 : ByteArray) (a1 : Int) (a2 : Int) : Option (ByteArray × Int × Int) := (storagebarterref01_Int.f k a0 a1).bind fun bt684 => (if bt684.2.2 = 0 then (if bt684.1 < 0 then (some ((⟨#[]⟩ : ByteArray), 0, 2)) else (if bt684.1 > a2 then (some ((⟨#[]⟩ : ByteArray), 0, 4)) else (if bt684.1 > (wrap64 ((a0.size : Int) - bt684.2.1)) then (some ((⟨#[]⟩ : ByteArray), 0, 3)) else (if 0 ≤ bt684.2.1 then (if bt684.2.1 ≤ (wrap64 (bt684.2.1 + bt684.1)) then (if (wrap64 (bt684.2.1 + bt684.1)) ≤ (a0.size : Int) then (some (a0.extract (bt684.2.1 : Int).toNat ((wrap64 (bt684.2.1 + bt684.1)) : Int).toNat, wrap64 (bt684.2.1 + bt684.1), 0)) else (none)) else (none)) else (none))))) else (some ((⟨#[]⟩ : ByteArray), 0, bt684.2.2)))
set_option maxHeartbeats 8000000 in
set_option maxRecDepth 100000 in
theorem storagebarterref01_Text.calls (k : Nat) (a0 : ByteArray) (a1 : Int) (a2 : Int) (r1 : ByteArray) (r2 : Int) (r3 : Int) (w : World) (h : storagebarterref01_Text.f k a0 a1 a2 = some (r1, r2, r3)) :
 Calls Try.prog 84 #[.string a0, .int .i64 a1, .int .i64 a2] w fun e w' => e = .returned (.tuple #[.string r1, .int .i64 r2, .int .i64 r3]) ∧ Drawn0 w w' := by
 have H : ((storagebarterref01_Int.f k a0 a1).bind fun bt684 => (if bt684.2.2 = 0 then (if bt684.1 < 0 then (some ((⟨#[]⟩ : ByteArray), 0, 2)) else (if bt684.1 > a2 then (some ((⟨#[]⟩ : ByteArray), 0, 4)) else (if bt684.1 > (wrap64 ((a0.size : Int) - bt684.2.1)) then (some ((⟨#[]⟩ : ByteArray), 0, 3)) else (if 0 ≤ bt684.2.1 then (if bt684.2.1 ≤ (wrap64 (bt684.2.1 + bt684.1)) then (if (wrap64 (bt684.2.1 + bt684.1)) ≤ (a0.size : Int) then (some (a0.extract (bt684.2.1 : Int).toNat ((wrap64 (bt684.2.1 + bt684.1)) : Int).toNat, wrap64 (bt684.2.1 + bt684.1), 0)) else (none)) else (none)) else (none))))) else (some ((⟨#[]⟩ : ByteArray), 0, bt684.2.2)))) = some (r1, r2, r3) := h
 clear h
 replace H := Option.bind_eq_some_iff.mp H
 obtain ⟨⟨t684, t685, t686⟩, A40, H⟩ := H
 replace H : (if t686 = 0 then (if t684 < 0 then (some ((⟨#[]⟩ : ByteArray), 0, 2)) else (if t684 > a2 then (some ((⟨#[]⟩ : ByteArray), 0, 4)) else (if t684 > (wrap64 ((a0.size : Int) - t685)) then (some ((⟨#[]⟩ : ByteArray), 0, 3)) else (if 0 ≤ t685 then (if t685 ≤ (wrap64 (t685 + t684)) then (if (wrap64 (t685 + t684)) ≤ (a0.size : Int) then (some (a0.extract (t685 : Int).toNat ((wrap64 (t685 + t684)) : Int).toNat, wrap64 (t685 + t684), 0)) else (none)) else (none)) else (none))))) else (some ((⟨#[]⟩ : ByteArray), 0, t686))) = some (r1, r2, r3) := H
 have A4 := Aside0.mk A40
 clear A40
 by_cases c5 : t686 = 0
 ·rw [if_pos c5] at H
  have c5b0 : (t686 == 0) = true := beq_iff_eq.mpr c5
  have c5b1 : (t686 != 0) = false := bne_eq_false_iff_eq.mpr c5
  clear c5
  by_cases c6 : t684 < 0
  ·rw [if_pos c6] at H
   have c6b0 : decide (t684 < 0) = true := decide_eq_true c6
   clear c6
   simp only [Option.some.injEq, Prod.mk.injEq] at H
   obtain ⟨rfl, rfl, rfl⟩ := H
   go_enter Try.func84, Try.ntmps84
   go_wp2_with (first | ((with_reducible refine gate_callee (f := 78) rfl ?_); refine goesL_ (some 15) rfl rfl Try.func78 (by kernel_rfl) rfl #[.string a0, .int .i64 a1] rfl (by (try simp only [List.map_toArray, List.map_cons, List.map_nil]); first | done | rfl | (simp only [List.length_drop, List.length_take]; rfl)) ?_; (with_reducible refine (storagebarterref01_Int.calls k a0 a1 t684 t685 t686 _ A4.out).mono ?_); rintro e w' ⟨rfl, ⟨nd, rfl⟩⟩; refine ⟨_, rfl, ?_⟩))
   go_ret3
   exact ⟨by first | rfl | (simp; done) | (simp [*]; done), by repeat (first | exact Drawn0.refl _ | apply Drawn0.step)⟩
  ·rw [if_neg c6] at H
   have c6b0 : decide (t684 < 0) = false := decide_eq_false c6
   clear c6
   by_cases c7 : t684 > a2
   ·rw [if_pos c7] at H
    have c7b0 : decide (a2 < t684) = true := decide_eq_true c7
    clear c7
    simp only [Option.some.injEq, Prod.mk.injEq] at H
    obtain ⟨rfl, rfl, rfl⟩ := H
    go_enter Try.func84, Try.ntmps84
    go_wp2_with (first | ((with_reducible refine gate_callee (f := 78) rfl ?_); refine goesL_ (some 15) rfl rfl Try.func78 (by kernel_rfl) rfl #[.string a0, .int .i64 a1] rfl (by (try simp only [List.map_toArray, List.map_cons, List.map_nil]); first | done | rfl | (simp only [List.length_drop, List.length_take]; rfl)) ?_; (with_reducible refine (storagebarterref01_Int.calls k a0 a1 t684 t685 t686 _ A4.out).mono ?_); rintro e w' ⟨rfl, ⟨nd, rfl⟩⟩; refine ⟨_, rfl, ?_⟩))
    go_ret3
    exact ⟨by first | rfl | (simp; done) | (simp [*]; done), by repeat (first | exact Drawn0.refl _ | apply Drawn0.step)⟩
   ·rw [if_neg c7] at H
    have c7b0 : decide (a2 < t684) = false := decide_eq_false c7
    clear c7
    by_cases c8 : t684 > (wrap64 ((a0.size : Int) - t685))
    ·rw [if_pos c8] at H
     have c8b0 : decide ((wrap64 ((a0.size : Int) - t685)) < t684) = true := decide_eq_true c8
     clear c8
     simp only [Option.some.injEq, Prod.mk.injEq] at H
     obtain ⟨rfl, rfl, rfl⟩ := H
     go_enter Try.func84, Try.ntmps84
     go_wp2_with (first | ((with_reducible refine gate_callee (f := 78) rfl ?_); refine goesL_ (some 15) rfl rfl Try.func78 (by kernel_rfl) rfl #[.string a0, .int .i64 a1] rfl (by (try simp only [List.map_toArray, List.map_cons, List.map_nil]); first | done | rfl | (simp only [List.length_drop, List.length_take]; rfl)) ?_; (with_reducible refine (storagebarterref01_Int.calls k a0 a1 t684 t685 t686 _ A4.out).mono ?_); rintro e w' ⟨rfl, ⟨nd, rfl⟩⟩; refine ⟨_, rfl, ?_⟩))
     go_ret3
     exact ⟨by first | rfl | (simp; done) | (simp [*]; done), by repeat (first | exact Drawn0.refl _ | apply Drawn0.step)⟩
    ·rw [if_neg c8] at H
     have c8b0 : decide ((wrap64 ((a0.size : Int) - t685)) < t684) = false := decide_eq_false c8
     clear c8
     by_cases c9 : 0 ≤ t685
     ·rw [if_pos c9] at H
      have c9b0 := eq_true c9
      have c9b1 : decide (0 ≤ t685) = true := decide_eq_true c9
      clear c9
      by_cases c10 : t685 ≤ (wrap64 (t685 + t684))
      ·rw [if_pos c10] at H
       have c10b0 := eq_true c10
       have c10b1 : decide (t685 ≤ (wrap64 (t685 + t684))) = true := decide_eq_true c10
       by_cases c11 : (wrap64 (t685 + t684)) ≤ (a0.size : Int)
       ·rw [if_pos c11] at H
        have c11b0 := eq_true c11
        have c11b1 : decide ((wrap64 (t685 + t684)) ≤ (a0.size : Int)) = true := decide_eq_true c11
        simp only [Option.some.injEq, Prod.mk.injEq] at H
        obtain ⟨rfl, rfl, rfl⟩ := H
        go_enter Try.func84, Try.ntmps84
        go_wp2_with (first | ((with_reducible refine gate_callee (f := 78) rfl ?_); refine goesL_ (some 15) rfl rfl Try.func78 (by kernel_rfl) rfl #[.string a0, .int .i64 a1] rfl (by (try simp only [List.map_toArray, List.map_cons, List.map_nil]); first | done | rfl | (simp only [List.length_drop, List.length_take]; rfl)) ?_; (with_reducible refine (storagebarterref01_Int.calls k a0 a1 t684 t685 t686 _ A4.out).mono ?_); rintro e w' ⟨rfl, ⟨nd, rfl⟩⟩; refine ⟨_, rfl, ?_⟩))
        go_ret3
        exact ⟨by first | rfl | (simp; done) | (simp [*]; done), by repeat (first | exact Drawn0.refl _ | apply Drawn0.step)⟩
       ·rw [if_neg c11] at H
        exact absurd H (by simp)
      ·rw [if_neg c10] at H
       exact absurd H (by simp)
     ·rw [if_neg c9] at H
      exact absurd H (by simp)
 ·rw [if_neg c5] at H
  have c5b0 : (t686 == 0) = false := beq_eq_false_iff_ne.mpr c5
  have c5b1 : (t686 != 0) = true := bne_iff_ne.mpr c5
  simp only [Option.some.injEq, Prod.mk.injEq] at H
  obtain ⟨rfl, rfl, rfl⟩ := H
  go_enter Try.func84, Try.ntmps84
  go_wp2_with (first | ((with_reducible refine gate_callee (f := 78) rfl ?_); refine goesL_ (some 15) rfl rfl Try.func78 (by kernel_rfl) rfl #[.string a0, .int .i64 a1] rfl (by (try simp only [List.map_toArray, List.map_cons, List.map_nil]); first | done | rfl | (simp only [List.length_drop, List.length_take]; rfl)) ?_; (with_reducible refine (storagebarterref01_Int.calls k a0 a1 t684 t685 t686 _ A4.out).mono ?_); rintro e w' ⟨rfl, ⟨nd, rfl⟩⟩; refine ⟨_, rfl, ?_⟩))
  go_ret3
  exact ⟨by first | rfl | (simp; done) | (simp [*]; done), by repeat (first | exact Drawn0.refl _ | apply Drawn0.step)⟩
end Go.Proofs.Ytodhkbahjomfhaa.Q

namespace Go.Proofs.Ytodhkbahjomfhaa.Q
open Go.RowKit Go.Proofs.YtodhkbahjomfhaaW.PrintWords Go.Proofs.YtodhkbahjomfhaaW.PrintLast Go.Proofs.YtodhkbahjomfhaaW.PrintMore Go.Proofs.Ytodhkbahjomfhaa.Gput Go.Proofs.Ytodhkbahjomfhaa.Gputl
attribute [local go_sem] max2_int min2_int max_two min_two max_three min_three max_four min_four   -- for this text's walks alone
set_option linter.unusedVariables false
set_option linter.unusedSimpArgs false
noncomputable def storagebarterref01_PutText.f (k : Nat) (a0 : ByteArray) (a1 : ByteArray) : Option (ByteArray) := (storagebarterref01_PutInt.f k a0 (a1.size : Int)).bind fun t281 => (if t281.size + a1.size ≤ 9223372036854775807 then (some (t281 ++ a1)) else (none))
set_option maxHeartbeats 8000000 in
set_option maxRecDepth 100000 in
theorem storagebarterref01_PutText.calls (k : Nat) (a0 : ByteArray) (a1 : ByteArray) (r : ByteArray) (w : World) (h : storagebarterref01_PutText.f k a0 a1 = some r) :
 Calls Try.prog 85 #[.string a0, .string a1] w fun e w' => e = .returned (.string r) ∧ Below w.heap.size w w' := by
 have HB := Aside0.mk (Below.refl w.heap.size w)
 have H : ((storagebarterref01_PutInt.f k a0 (a1.size : Int)).bind fun t281 => (if t281.size + a1.size ≤ 9223372036854775807 then (some (t281 ++ a1)) else (none))) = some r := h
 clear h
 replace H := Option.bind_eq_some_iff.mp H
 obtain ⟨t281, A30, H⟩ := H
 replace H : (if t281.size + a1.size ≤ 9223372036854775807 then (some (t281 ++ a1)) else (none)) = some r := H
 have A3 := Aside0.mk A30
 clear A30
 by_cases c4 : t281.size + a1.size ≤ 9223372036854775807
 ·rw [if_pos c4] at H
  have c4b0 := eq_true c4
  have c4b1 : decide (t281.size + a1.size ≤ 9223372036854775807) = true := decide_eq_true c4
  try have c4b2 : (9223372036854775807 < t281.size + a1.size) = False := eq_false (Nat.not_lt.2 c4)
  obtain rfl := Option.some.inj H
  go_enter Try.func85, Try.ntmps85
  go_wp2_with (first | ((with_reducible refine gate_callee (f := 66) rfl ?_); refine goesL_ (some 8) rfl rfl Try.func66 (by kernel_rfl) rfl #[.string a0, .int .i64 (a1.size : Int)] rfl (by (try simp only [List.map_toArray, List.map_cons, List.map_nil]); first | done | rfl | (simp only [List.length_drop, List.length_take]; rfl)) ?_; (with_reducible refine (storagebarterref01_PutInt.calls k a0 (a1.size : Int) t281 _ A3.out).mono ?_); rintro e w5 ⟨rfl, hb⟩; refine ⟨_, rfl, ?_⟩; have n0_ := Aside0.mk (below_step (by repeat (first | (with_reducible first | exact HB.out | apply below_alloc | apply pw_below_drewN | apply below_drew1) | exact HB.out)) hb); clear HB; have HB := n0_; clear n0_; (try clear hb); (try clear hb2); (try clear hk); (try clear hi)))
  go_ret
  exact ⟨by first | rfl | (simp [errW_none, errW_some] <;> rfl) | (simp [*, errW_none, errW_some] <;> rfl), by repeat (first | (with_reducible first | exact HB.out | apply below_alloc | apply pw_below_drewN | apply below_drew1) | exact HB.out)⟩
 ·rw [if_neg c4] at H
  exact absurd H (by simp)
end Go.Proofs.Ytodhkbahjomfhaa.Q

namespace Go.Proofs.Ytodhkbahjomfhaa.Q
open Go.RowKit Go.Proofs.YtodhkbahjomfhaaW.PrintWords Go.Proofs.YtodhkbahjomfhaaW.PrintLast Go.Proofs.YtodhkbahjomfhaaW.PrintMore Go.Proofs.Ytodhkbahjomfhaa.Gput Go.Proofs.Ytodhkbahjomfhaa.Gputl
attribute [local go_sem] max2_int min2_int max_two min_two max_three min_three max_four min_four   -- for this text's walks alone
set_option linter.unusedVariables false
set_option linter.unusedSimpArgs false
noncomputable def storagebarterref01_PutList.l0 : Nat → ByteArray → List Int → Int → Int → Option (ByteArray)
 | 0, _, _, _, _ => none
 | k + 1, x0, x11, x12, x13 => if x13 < x12 then (if 0 ≤ x13 then (if x13 < (x11.length : Int) then ((storagebarterref01_PutInt.f k x0 (rd x11 x13)).bind fun t280 => (storagebarterref01_PutList.l0 k t280 x11 x12 (wrap64 (x13 + 1)))) else (none)) else (none)) else (some x0)
noncomputable def storagebarterref01_PutList.f (k : Nat) (a0 : ByteArray) (l1 : List Int) : Option (ByteArray) := (storagebarterref01_PutInt.f k a0 (l1.length : Int)).bind fun t278 => (storagebarterref01_PutList.l0 k t278 l1 (l1.length : Int) 0)
set_option maxHeartbeats 8000000 in
set_option maxRecDepth 100000 in
theorem storagebarterref01_PutList.calls (k : Nat) (a0 : ByteArray) (A1 : Option Addr) (c1 : Nat) (l1 : List Int) (r : ByteArray) (w : World) (hr1 : Kd.C (Kd.int .i64) w A1 l1.length l1) (hc1 : l1.length ≤ c1) (h : storagebarterref01_PutList.f k a0 l1 = some r) :
 Calls Try.prog 75 #[.string a0, .slice A1 l1.length c1] w fun e w' => e = .returned (.string r) ∧ Below w.heap.size w w' := by
 have HR1 := Aside0.mk hr1
 have HC1 := Aside0.mk hc1
 clear hr1 hc1
 have HB := Aside0.mk (Below.refl w.heap.size w)
 have H : ((storagebarterref01_PutInt.f k a0 (l1.length : Int)).bind fun t278 => (storagebarterref01_PutList.l0 k t278 l1 (l1.length : Int) 0)) = some r := h
 clear h
 replace H := Option.bind_eq_some_iff.mp H
 obtain ⟨t278, A30, H⟩ := H
 replace H : (storagebarterref01_PutList.l0 k t278 l1 (l1.length : Int) 0) = some r := H
 have A3 := Aside0.mk A30
 clear A30
 have H' := Aside0.mk H
 clear H
 go_enter Try.func75, Try.ntmps75
 go_wp2_with (first | ((with_reducible refine gate_callee (f := 66) rfl ?_); refine goesL_ (some 10) rfl rfl Try.func66 (by kernel_rfl) rfl #[.string a0, .int .i64 (l1.length : Int)] rfl (by (try simp only [List.map_toArray, List.map_cons, List.map_nil]); first | done | rfl | (simp only [List.length_drop, List.length_take]; rfl)) ?_; (with_reducible refine (storagebarterref01_PutInt.calls k a0 (l1.length : Int) t278 _ A3.out).mono ?_); rintro e w4 ⟨rfl, hb⟩; refine ⟨_, rfl, ?_⟩; have n0_ := Aside0.mk (below_step (by repeat (first | (with_reducible first | exact HB.out | apply below_alloc | apply pw_below_drewN | apply below_drew1) | exact HB.out)) hb); clear HB; have HB := n0_; clear n0_; (try clear hb); (try clear hb2); (try clear hk); (try clear hi)))
 go_loopg [0, 13] k (fun kq v0 v13 w' => ∃ (x0_1 : ByteArray) (x13_1 : Int), v0 = .string x0_1 ∧ v13 = .int .i64 x13_1 ∧ Aside0 (storagebarterref01_PutList.l0 kq x0_1 l1 (l1.length : Int) x13_1 = some r) ∧ Aside0 (kq ≤ k) ∧ Aside0 (Below w.heap.size w w'))
 case atStart => exact ⟨(t278), (0), (by first | rfl | (simp; done) | (simp [*]; done)), (by first | rfl | (simp; done) | (simp [*]; done)), H', ⟨Nat.le_refl _⟩, ⟨by repeat (first | (with_reducible first | exact HB.out | apply below_alloc | apply pw_below_drewN | apply below_drew1) | exact HB.out)⟩⟩
 case round =>
  clear H'
  try clear c1
  try clear p2
  obtain ⟨x0_1, x13_1, rfl, rfl, HA, HK1, HB⟩ := hrel
  cases gk with
  | zero => exact absurd HA.out (by simp [storagebarterref01_PutList.l0])
  | succ k1 =>
   have H := HA.out
   clear HA
   simp only [storagebarterref01_PutList.l0] at H
   by_cases c5 : x13_1 < (l1.length : Int)
   ·rw [if_pos c5] at H
    have c5b0 : decide (x13_1 < (l1.length : Int)) = true := decide_eq_true c5
    clear c5
    by_cases c6 : 0 ≤ x13_1
    ·rw [if_pos c6] at H
     have c6b0 : decide (0 ≤ x13_1) = true := decide_eq_true c6
     clear c6
     by_cases c7 : x13_1 < (l1.length : Int)
     ·rw [if_pos c7] at H
      have c7b0 : decide (x13_1 < (l1.length : Int)) = true := decide_eq_true c7
      clear c7
      replace H := Option.bind_eq_some_iff.mp H
      obtain ⟨t280, A80, H⟩ := H
      replace H : (storagebarterref01_PutList.l0 k1 t280 l1 (l1.length : Int) (wrap64 (x13_1 + 1))) = some r := H
      have A8 := Aside0.mk A80
      clear A80
      have H' := Aside0.mk H
      clear H
      have p279 : 0 ≤ (x13_1 : Int) := of_decide_eq_true (by first | (with_reducible assumption) | assumption)
      have q279 : x13_1 < (l1.length : Int) := of_decide_eq_true (by first | (with_reducible assumption) | assumption)
      obtain ⟨ad279, e279, hx279_0⟩ := Kd.at_int HR1.out x13_1 p279 q279
      cases e279
      replace hx279_0 := (HB.out.cell (World.block_lt_of_cell? w _ hx279_0)).trans hx279_0
      replace p279 := eq_true p279
      replace q279 := eq_true q279
      go_wp2_with (first | ((with_reducible refine gate_callee (f := 66) rfl ?_); refine goesL_ (some 19) rfl rfl Try.func66 (by kernel_rfl) rfl #[.string x0_1, .int .i64 (rd l1 x13_1)] rfl (by (try simp only [List.map_toArray, List.map_cons, List.map_nil]); first | done | rfl | (simp only [List.length_drop, List.length_take]; rfl)) ?_; (with_reducible refine (storagebarterref01_PutInt.calls k1 x0_1 (rd l1 x13_1) t280 _ A8.out).mono ?_); rintro e w9 ⟨rfl, hb⟩; refine ⟨_, rfl, ?_⟩; have n0_ := Aside0.mk (below_step (by repeat (first | (with_reducible first | exact HB.out | apply below_alloc | apply pw_below_drewN | apply below_drew1) | exact HB.out)) hb); clear HB; have HB := n0_; clear n0_; (try clear hb); (try clear hb2); (try clear hk); (try clear hi)))
      go_roundg k1
      case measure => have := HK1.out; omega
      case rel => exact ⟨(t280), (wrap64 (x13_1 + 1)), (by first | rfl | (simp; done) | (simp [*]; done)), (by first | rfl | (simp; done) | (simp [*]; done)), H', ⟨by have := HK1.out; omega⟩, ⟨by repeat (first | (with_reducible first | exact HB.out | apply below_alloc | apply pw_below_drewN | apply below_drew1) | exact HB.out)⟩⟩
     ·rw [if_neg c7] at H
      exact absurd H (by simp)
    ·rw [if_neg c6] at H
     exact absurd H (by simp)
   ·rw [if_neg c5] at H
    have c5b0 : decide (x13_1 < (l1.length : Int)) = false := decide_eq_false c5
    clear c5
    obtain rfl := Option.some.inj H
    go_wp2
    go_ret
    exact ⟨by first | rfl | (simp [errW_none, errW_some] <;> rfl) | (simp [*, errW_none, errW_some] <;> rfl), by repeat (first | (with_reducible first | exact HB.out | apply below_alloc | apply pw_below_drewN | apply below_drew1) | exact HB.out)⟩
end Go.Proofs.Ytodhkbahjomfhaa.Q

namespace Go.Proofs.Ytodhkbahjomfhaa.Gwb
open Go Go.RowKit Go.Proofs.Ytodhkbahjomfhaa.Gm Go.Proofs.Ytodhkbahjomfhaa.Gwa Go.Proofs.Ytodhkbahjomfhaa.Q Go.Proofs.Ytodhkbahjomfhaa.Gput Go.Proofs.Ytodhkbahjomfhaa.Gputl Go.Proofs.YtodhkbahjomfhaaW.PrintWords Go.Proofs.YtodhkbahjomfhaaW.PrintLast Go.Proofs.YtodhkbahjomfhaaW.PrintMore
set_option linter.unusedVariables false
theorem intAt_B (l : List UInt8) (a : Int) : intAt (B l) a = if a < 0 ∨ a > l.length then (0, 0, 1) else told a (rdU 0 0 (l.drop a.toNat)) := by
 unfold intAt
 rw [B_size, B_data]
theorem intAt_ok {l : List UInt8} {a x n : Int} (h : intAt (B l) a = (x, n, 0)) : 0 ≤ a ∧ a < n ∧ n ≤ l.length ∧ n ≤ a + 10 ∧ -9223372036854775808 ≤ x ∧ x ≤ 9223372036854775807 ∧ (l.drop a.toNat).take (n - a).toNat = putI x ∧ ((putI x).length : Int) = n - a := by
 rw [intAt_B] at h
 split at h
 ·simp at h
 rename_i hn
 rcases hr : rdU 0 0 (l.drop a.toNat) with ⟨u, c, e⟩
 rw [hr] at h
 cases e with
 | succ e => simp [told] at h; omega
 | zero =>
  simp only [told, Prod.mk.injEq, and_true] at h
  obtain ⟨rfl, rfl⟩ := h
  obtain ⟨v, hu, hc, ht, hl, -, hv⟩ := rdU_inv _ 0 0 u c (by omega) hr
  simp only [Nat.pow_zero, Nat.mul_one, Nat.zero_add] at hu hc hv
  subst hu
  subst hc
  have h10 := grp_len10 u hv
  have hp := grp_pos u
  have hrg := unzig_range hv
  simp only [List.length_drop] at hl
  have e1 : (a + ((grp u).length : Int) - a).toNat = (grp u).length := by omega
  have e2 : putI (unzig u) = grp u := by unfold putI; rw [zig_unzig]
  rw [e1, e2]
  exact ⟨by omega, by omega, by omega, by omega, hrg.1, hrg.2, ht, by omega⟩
theorem intAt_err {l : List UInt8} {a x n e : Int} (h : intAt (B l) a = (x, n, e)) : (e = 0 ∨ (x = 0 ∧ n = 0)) ∧ 0 ≤ e ∧ e ≤ 3 := by
 rw [intAt_B] at h
 split at h
 ·simp at h; omega
 rcases hr : rdU 0 0 (l.drop a.toNat) with ⟨u, c, e'⟩
 rw [hr] at h
 have he : ∀ (l : List UInt8) (k u : Nat), (rdU k u l).2.2 ≤ 3 := by
  intro l
  induction l with
  | nil => intro k u; simp [rdU]
  | cons b l ih =>
   intro k u
   rw [rdU]
   split
   ·simp
   ·split
    ·simp
    ·exact ih _ _
 have := he (l.drop a.toNat) 0 0
 rw [hr] at this
 cases e' with
 | zero => simp only [told, Prod.mk.injEq] at h; omega
 | succ e' => simp only [told, Prod.mk.injEq] at h; simp at this; omega
theorem intAt_put (p q : List UInt8) (n : Int) (hn : -9223372036854775808 ≤ n ∧ n ≤ 9223372036854775807) : intAt (B (p ++ (putI n ++ q))) p.length = (n, ((p.length + (putI n).length : Nat) : Int), 0) := by
 rw [intAt_B, if_neg (by simp; omega)]
 simp only [Int.toNat_natCast, List.drop_left']
 have h := rdU_grp q (zig n) 0 0 (by omega) (by simpa using zig_range hn)
 unfold putI
 rw [h]
 simp [told, unzig_zig]
theorem wf64 {n : Int} (h : -9223372036854775808 ≤ n ∧ n ≤ 9223372036854775807) : (Lit.int .i64 n).wf = true := Go.WalkArith.wf_i64 h
theorem wire_PutInt_eq (l : List UInt8) (n : Int) (hl : l.length + 10 ≤ 140737488355328) (hn : -9223372036854775808 ≤ n ∧ n ≤ 9223372036854775807) : wire_PutInt.f (B l) n = some (B (l ++ putI n)) := by
 unfold wire_PutInt.f
 rw [if_pos ⟨by rw [B_size]; exact hl, wf64 hn⟩]
 rfl
theorem strOfNums_one (n : Nat) : strOfNums [(n : Int)] = B [UInt8.ofNat n] := by
 unfold strOfNums B
 simp
theorem ref_PutInt_l0 : ∀ (u : Nat) (l : List UInt8) (k : Nat), l.length + (grp u).length ≤ 9223372036854775807 → (grp u).length ≤ k → storagebarterref01_PutInt.l0 k (B l) u = some (B (l ++ grp u)) := by
 intro u
 induction u using Nat.strongRecOn with
 | _ u ih =>
 intro l k hl hk
 by_cases h127 : 127 < u
 ·rw [grp_more h127] at hl hk ⊢
  simp only [List.length_cons] at hl hk
  obtain ⟨k, rfl⟩ : ∃ m, k = m + 1 := ⟨k - 1, by omega⟩
  simp only [storagebarterref01_PutInt.l0]
  rw [if_pos (by omega), or128, Option.bind_some, strOfNums_one, if_pos (by rw [B_size, B_size]; simp; omega), B_append]
  have := ih (u / 128) (by omega) (l ++ [UInt8.ofNat (u % 128 + 128)]) k (by simp; omega) (by omega)
  rw [show ((u : Int) / 128) = ((u / 128 : Nat) : Int) by omega, this]
  simp
 ·rw [grp_last h127] at hl hk ⊢
  simp only [List.length_singleton] at hl hk
  obtain ⟨k, rfl⟩ : ∃ m, k = m + 1 := ⟨k - 1, by omega⟩
  simp only [storagebarterref01_PutInt.l0]
  rw [if_neg (by omega), show ((u : Int) % 256) = (u : Int) by omega, Option.bind_some, strOfNums_one, if_pos (by rw [B_size, B_size]; simp; omega), B_append]
theorem ref_PutInt_eq (l : List UInt8) (n : Int) (k : Nat) (hl : l.length + 10 ≤ 9223372036854775807) (hn : -9223372036854775808 ≤ n ∧ n ≤ 9223372036854775807) (hk : 10 ≤ k) : storagebarterref01_PutInt.f k (B l) n = some (B (l ++ putI n)) := by
 unfold storagebarterref01_PutInt.f
 rw [zig_bits n (wf64 hn)]
 have := putI_len hn
 unfold putI at this ⊢
 exact ref_PutInt_l0 (zig n) l k (by omega) (by omega)
set_option maxHeartbeats 1000000 in
theorem ref_Int_l0 (s : ByteArray) (a : Nat) (hs : s.size ≤ 9223372036854775000) : ∀ (d i u k : Nat), 9 - i = d → i ≤ 9 → a + i ≤ s.size → u < 128 ^ i → 3 * d + 4 ≤ k →
 storagebarterref01_Int.l0 k s a u i = some (told a (rdU i u (s.data.toList.drop (a + i)))) := by
 intro d
 induction d with
 | zero =>
  intro i u k hd hi ha hu hk
  obtain rfl : i = 9 := by omega
  obtain ⟨k, rfl⟩ : ∃ m, k = m + 3 := ⟨k - 3, by omega⟩
  have ew : wrap64 ((a : Int) + ((9 : Nat) : Int)) = ((a + 9 : Nat) : Int) := by rw [w64 (by omega)]; omega
  simp only [storagebarterref01_Int.l0]
  rw [ew]
  by_cases hend : a + 9 = s.size
  ·rw [if_pos (by omega), List.drop_of_length_le (by rw [Array.length_toList]; exact Nat.le_of_eq hend.symm)]
   rfl
  ·have hlt : a + 9 < s.size := by omega
   have hb := bt_lt s ((a + 9 : Nat) : Int)
   obtain ⟨b, hbn⟩ : ∃ b : Nat, bt s ((a + 9 : Nat) : Int) = b := ⟨(bt s ((a + 9 : Nat) : Int)).toNat, by omega⟩
   rw [if_neg (by omega), if_pos (by omega), if_pos (by omega), drop_at s _ hlt, hbn, rdU, Int.toNat_natCast, u8_ofNat b (by omega), if_pos (by omega)]
   have e7 : IntKind.u64.wrap (wrap64 (7 * ((9 : Nat) : Int))) = wrap64 (7 * ((9 : Nat) : Int)) := by rw [w64 (by omega), wrap_u64]; omega
   by_cases h1 : 1 < b
   ·rw [if_pos (show (9 = 9 ∧ 1 < b) ∨ (0 < 9 ∧ b = 0) from .inl ⟨rfl, h1⟩), show decide ((b : Int) > 1) = true by simp; omega]
    simp only [storagebarterref01_Int.j2]
    rfl
   ·rw [show decide ((b : Int) > 1) = false by simp; omega]
    simp only [storagebarterref01_Int.j2]
    have hlt2 := mul_lt64 (i := 9) (b := b) (by omega) (fun _ => by omega)
    rw [if_neg (show ¬ (false = true) by simp), e7, if_pos (show 0 ≤ wrap64 (7 * ((9 : Nat) : Int)) by rw [w64 (by omega)]; omega), if_neg (show ¬ ((b : Int) > 127) by omega), shl_part b 9 (by omega) (by omega) (fun _ => by omega), or_part u b 9 (by omega) (by omega) (fun _ => by omega) hu]
    by_cases h0 : b = 0
    ·rw [if_pos (show (True ∧ 1 < b) ∨ (0 < 9 ∧ b = 0) from .inr ⟨by omega, h0⟩), if_pos (show (b : Int) = 0 by omega)]
     simp only [storagebarterref01_Int.j3]
     rfl
    ·rw [if_neg (show ¬ ((True ∧ 1 < b) ∨ (0 < 9 ∧ b = 0)) by omega), if_neg (show ¬ (b : Int) = 0 by omega), if_pos (show b < 128 by omega)]
     simp only [storagebarterref01_Int.j3]
     rw [if_neg (show ¬ (false = true) by simp), u64_and1 _ (by omega) (by omega), ew, w64 (x := ((a + 9 : Nat) : Int) + 1) (by omega), w64 (x := ((u + b % 128 * 128 ^ 9 : Nat) : Int) / 2) (by omega), Nat.mod_eq_of_lt (show b < 128 by omega)]
     rw [Nat.mod_eq_of_lt (show b < 128 by omega)] at hlt2
     simp only [told]
     unfold unzig
     split
     ·rw [w64 (x := -(((u + b * 128 ^ 9 : Nat) : Int) / 2)) (by omega), w64 (by omega), if_neg (by omega)]
      rfl
     ·rw [if_pos (by omega)]
      rfl
 | succ d ih =>
  intro i u k hd hi ha hu hk
  obtain ⟨k, rfl⟩ : ∃ m, k = m + 3 := ⟨k - 3, by omega⟩
  have ew : wrap64 ((a : Int) + (i : Int)) = ((a + i : Nat) : Int) := by rw [w64 (by omega)]; omega
  simp only [storagebarterref01_Int.l0]
  rw [ew]
  by_cases hend : a + i = s.size
  ·rw [if_pos (by omega), List.drop_of_length_le (by rw [Array.length_toList]; exact Nat.le_of_eq hend.symm)]
   rfl
  ·have hlt : a + i < s.size := by omega
   have hb := bt_lt s ((a + i : Nat) : Int)
   obtain ⟨b, hbn⟩ : ∃ b : Nat, bt s ((a + i : Nat) : Int) = b := ⟨(bt s ((a + i : Nat) : Int)).toNat, by omega⟩
   have e7 : IntKind.u64.wrap (wrap64 (7 * (i : Int))) = wrap64 (7 * (i : Int)) := by rw [w64 (by omega), wrap_u64]; omega
   have hlt2 := mul_lt64 (i := i) (b := b) (by omega) (fun _ => by omega)
   rw [if_neg (show ¬ (((a + i : Nat) : Int) ≥ (s.size : Int)) by omega), if_pos (show 0 ≤ ((a + i : Nat) : Int) by omega), if_pos (show ((a + i : Nat) : Int) < (s.size : Int) by omega), drop_at s _ hlt, hbn, rdU, Int.toNat_natCast, u8_ofNat b (by omega), if_neg (show ¬ ((i : Int) = 9) by omega)]
   simp only [storagebarterref01_Int.j2]
   rw [if_neg (show ¬ (false = true) by simp), e7, if_pos (show 0 ≤ wrap64 (7 * (i : Int)) by rw [w64 (by omega)]; omega), shl_part b i (by omega) (by omega) (fun _ => by omega), or_part u b i (by omega) (by omega) (fun _ => by omega) hu]
   by_cases h128 : b < 128
   ·rw [if_neg (show ¬ ((b : Int) > 127) by omega), Nat.mod_eq_of_lt h128]
    rw [Nat.mod_eq_of_lt h128] at hlt2
    have key : ∀ z : Bool, z = decide (0 < i ∧ b = 0) → storagebarterref01_Int.j3 (k + 1) a ((u + b * 128 ^ i : Nat) : Int) i z = some (told a (if (i = 9 ∧ 1 < b) ∨ (0 < i ∧ b = 0) then (0, 0, 2) else if b < 128 then (u + b * 128 ^ i, i + 1, 0) else rdU (i + 1) (u + b * 128 ^ i) (s.data.toList.drop (a + i + 1)))) := by
     intro z hz
     simp only [storagebarterref01_Int.j3]
     by_cases hc : 0 < i ∧ b = 0
     ·rw [if_pos (show z = true by rw [hz]; simp [hc]), if_pos (show (i = 9 ∧ 1 < b) ∨ (0 < i ∧ b = 0) from .inr hc)]
      rfl
     ·rw [if_neg (show ¬ z = true by rw [hz]; simpa using hc), if_neg (show ¬ ((i = 9 ∧ 1 < b) ∨ (0 < i ∧ b = 0)) by rintro (⟨h9, -⟩ | h); omega; exact hc h), if_pos h128, u64_and1 _ (by omega) (by omega), ew, w64 (x := ((a + i : Nat) : Int) + 1) (by omega), w64 (x := ((u + b * 128 ^ i : Nat) : Int) / 2) (by omega)]
      simp only [told]
      unfold unzig
      split
      ·rw [w64 (x := -(((u + b * 128 ^ i : Nat) : Int) / 2)) (by omega), w64 (by omega), if_neg (by omega)]
       rfl
      ·rw [if_pos (by omega)]
       rfl
    by_cases hb0 : b = 0
    ·rw [if_pos (show (b : Int) = 0 by omega)]
     refine key _ ?_
     rw [Bool.eq_iff_iff]; simp; omega
    ·rw [if_neg (show ¬ (b : Int) = 0 by omega)]
     refine key _ ?_
     simp; omega
   ·rw [if_pos (show ((b : Int) > 127) by omega), if_neg (show ¬ ((i = 9 ∧ 1 < b) ∨ (0 < i ∧ b = 0)) by omega), if_neg h128, w64 (by omega)]
    have h2 : u + b % 128 * 128 ^ i < 128 ^ (i + 1) := by
     have h3 : b % 128 * 128 ^ i ≤ 127 * 128 ^ i := Nat.mul_le_mul_right _ (by omega)
     have h4 : 128 ^ (i + 1) = 128 ^ i * 128 := Nat.pow_succ 128 i
     omega
    have := ih (i + 1) (u + b % 128 * 128 ^ i) (k + 1) (by omega) (by omega) (by omega) h2 (by omega)
    rw [show ((i + 1 : Nat) : Int) = (i : Int) + 1 by omega] at this
    rw [this, Nat.add_assoc]
theorem ref_Int_eq (s : ByteArray) (a : Int) (k : Nat) (hs : s.size ≤ 9223372036854775000) (hk : 34 ≤ k) : storagebarterref01_Int.f k s a = some (intAt s a) := by
 obtain ⟨k, rfl⟩ : ∃ m, k = m + 1 := ⟨k - 1, by omega⟩
 unfold storagebarterref01_Int.f intAt
 by_cases h0 : a < 0
 ·rw [if_pos h0, if_pos (.inl h0)]
  simp only [storagebarterref01_Int.j0]
  rfl
 ·rw [if_neg h0]
  simp only [storagebarterref01_Int.j0]
  by_cases h1 : a > (s.size : Int)
  ·rw [if_pos (by simpa using h1), if_pos (.inr h1)]
  ·rw [if_neg (by simpa using h1), if_neg (by omega)]
   obtain ⟨n, rfl⟩ : ∃ n : Nat, a = n := ⟨a.toNat, by omega⟩
   exact ref_Int_l0 s n hs 9 0 0 k rfl (by omega) (by omega) (by simp) (by omega)
def countAt (l : List UInt8) (a most : Int) : Int × Int × Int :=
 if (intAt (B l) a).2.2 = 0 then (if (intAt (B l) a).1 < 0 then (0, 0, 2) else if (intAt (B l) a).1 > most then (0, 0, 4) else ((intAt (B l) a).1, (intAt (B l) a).2.1, 0)) else (0, 0, (intAt (B l) a).2.2)
theorem wire_count_eq (l : List UInt8) (a m : Int) (k : Nat) (hs : l.length ≤ 9223372036854775000) (hk : 24 ≤ k) : wire_count.f k (B l) a m = some (countAt l a m) := by
 unfold wire_count.f countAt
 rw [wire_Int_eq (B l) a k (by rw [B_size]; exact hs) hk, Option.bind_some]
 split
 ·split
  ·rfl
  ·split <;> rfl
 ·rfl
theorem countAt_ok {l : List UInt8} {a m x n : Int} (h : countAt l a m = (x, n, 0)) : intAt (B l) a = (x, n, 0) ∧ 0 ≤ x ∧ x ≤ m := by
 unfold countAt at h
 rcases hr : intAt (B l) a with ⟨y, c, e⟩
 rw [hr] at h
 simp only at h
 split at h
 ·split at h
  ·simp at h
  ·split at h
   ·simp at h
   ·simp only [Prod.mk.injEq, and_true] at h
    obtain ⟨rfl, rfl⟩ := h
    rename_i he _ _
    exact ⟨by rw [he], by omega, by omega⟩
 ·simp only [Prod.mk.injEq] at h; omega
end Go.Proofs.Ytodhkbahjomfhaa.Gwb

namespace Go.Proofs.Ytodhkbahjomfhaa.Q
open Go.RowKit Go.Proofs.YtodhkbahjomfhaaW.PrintWords Go.Proofs.YtodhkbahjomfhaaW.PrintLast Go.Proofs.YtodhkbahjomfhaaW.PrintMore Go.Proofs.Ytodhkbahjomfhaa.Gput Go.Proofs.Ytodhkbahjomfhaa.Gputl
attribute [local go_sem] max2_int min2_int max_two min_two max_three min_three max_four min_four   -- for this text's walks alone
set_option linter.unusedVariables false
set_option linter.unusedSimpArgs false
noncomputable def wire_List.l0 : Nat → ByteArray → Int → List Int → Int → Int → Option (List Int × Int × Int)
 | 0, _, _, _, _, _ => none
 | k + 1, x0, x1, x11, x26, x27 => if x27 < x26 then ((wire_Int.f k x0 x1).bind fun bt110 => (if bt110.2.2 = 0 then (if x11.length < 17592186044416 then (wire_List.l0 k x0 bt110.2.1 (x11 ++ [bt110.1]) x26 (wrap64 (x27 + 1))) else (none)) else (some (([] : List Int), 0, bt110.2.2)))) else (some (x11, x1, 0))
noncomputable def wire_List.f (k : Nat) (a0 : ByteArray) (a1 : Int) (a2 : Int) : Option (List Int × Int × Int) := (wire_count.f k a0 a1 a2).bind fun bt107 => (if bt107.2.2 = 0 then (wire_List.l0 k a0 bt107.2.1 ([] : List Int) bt107.1 0) else (some (([] : List Int), 0, bt107.2.2)))
set_option maxHeartbeats 8000000 in
set_option maxRecDepth 100000 in
theorem wire_List.calls (k : Nat) (a0 : ByteArray) (a1 : Int) (a2 : Int) (r1 : List Int) (r2 : Int) (r3 : Int) (w : World) (h : wire_List.f k a0 a1 a2 = some (r1, r2, r3)) :
 Calls Try.prog 77 #[.string a0, .int .i64 a1, .int .i64 a2] w fun e w' => ∃ v0_ : Value, e = .returned (.tuple #[v0_, .int .i64 r2, .int .i64 r3]) ∧ Kd.R (Kd.int .i64) 3 w' w.heap.size (fun _ => True) v0_ r1 ∧ Below w.heap.size w w' := by
 have HB := Aside0.mk (Below.refl w.heap.size w)
 have H : ((wire_count.f k a0 a1 a2).bind fun bt107 => (if bt107.2.2 = 0 then (wire_List.l0 k a0 bt107.2.1 ([] : List Int) bt107.1 0) else (some (([] : List Int), 0, bt107.2.2)))) = some (r1, r2, r3) := h
 clear h
 replace H := Option.bind_eq_some_iff.mp H
 obtain ⟨⟨t107, t108, t109⟩, A40, H⟩ := H
 replace H : (if t109 = 0 then (wire_List.l0 k a0 t108 ([] : List Int) t107 0) else (some (([] : List Int), 0, t109))) = some (r1, r2, r3) := H
 have A4 := Aside0.mk A40
 clear A40
 by_cases c5 : t109 = 0
 ·rw [if_pos c5] at H
  have c5b0 : (t109 == 0) = true := beq_iff_eq.mpr c5
  have c5b1 : (t109 != 0) = false := bne_eq_false_iff_eq.mpr c5
  clear c5
  have H' := Aside0.mk H
  clear H
  go_enter Try.func77, Try.ntmps77
  go_wp2_with (first | ((with_reducible refine gate_callee (f := 102) rfl ?_); refine goesL_ (some 19) rfl rfl Try.func102 (by kernel_rfl) rfl #[.string a0, .int .i64 a1, .int .i64 a2] rfl (by (try simp only [List.map_toArray, List.map_cons, List.map_nil]); first | done | rfl | (simp only [List.length_drop, List.length_take]; rfl)) ?_; (with_reducible refine (wire_count.calls k a0 a1 a2 t107 t108 t109 _ A4.out).mono ?_); rintro e w' ⟨rfl, ⟨nd, rfl⟩⟩; refine ⟨_, rfl, ?_⟩))
  go_loopg [1, 11, 27] k (fun kq v1 v11 v27 w' => ∃ (x1_1 : Int) (x11_1 : List Int) (x27_1 : Int), v1 = .int .i64 x1_1 ∧ v27 = .int .i64 x27_1 ∧ Aside0 (wire_List.l0 kq a0 x1_1 x11_1 t107 x27_1 = some (r1, r2, r3)) ∧ Aside0 (kq ≤ k) ∧ Aside0 (Kd.R (Kd.int .i64) 3 w' w.heap.size (fun _ => True) v11 x11_1) ∧ Aside0 (Below w.heap.size w w'))
  case atStart => exact ⟨(t108), (([] : List Int)), (0), (by first | rfl | (simp; done) | (simp [*]; done)), (by first | rfl | (simp; done) | (simp [*]; done)), H', ⟨Nat.le_refl _⟩, ⟨by first | exact Kd.R_nil _ _ _ _ _ | exact Kd.N_nil _ _ _ _ _ | exact Kd.V_nil _ _ _ _ _ | exact Kd.Q_nil _ _ _ _ _ | exact Kd.S_nil _ _ _ _ _⟩, ⟨by repeat (first | (with_reducible first | exact HB.out | apply below_alloc | apply pw_below_drewN | apply below_drew1) | exact HB.out)⟩⟩
  case round =>
   clear H'
   try clear c1
   try clear p2
   try clear c5
   try clear c5b0
   try clear c5b1
   obtain ⟨x1_1, x11_1, x27_1, rfl, rfl, HA, HK1, HO_11, HB⟩ := hrel
   cases gk with
   | zero => exact absurd HA.out (by simp [wire_List.l0])
   | succ k1 =>
    have H := HA.out
    clear HA
    simp only [wire_List.l0] at H
    by_cases c6 : x27_1 < t107
    ·rw [if_pos c6] at H
     have c6b0 : decide (x27_1 < t107) = true := decide_eq_true c6
     clear c6
     replace H := Option.bind_eq_some_iff.mp H
     obtain ⟨⟨t110, t111, t112⟩, A70, H⟩ := H
     replace H : (if t112 = 0 then (if x11_1.length < 17592186044416 then (wire_List.l0 k1 a0 t111 (x11_1 ++ [t110]) t107 (wrap64 (x27_1 + 1))) else (none)) else (some (([] : List Int), 0, t112))) = some (r1, r2, r3) := H
     have A7 := Aside0.mk A70
     clear A70
     by_cases c8 : t112 = 0
     ·rw [if_pos c8] at H
      have c8b0 : (t112 == 0) = true := beq_iff_eq.mpr c8
      have c8b1 : (t112 != 0) = false := bne_eq_false_iff_eq.mpr c8
      clear c8
      by_cases c9 : x11_1.length < 17592186044416
      ·rw [if_pos c9] at H
       have LMc9 := Aside0.mk c9
       clear c9
       obtain ⟨y113, hy113⟩ : ∃ y_ : List Int, y_ = (x11_1 ++ [t110]) := ⟨_, rfl⟩
       replace H : (wire_List.l0 k1 a0 t111 y113 t107 (wrap64 (x27_1 + 1))) = some (r1, r2, r3) := by first | (rw [hy113]; with_reducible exact H) | (have H2_ := (Option.bind_some _ _).symm.trans H; rw [hy113]; with_reducible exact H2_) | (have H2_ := (Option.bind_some _ _).symm.trans H; with_reducible exact H2_) | with_reducible exact H | (rw [hy113]; exact H) | exact H
       have Ny113 := Aside0.mk hy113
       clear hy113
       have H' := Aside0.mk H
       clear H
       go_wp2_with (first | ((with_reducible refine gate_callee (f := 76) rfl ?_); refine goesL_ (some 32) rfl rfl Try.func76 (by kernel_rfl) rfl #[.string a0, .int .i64 x1_1] rfl (by (try simp only [List.map_toArray, List.map_cons, List.map_nil]); first | done | rfl | (simp only [List.length_drop, List.length_take]; rfl)) ?_; (with_reducible refine (wire_Int.calls k1 a0 x1_1 t110 t111 t112 _ A7.out).mono ?_); rintro e w' ⟨rfl, ⟨nd, rfl⟩⟩; refine ⟨_, rfl, ?_⟩) | ((with_reducible refine gate_builtin (b := .append) (xs := #[.tmp 39, .tmp 41]) rfl ?_); at_builtin; refine Kd.R_append (Kd.int .i64) (w0 := w) w.heap.size rfl (.tmp 39) (.tmp 41) 22 3 (.int .i64 0) 8 rfl Try.underlying22 info3 rfl (by decide) (by omega) u11 x11_1 t110 [.int .i64 t110] (fun _ => True) (fun _ => False) rfl rfl ?aP (fun _ hk => hk.elim) ?aF ?aO ?aB ?aS ?aL ?_; (case aP => exact rfl); (case aB => exact (by repeat (first | (with_reducible first | exact HB.out | apply below_alloc | apply pw_below_drewN | apply below_drew1) | exact HB.out))); (case aF => exact (fun _ _ => trivial)); (case aO => exact (by (with_reducible repeat (first | apply Kd.R_alloc | apply Kd.R_drewN | apply Kd.R_drew)); exact HO_11.out)); (case aS => exact (below_size (by repeat (first | (with_reducible first | exact HB.out | apply below_alloc | apply pw_below_drewN | apply below_drew1) | exact HB.out)))); (case aL => have := LMc9.out; omega); intro v114 w10 ho hb hg hat; rw [← Ny113.out] at ho; have n0_ := Aside0.mk (hb); have n1_ := Aside0.mk (ho); clear HB; clear HO_11; have HB := n0_; have HO115 := n1_; clear n0_ n1_; clear ho hb hg hat))
       go_roundg k1
       case measure => have := HK1.out; omega
       case rel => exact ⟨(t111), (y113), (wrap64 (x27_1 + 1)), (by first | rfl | (simp; done) | (simp [*]; done)), (by first | rfl | (simp; done) | (simp [*]; done)), H', ⟨by have := HK1.out; omega⟩, ⟨by (with_reducible repeat (first | apply Kd.R_alloc | apply Kd.R_drewN | apply Kd.R_drew)); exact HO115.out⟩, ⟨by repeat (first | (with_reducible first | exact HB.out | apply below_alloc | apply pw_below_drewN | apply below_drew1) | exact HB.out)⟩⟩
      ·rw [if_neg c9] at H
       exact absurd H (by simp)
     ·rw [if_neg c8] at H
      have c8b0 : (t112 == 0) = false := beq_eq_false_iff_ne.mpr c8
      have c8b1 : (t112 != 0) = true := bne_iff_ne.mpr c8
      simp only [Option.some.injEq, Prod.mk.injEq] at H
      obtain ⟨rfl, rfl, rfl⟩ := H
      go_wp2_with (first | ((with_reducible refine gate_callee (f := 76) rfl ?_); refine goesL_ (some 32) rfl rfl Try.func76 (by kernel_rfl) rfl #[.string a0, .int .i64 x1_1] rfl (by (try simp only [List.map_toArray, List.map_cons, List.map_nil]); first | done | rfl | (simp only [List.length_drop, List.length_take]; rfl)) ?_; (with_reducible refine (wire_Int.calls k1 a0 x1_1 t110 t111 t112 _ A7.out).mono ?_); rintro e w' ⟨rfl, ⟨nd, rfl⟩⟩; refine ⟨_, rfl, ?_⟩))
      go_ret3
      exact ⟨_, by first | rfl | (simp [errW_none, errW_some] <;> rfl) | (simp [*, errW_none, errW_some] <;> rfl), by first | exact Kd.R_nil _ _ _ _ _ | exact Kd.N_nil _ _ _ _ _ | exact Kd.V_nil _ _ _ _ _ | exact Kd.Q_nil _ _ _ _ _ | exact Kd.S_nil _ _ _ _ _, by repeat (first | (with_reducible first | exact HB.out | apply below_alloc | apply pw_below_drewN | apply below_drew1) | exact HB.out)⟩
    ·rw [if_neg c6] at H
     have c6b0 : decide (x27_1 < t107) = false := decide_eq_false c6
     clear c6
     simp only [Option.some.injEq, Prod.mk.injEq] at H
     obtain ⟨rfl, rfl, rfl⟩ := H
     go_wp2
     go_ret3
     exact ⟨_, by first | rfl | (simp [errW_none, errW_some] <;> rfl) | (simp [*, errW_none, errW_some] <;> rfl), by (with_reducible repeat (first | apply Kd.R_alloc | apply Kd.R_drewN | apply Kd.R_drew)); exact HO_11.out, by repeat (first | (with_reducible first | exact HB.out | apply below_alloc | apply pw_below_drewN | apply below_drew1) | exact HB.out)⟩
 ·rw [if_neg c5] at H
  have c5b0 : (t109 == 0) = false := beq_eq_false_iff_ne.mpr c5
  have c5b1 : (t109 != 0) = true := bne_iff_ne.mpr c5
  simp only [Option.some.injEq, Prod.mk.injEq] at H
  obtain ⟨rfl, rfl, rfl⟩ := H
  go_enter Try.func77, Try.ntmps77
  go_wp2_with (first | ((with_reducible refine gate_callee (f := 102) rfl ?_); refine goesL_ (some 19) rfl rfl Try.func102 (by kernel_rfl) rfl #[.string a0, .int .i64 a1, .int .i64 a2] rfl (by (try simp only [List.map_toArray, List.map_cons, List.map_nil]); first | done | rfl | (simp only [List.length_drop, List.length_take]; rfl)) ?_; (with_reducible refine (wire_count.calls k a0 a1 a2 t107 t108 t109 _ A4.out).mono ?_); rintro e w' ⟨rfl, ⟨nd, rfl⟩⟩; refine ⟨_, rfl, ?_⟩))
  go_ret3
  exact ⟨_, by first | rfl | (simp [errW_none, errW_some] <;> rfl) | (simp [*, errW_none, errW_some] <;> rfl), by first | exact Kd.R_nil _ _ _ _ _ | exact Kd.N_nil _ _ _ _ _ | exact Kd.V_nil _ _ _ _ _ | exact Kd.Q_nil _ _ _ _ _ | exact Kd.S_nil _ _ _ _ _, by repeat (first | (with_reducible first | exact HB.out | apply below_alloc | apply pw_below_drewN | apply below_drew1) | exact HB.out)⟩
end Go.Proofs.Ytodhkbahjomfhaa.Q

namespace Go.Proofs.Ytodhkbahjomfhaa.Q
open Go.RowKit Go.Proofs.YtodhkbahjomfhaaW.PrintWords Go.Proofs.YtodhkbahjomfhaaW.PrintLast Go.Proofs.YtodhkbahjomfhaaW.PrintMore Go.Proofs.Ytodhkbahjomfhaa.Gput Go.Proofs.Ytodhkbahjomfhaa.Gputl
attribute [local go_sem] max2_int min2_int max_two min_two max_three min_three max_four min_four   -- for this text's walks alone
set_option linter.unusedVariables false
set_option linter.unusedSimpArgs false
noncomputable def storagebarterref01_List.l0 : Nat → ByteArray → Int → Int → List Int → Option (List Int × Int × Int)
 | 0, _, _, _, _ => none
 | k + 1, x0, x9, x10, x12 => if (x12.length : Int) < x9 then ((storagebarterref01_Int.f k x0 x10).bind fun bt580 => (if bt580.2.2 = 0 then (if x12.length < 17592186044416 then (storagebarterref01_List.l0 k x0 x9 bt580.2.1 (x12 ++ [bt580.1])) else (none)) else (some (([] : List Int), 0, bt580.2.2)))) else (some (x12, x10, 0))
noncomputable def storagebarterref01_List.f (k : Nat) (a0 : ByteArray) (a1 : Int) (a2 : Int) : Option (List Int × Int × Int) := (storagebarterref01_Int.f k a0 a1).bind fun bt577 => (if bt577.2.2 = 0 then (if bt577.1 < 0 then (some (([] : List Int), 0, 2)) else (if bt577.1 > a2 then (some (([] : List Int), 0, 4)) else (storagebarterref01_List.l0 k a0 bt577.1 bt577.2.1 ([] : List Int)))) else (some (([] : List Int), 0, bt577.2.2)))
set_option maxHeartbeats 8000000 in
set_option maxRecDepth 100000 in
theorem storagebarterref01_List.calls (k : Nat) (a0 : ByteArray) (a1 : Int) (a2 : Int) (r1 : List Int) (r2 : Int) (r3 : Int) (w : World) (h : storagebarterref01_List.f k a0 a1 a2 = some (r1, r2, r3)) :
 Calls Try.prog 79 #[.string a0, .int .i64 a1, .int .i64 a2] w fun e w' => ∃ v0_ : Value, e = .returned (.tuple #[v0_, .int .i64 r2, .int .i64 r3]) ∧ Kd.R (Kd.int .i64) 3 w' w.heap.size (fun _ => True) v0_ r1 ∧ Below w.heap.size w w' := by
 have HB := Aside0.mk (Below.refl w.heap.size w)
 have H : ((storagebarterref01_Int.f k a0 a1).bind fun bt577 => (if bt577.2.2 = 0 then (if bt577.1 < 0 then (some (([] : List Int), 0, 2)) else (if bt577.1 > a2 then (some (([] : List Int), 0, 4)) else (storagebarterref01_List.l0 k a0 bt577.1 bt577.2.1 ([] : List Int)))) else (some (([] : List Int), 0, bt577.2.2)))) = some (r1, r2, r3) := h
 clear h
 replace H := Option.bind_eq_some_iff.mp H
 obtain ⟨⟨t577, t578, t579⟩, A40, H⟩ := H
 replace H : (if t579 = 0 then (if t577 < 0 then (some (([] : List Int), 0, 2)) else (if t577 > a2 then (some (([] : List Int), 0, 4)) else (storagebarterref01_List.l0 k a0 t577 t578 ([] : List Int)))) else (some (([] : List Int), 0, t579))) = some (r1, r2, r3) := H
 have A4 := Aside0.mk A40
 clear A40
 by_cases c5 : t579 = 0
 ·rw [if_pos c5] at H
  have c5b0 : (t579 == 0) = true := beq_iff_eq.mpr c5
  have c5b1 : (t579 != 0) = false := bne_eq_false_iff_eq.mpr c5
  clear c5
  by_cases c6 : t577 < 0
  ·rw [if_pos c6] at H
   have c6b0 : decide (t577 < 0) = true := decide_eq_true c6
   clear c6
   simp only [Option.some.injEq, Prod.mk.injEq] at H
   obtain ⟨rfl, rfl, rfl⟩ := H
   go_enter Try.func79, Try.ntmps79
   go_wp2_with (first | ((with_reducible refine gate_callee (f := 78) rfl ?_); refine goesL_ (some 19) rfl rfl Try.func78 (by kernel_rfl) rfl #[.string a0, .int .i64 a1] rfl (by (try simp only [List.map_toArray, List.map_cons, List.map_nil]); first | done | rfl | (simp only [List.length_drop, List.length_take]; rfl)) ?_; (with_reducible refine (storagebarterref01_Int.calls k a0 a1 t577 t578 t579 _ A4.out).mono ?_); rintro e w' ⟨rfl, ⟨nd, rfl⟩⟩; refine ⟨_, rfl, ?_⟩))
   go_ret3
   exact ⟨_, by first | rfl | (simp [errW_none, errW_some] <;> rfl) | (simp [*, errW_none, errW_some] <;> rfl), by first | exact Kd.R_nil _ _ _ _ _ | exact Kd.N_nil _ _ _ _ _ | exact Kd.V_nil _ _ _ _ _ | exact Kd.Q_nil _ _ _ _ _ | exact Kd.S_nil _ _ _ _ _, by repeat (first | (with_reducible first | exact HB.out | apply below_alloc | apply pw_below_drewN | apply below_drew1) | exact HB.out)⟩
  ·rw [if_neg c6] at H
   have c6b0 : decide (t577 < 0) = false := decide_eq_false c6
   clear c6
   by_cases c7 : t577 > a2
   ·rw [if_pos c7] at H
    have c7b0 : decide (a2 < t577) = true := decide_eq_true c7
    clear c7
    simp only [Option.some.injEq, Prod.mk.injEq] at H
    obtain ⟨rfl, rfl, rfl⟩ := H
    go_enter Try.func79, Try.ntmps79
    go_wp2_with (first | ((with_reducible refine gate_callee (f := 78) rfl ?_); refine goesL_ (some 19) rfl rfl Try.func78 (by kernel_rfl) rfl #[.string a0, .int .i64 a1] rfl (by (try simp only [List.map_toArray, List.map_cons, List.map_nil]); first | done | rfl | (simp only [List.length_drop, List.length_take]; rfl)) ?_; (with_reducible refine (storagebarterref01_Int.calls k a0 a1 t577 t578 t579 _ A4.out).mono ?_); rintro e w' ⟨rfl, ⟨nd, rfl⟩⟩; refine ⟨_, rfl, ?_⟩))
    go_ret3
    exact ⟨_, by first | rfl | (simp [errW_none, errW_some] <;> rfl) | (simp [*, errW_none, errW_some] <;> rfl), by first | exact Kd.R_nil _ _ _ _ _ | exact Kd.N_nil _ _ _ _ _ | exact Kd.V_nil _ _ _ _ _ | exact Kd.Q_nil _ _ _ _ _ | exact Kd.S_nil _ _ _ _ _, by repeat (first | (with_reducible first | exact HB.out | apply below_alloc | apply pw_below_drewN | apply below_drew1) | exact HB.out)⟩
   ·rw [if_neg c7] at H
    have c7b0 : decide (a2 < t577) = false := decide_eq_false c7
    clear c7
    have H' := Aside0.mk H
    clear H
    go_enter Try.func79, Try.ntmps79
    go_wp2_with (first | ((with_reducible refine gate_callee (f := 78) rfl ?_); refine goesL_ (some 19) rfl rfl Try.func78 (by kernel_rfl) rfl #[.string a0, .int .i64 a1] rfl (by (try simp only [List.map_toArray, List.map_cons, List.map_nil]); first | done | rfl | (simp only [List.length_drop, List.length_take]; rfl)) ?_; (with_reducible refine (storagebarterref01_Int.calls k a0 a1 t577 t578 t579 _ A4.out).mono ?_); rintro e w' ⟨rfl, ⟨nd, rfl⟩⟩; refine ⟨_, rfl, ?_⟩))
    go_loopg [10, 12] k (fun kq v10 v12 w' => ∃ (x10_1 : Int) (x12_1 : List Int), v10 = .int .i64 x10_1 ∧ Aside0 (storagebarterref01_List.l0 kq a0 t577 x10_1 x12_1 = some (r1, r2, r3)) ∧ Aside0 (kq ≤ k) ∧ Aside0 (Kd.R (Kd.int .i64) 3 w' w.heap.size (fun _ => True) v12 x12_1) ∧ Aside0 (Below w.heap.size w w'))
    case atStart => exact ⟨(t578), (([] : List Int)), (by first | rfl | (simp; done) | (simp [*]; done)), H', ⟨Nat.le_refl _⟩, ⟨by first | exact Kd.R_nil _ _ _ _ _ | exact Kd.N_nil _ _ _ _ _ | exact Kd.V_nil _ _ _ _ _ | exact Kd.Q_nil _ _ _ _ _ | exact Kd.S_nil _ _ _ _ _⟩, ⟨by repeat (first | (with_reducible first | exact HB.out | apply below_alloc | apply pw_below_drewN | apply below_drew1) | exact HB.out)⟩⟩
    case round =>
     clear H'
     try clear p2
     try clear c5
     try clear c5b0
     try clear c5b1
     try clear c6
     try clear c6b0
     try clear c7
     try clear c7b0
     obtain ⟨x10_1, x12_1, rfl, HA, HK1, HO_12, HB⟩ := hrel
     cases gk with
     | zero => exact absurd HA.out (by simp [storagebarterref01_List.l0])
     | succ k1 =>
      have H := HA.out
      clear HA
      simp only [storagebarterref01_List.l0] at H
      by_cases c8 : (x12_1.length : Int) < t577
      ·rw [if_pos c8] at H
       have c8b0 : decide ((x12_1.length : Int) < t577) = true := decide_eq_true c8
       clear c8
       replace H := Option.bind_eq_some_iff.mp H
       obtain ⟨⟨t580, t581, t582⟩, A90, H⟩ := H
       replace H : (if t582 = 0 then (if x12_1.length < 17592186044416 then (storagebarterref01_List.l0 k1 a0 t577 t581 (x12_1 ++ [t580])) else (none)) else (some (([] : List Int), 0, t582))) = some (r1, r2, r3) := H
       have A9 := Aside0.mk A90
       clear A90
       by_cases c10 : t582 = 0
       ·rw [if_pos c10] at H
        have c10b0 : (t582 == 0) = true := beq_iff_eq.mpr c10
        have c10b1 : (t582 != 0) = false := bne_eq_false_iff_eq.mpr c10
        clear c10
        by_cases c11 : x12_1.length < 17592186044416
        ·rw [if_pos c11] at H
         have LMc11 := Aside0.mk c11
         clear c11
         obtain ⟨y583, hy583⟩ : ∃ y_ : List Int, y_ = (x12_1 ++ [t580]) := ⟨_, rfl⟩
         replace H : (storagebarterref01_List.l0 k1 a0 t577 t581 y583) = some (r1, r2, r3) := by first | (rw [hy583]; with_reducible exact H) | (have H2_ := (Option.bind_some _ _).symm.trans H; rw [hy583]; with_reducible exact H2_) | (have H2_ := (Option.bind_some _ _).symm.trans H; with_reducible exact H2_) | with_reducible exact H | (rw [hy583]; exact H) | exact H
         have Ny583 := Aside0.mk hy583
         clear hy583
         have H' := Aside0.mk H
         clear H
         obtain ⟨Ao12, co12, eo12⟩ := Kd.R_slice HO_12.out
         subst eo12
         go_wp2_with (first | ((with_reducible refine gate_callee (f := 78) rfl ?_); refine goesL_ (some 38) rfl rfl Try.func78 (by kernel_rfl) rfl #[.string a0, .int .i64 x10_1] rfl (by (try simp only [List.map_toArray, List.map_cons, List.map_nil]); first | done | rfl | (simp only [List.length_drop, List.length_take]; rfl)) ?_; (with_reducible refine (storagebarterref01_Int.calls k1 a0 x10_1 t580 t581 t582 _ A9.out).mono ?_); rintro e w' ⟨rfl, ⟨nd, rfl⟩⟩; refine ⟨_, rfl, ?_⟩) | ((with_reducible refine gate_builtin (b := .append) (xs := #[.tmp 45, .tmp 47]) rfl ?_); at_builtin; refine Kd.R_append (Kd.int .i64) (w0 := w) w.heap.size rfl (.tmp 45) (.tmp 47) 22 3 (.int .i64 0) 8 rfl Try.underlying22 info3 rfl (by decide) (by omega) (.slice Ao12 x12_1.length co12) x12_1 t580 [.int .i64 t580] (fun _ => True) (fun _ => False) rfl rfl ?aP (fun _ hk => hk.elim) ?aF ?aO ?aB ?aS ?aL ?_; (case aP => exact rfl); (case aB => exact (by repeat (first | (with_reducible first | exact HB.out | apply below_alloc | apply pw_below_drewN | apply below_drew1) | exact HB.out))); (case aF => exact (fun _ _ => trivial)); (case aO => exact (by (with_reducible repeat (first | apply Kd.R_alloc | apply Kd.R_drewN | apply Kd.R_drew)); exact HO_12.out)); (case aS => exact (below_size (by repeat (first | (with_reducible first | exact HB.out | apply below_alloc | apply pw_below_drewN | apply below_drew1) | exact HB.out)))); (case aL => have := LMc11.out; omega); intro v584 w13 ho hb hg hat; rw [← Ny583.out] at ho; have n0_ := Aside0.mk (hb); have n1_ := Aside0.mk (ho); clear HB; clear HO_12; have HB := n0_; have HO585 := n1_; clear n0_ n1_; clear ho hb hg hat))
         go_roundg k1
         case measure => have := HK1.out; omega
         case rel => exact ⟨(t581), (y583), (by first | rfl | (simp; done) | (simp [*]; done)), H', ⟨by have := HK1.out; omega⟩, ⟨by (with_reducible repeat (first | apply Kd.R_alloc | apply Kd.R_drewN | apply Kd.R_drew)); exact HO585.out⟩, ⟨by repeat (first | (with_reducible first | exact HB.out | apply below_alloc | apply pw_below_drewN | apply below_drew1) | exact HB.out)⟩⟩
        ·rw [if_neg c11] at H
         exact absurd H (by simp)
       ·rw [if_neg c10] at H
        have c10b0 : (t582 == 0) = false := beq_eq_false_iff_ne.mpr c10
        have c10b1 : (t582 != 0) = true := bne_iff_ne.mpr c10
        simp only [Option.some.injEq, Prod.mk.injEq] at H
        obtain ⟨rfl, rfl, rfl⟩ := H
        obtain ⟨Ao14, co14, eo14⟩ := Kd.R_slice HO_12.out
        subst eo14
        go_wp2_with (first | ((with_reducible refine gate_callee (f := 78) rfl ?_); refine goesL_ (some 38) rfl rfl Try.func78 (by kernel_rfl) rfl #[.string a0, .int .i64 x10_1] rfl (by (try simp only [List.map_toArray, List.map_cons, List.map_nil]); first | done | rfl | (simp only [List.length_drop, List.length_take]; rfl)) ?_; (with_reducible refine (storagebarterref01_Int.calls k1 a0 x10_1 t580 t581 t582 _ A9.out).mono ?_); rintro e w' ⟨rfl, ⟨nd, rfl⟩⟩; refine ⟨_, rfl, ?_⟩))
        go_ret3
        exact ⟨_, by first | rfl | (simp [errW_none, errW_some] <;> rfl) | (simp [*, errW_none, errW_some] <;> rfl), by first | exact Kd.R_nil _ _ _ _ _ | exact Kd.N_nil _ _ _ _ _ | exact Kd.V_nil _ _ _ _ _ | exact Kd.Q_nil _ _ _ _ _ | exact Kd.S_nil _ _ _ _ _, by repeat (first | (with_reducible first | exact HB.out | apply below_alloc | apply pw_below_drewN | apply below_drew1) | exact HB.out)⟩
      ·rw [if_neg c8] at H
       have c8b0 : decide ((x12_1.length : Int) < t577) = false := decide_eq_false c8
       clear c8
       simp only [Option.some.injEq, Prod.mk.injEq] at H
       obtain ⟨rfl, rfl, rfl⟩ := H
       obtain ⟨Ao15, co15, eo15⟩ := Kd.R_slice HO_12.out
       subst eo15
       go_wp2
       go_ret3
       exact ⟨_, by first | rfl | (simp [errW_none, errW_some] <;> rfl) | (simp [*, errW_none, errW_some] <;> rfl), by (with_reducible repeat (first | apply Kd.R_alloc | apply Kd.R_drewN | apply Kd.R_drew)); exact HO_12.out, by repeat (first | (with_reducible first | exact HB.out | apply below_alloc | apply pw_below_drewN | apply below_drew1) | exact HB.out)⟩
 ·rw [if_neg c5] at H
  have c5b0 : (t579 == 0) = false := beq_eq_false_iff_ne.mpr c5
  have c5b1 : (t579 != 0) = true := bne_iff_ne.mpr c5
  simp only [Option.some.injEq, Prod.mk.injEq] at H
  obtain ⟨rfl, rfl, rfl⟩ := H
  go_enter Try.func79, Try.ntmps79
  go_wp2_with (first | ((with_reducible refine gate_callee (f := 78) rfl ?_); refine goesL_ (some 19) rfl rfl Try.func78 (by kernel_rfl) rfl #[.string a0, .int .i64 a1] rfl (by (try simp only [List.map_toArray, List.map_cons, List.map_nil]); first | done | rfl | (simp only [List.length_drop, List.length_take]; rfl)) ?_; (with_reducible refine (storagebarterref01_Int.calls k a0 a1 t577 t578 t579 _ A4.out).mono ?_); rintro e w' ⟨rfl, ⟨nd, rfl⟩⟩; refine ⟨_, rfl, ?_⟩))
  go_ret3
  exact ⟨_, by first | rfl | (simp [errW_none, errW_some] <;> rfl) | (simp [*, errW_none, errW_some] <;> rfl), by first | exact Kd.R_nil _ _ _ _ _ | exact Kd.N_nil _ _ _ _ _ | exact Kd.V_nil _ _ _ _ _ | exact Kd.Q_nil _ _ _ _ _ | exact Kd.S_nil _ _ _ _ _, by repeat (first | (with_reducible first | exact HB.out | apply below_alloc | apply pw_below_drewN | apply below_drew1) | exact HB.out)⟩
end Go.Proofs.Ytodhkbahjomfhaa.Q
