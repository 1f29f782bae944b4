/- Versions are read back from their bytes, and different ones have different bytes: for all choices. -/
import Derived.Test.YtodhkbahjomfhaaCManifestBack3
import Derived.Test.YtodhkbahjomfhaaCManifestBack5
import Derived.Test.YtodhkbahjomfhaaCManifestBack4
import Derived.Test.YtodhkbahjomfhaaRows
import Derived.SliceStrings
import Derived.WalkKit
import Derived.ProofKit
import Derived.OpenShut
import Derived.ShutString
import Derived.ChangeOld
import Derived.Below
import Derived.SizedLaws
import Derived.Test.YtodhkbahjomfhaaCManifestBack1
namespace Go.Proofs.Ytodhkbahjomfhaa.Q
open Go.RowKit Go.Proofs.YtodhkbahjomfhaaW.PrintWords Go.Proofs.YtodhkbahjomfhaaW.PrintLast Go.Proofs.YtodhkbahjomfhaaW.PrintMore Go.Proofs.Ytodhkbahjomfhaa.Gput Go.Proofs.Ytodhkbahjomfhaa.Gputl
attribute [local go_sem] max2_int min2_int max_two min_two max_three min_three max_four min_four   -- for this text's walks alone
set_option linter.unusedVariables false
set_option linter.unusedSimpArgs false
mutual
noncomputable def storagebarterref08_Check.j0 : Nat → Bool → Int → List (S78) → Option (Int)
 | 0, _, _, _ => none
 | k + 1, x12, x466000, x466001 => if x12 = true then (some 1) else (if (x466001.length : Int) > 256 then (some 4) else (storagebarterref08_Check.l0 k x466001 (x466001.length : Int) 0))
noncomputable def storagebarterref08_Check.l0 : Nat → List (S78) → Int → Int → Option (Int)
 | 0, _, _, _ => none
 | k + 1, x18, x19, x20 => if x20 < x19 then (if 0 ≤ x20 then (if x20 < (x18.length : Int) then (if ((rd_T78 x18 x20).f0) < 0 then (some 2) else (if ((rd_T78 x18 x20).f0) ≥ 2147483647 then (some 2) else (if ((rd_T78 x18 x20).f1) < 1 then (some 2) else (if ((rd_T78 x18 x20).f1) > 256 then (some 2) else (storagebarterref08_Check.l0 k x18 x19 (wrap64 (x20 + 1))))))) else (none)) else (none)) else (some 0)
end
noncomputable def storagebarterref08_Check.f (k : Nat) (a0_0 : Int) (l0_1 : List (S78)) : Option (Int) := if a0_0 < 1 then (storagebarterref08_Check.j0 k true a0_0 l0_1) else (storagebarterref08_Check.j0 k (decide (a0_0 ≥ 2147483647)) a0_0 l0_1)
set_option maxHeartbeats 8000000 in
set_option maxRecDepth 100000 in
theorem storagebarterref08_Check.calls (k : Nat) (a0_0 : Int) (A0_1 : Option Addr) (c0_1 : Nat) (l0_1 : List (S78)) (r : Int) (w : World) (hr0_1 : Kd.C k78 w A0_1 l0_1.length l0_1) (hc0_1 : l0_1.length ≤ c0_1) (h : storagebarterref08_Check.f k a0_0 l0_1 = some r) :
 Calls Try.prog 57 #[.agg #[.int .i64 a0_0, .slice A0_1 l0_1.length c0_1]] w fun e w' => e = .returned (.int .i64 r) ∧ Below w.heap.size w w' := by
 have hu32 := Try.underlying32
 have hu78 := Try.underlying78
 have HR0_1 := Aside0.mk hr0_1
 have HC0_1 := Aside0.mk hc0_1
 clear hr0_1 hc0_1
 have HB := Aside0.mk (Below.refl w.heap.size w)
 have H : (if a0_0 < 1 then (storagebarterref08_Check.j0 k true a0_0 l0_1) else (storagebarterref08_Check.j0 k (decide (a0_0 ≥ 2147483647)) a0_0 l0_1)) = some r := h
 clear h
 have HC2 := Aside0.mk H
 clear H
 go_enter Try.func57, Try.ntmps57
 go_upto_region 1 with (first | ((with_reducible refine gate_dst (N := 1) rfl ?_); refine box_event ?hg (N := 1) ?hd (cs := #[.int .i64 a0_0, .slice A0_1 l0_1.length c0_1]) (t := 32) ?hr ?_; (case hd => rfl); (case hg => rfl); (case hr => first | (go_simp; done) | (go_simp; rfl)); intro gb465 hg w3 hbox hb; have n0_ := Aside0.mk (below_step (by repeat (first | (with_reducible first | exact HB.out | apply below_alloc | apply pw_below_drewN | apply below_drew1) | exact HB.out)) hb); have n1_ := Aside0.mk (hbox); have n2_ := Aside0.mk ((by rw [hg]; exact (below_size (by repeat (first | (with_reducible first | exact HB.out | apply below_alloc | apply pw_below_drewN | apply below_drew1) | exact HB.out))) : w.heap.size ≤ gb465)); have n3_ := Aside0.mk ((by rw [hg]; exact (below_size (by repeat (first | (with_reducible first | exact HB.out | apply below_alloc | apply pw_below_drewN | apply below_drew1) | exact HB.out))) : w.heap.size ≤ gb465)); clear HB; have HB := n0_; have BK465 := n1_; have GW465 := n2_; have GE465 := n3_; clear n0_ n1_ n2_ n3_; clear hb hbox hg))
 (try simp only [Act.put, List.setIfInBounds_toArray, List.set_cons_zero, List.set_cons_succ])
 go_cut [12] (fun v12 wc => ∃ (kq : Nat) (x12_1 : Bool), v12 = .bool x12_1 ∧ Aside0 (storagebarterref08_Check.j0 kq x12_1 a0_0 l0_1 = some r) ∧ Aside0 (kq ≤ k) ∧ Aside0 (wc.heap[gb465]? = some (.cells #[.int .i64 a0_0, (.slice A0_1 l0_1.length c0_1)] 32 (0, 0))) ∧ Aside0 (Below w.heap.size w wc))
 case first =>
  have H := HC2.out
  clear HC2
  by_cases c4 : a0_0 < 1
  ·rw [if_pos c4] at H
   have c4b0 : decide (a0_0 < 1) = true := decide_eq_true c4
   clear c4
   (first | rw [c4b0] | (simp only [i64_w, i32_w]; rw [c4b0]) | skip)
   have H' := Aside0.mk H
   clear H
   have hcz5_0 : w3.cell? ⟨gb465, 0, none⟩ = some (.int .i64 a0_0) := (blk_cell BK465.out 0).trans rfl
   have hcz5_1 : w3.cell? ⟨gb465, 1, none⟩ = some (.slice A0_1 l0_1.length c0_1) := (blk_cell BK465.out 1).trans rfl
   have hfz5_0 := blk_frozen BK465.out 0
   have hfz5_1 := blk_frozen BK465.out 1
   go_wp2
   go_meet
   case rel => exact ⟨_, (true), (by first | rfl | (simp; done) | (simp [*]; done)), H', ⟨by first | omega | exact Nat.le_refl _⟩, ⟨by (with_reducible repeat (first | refine blk_drewN ?_ _ | refine blk_drew ?_ | refine blk_alloc ?_ _)); exact BK465.out⟩, ⟨by repeat (first | (with_reducible first | exact HB.out | apply below_alloc | apply pw_below_drewN | apply below_drew1 | refine below_set ?_ GE465.out) | exact HB.out)⟩⟩
  ·rw [if_neg c4] at H
   have c4b0 : decide (a0_0 < 1) = false := decide_eq_false c4
   clear c4
   (first | rw [c4b0] | (simp only [i64_w, i32_w]; rw [c4b0]) | skip)
   have H' := Aside0.mk H
   clear H
   have hcz6_0 : w3.cell? ⟨gb465, 0, none⟩ = some (.int .i64 a0_0) := (blk_cell BK465.out 0).trans rfl
   have hcz6_1 : w3.cell? ⟨gb465, 1, none⟩ = some (.slice A0_1 l0_1.length c0_1) := (blk_cell BK465.out 1).trans rfl
   have hfz6_0 := blk_frozen BK465.out 0
   have hfz6_1 := blk_frozen BK465.out 1
   go_wp2
   go_meet
   case rel => exact ⟨_, (decide (a0_0 ≥ 2147483647)), (by first | rfl | (simp; done) | (simp [*]; done)), H', ⟨by first | omega | exact Nat.le_refl _⟩, ⟨by (with_reducible repeat (first | refine blk_drewN ?_ _ | refine blk_drew ?_ | refine blk_alloc ?_ _)); exact BK465.out⟩, ⟨by repeat (first | (with_reducible first | exact HB.out | apply below_alloc | apply pw_below_drewN | apply below_drew1 | refine below_set ?_ GE465.out) | exact HB.out)⟩⟩
 case rest =>
  clear HC2
  try clear p2
  try clear c4
  try clear c4b0
  try clear c5
  try clear hcz5_0
  try clear hcz5_1
  try clear hcz6_0
  try clear hcz6_1
  try clear hfz5_0
  try clear hfz5_1
  try clear hfz6_0
  try clear hfz6_1
  obtain ⟨kq, x12_1, rfl, HA, HJ1, BK465, HB⟩ := hcut
  cases kq with
  | zero => exact absurd HA.out (by simp [storagebarterref08_Check.j0])
  | succ kj1 =>
   have H := HA.out
   clear HA
   simp only [storagebarterref08_Check.j0] at H
   by_cases c7 : x12_1 = true
   ·subst c7
    have H1 : (some 1) = some r := by rw [if_pos rfl] at H; exact H
    clear H
    have H := H1
    clear H1
    obtain rfl := Option.some.inj H
    go_wp2
    go_ret
    exact ⟨by first | rfl | (simp [errW_none, errW_some] <;> rfl) | (simp [*, errW_none, errW_some] <;> rfl), by repeat (first | (with_reducible first | exact HB.out | apply below_alloc | apply pw_below_drewN | apply below_drew1 | refine below_set ?_ GE465.out) | exact HB.out)⟩
   ·replace c7 := Bool.eq_false_iff.mpr c7
    subst c7
    have H1 : (if (l0_1.length : Int) > 256 then (some 4) else (storagebarterref08_Check.l0 kj1 l0_1 (l0_1.length : Int) 0)) = some r := by rw [if_neg (show ¬ (false = true) by decide)] at H; exact H
    clear H
    have H := H1
    clear H1
    by_cases c8 : (l0_1.length : Int) > 256
    ·rw [if_pos c8] at H
     have c8b0 : decide (256 < (l0_1.length : Int)) = true := decide_eq_true c8
     have c8b1 : decide (256 < l0_1.length) = true := decide_eq_true (by omega)
     clear c8
     obtain rfl := Option.some.inj H
     have hcz9_0 : wc.cell? ⟨gb465, 0, none⟩ = some (.int .i64 a0_0) := (blk_cell BK465.out 0).trans rfl
     have hcz9_1 : wc.cell? ⟨gb465, 1, none⟩ = some (.slice A0_1 l0_1.length c0_1) := (blk_cell BK465.out 1).trans rfl
     have hfz9_0 := blk_frozen BK465.out 0
     have hfz9_1 := blk_frozen BK465.out 1
     go_wp2
     go_ret
     exact ⟨by first | rfl | (simp [errW_none, errW_some] <;> rfl) | (simp [*, errW_none, errW_some] <;> rfl), by repeat (first | (with_reducible first | exact HB.out | apply below_alloc | apply pw_below_drewN | apply below_drew1 | refine below_set ?_ GE465.out) | exact HB.out)⟩
    ·rw [if_neg c8] at H
     have c8b0 : decide (256 < (l0_1.length : Int)) = false := decide_eq_false c8
     have c8b1 : decide (256 < l0_1.length) = false := decide_eq_false (by omega)
     clear c8
     have H' := Aside0.mk H
     clear H
     have hcz10_0 : wc.cell? ⟨gb465, 0, none⟩ = some (.int .i64 a0_0) := (blk_cell BK465.out 0).trans rfl
     have hcz10_1 : wc.cell? ⟨gb465, 1, none⟩ = some (.slice A0_1 l0_1.length c0_1) := (blk_cell BK465.out 1).trans rfl
     have hfz10_0 := blk_frozen BK465.out 0
     have hfz10_1 := blk_frozen BK465.out 1
     go_wp2
     go_loopg [20] kj1 (fun kq v20 w' => ∃ (x20_2 : Int), v20 = .int .i64 x20_2 ∧ Aside0 (storagebarterref08_Check.l0 kq l0_1 (l0_1.length : Int) x20_2 = some r) ∧ Aside0 (kq ≤ kj1) ∧ Aside0 (w'.heap[gb465]? = some (.cells #[.int .i64 a0_0, (.slice A0_1 l0_1.length c0_1)] 32 (0, 0))) ∧ Aside0 (Below w.heap.size w w'))
     case atStart => exact ⟨(0), (by first | rfl | (simp; done) | (simp [*]; done)), H', ⟨Nat.le_refl _⟩, ⟨by (with_reducible repeat (first | refine blk_drewN ?_ _ | refine blk_drew ?_ | refine blk_alloc ?_ _)); exact BK465.out⟩, ⟨by repeat (first | (with_reducible first | exact HB.out | apply below_alloc | apply pw_below_drewN | apply below_drew1 | refine below_set ?_ GE465.out) | exact HB.out)⟩⟩
     case round =>
      clear H'
      try clear p2
      try clear c4
      try clear c4b0
      try clear c5
      try clear c7
      try clear c8
      try clear c8b0
      try clear c8b1
      try clear hcz10_0
      try clear hcz10_1
      try clear hcz5_0
      try clear hcz5_1
      try clear hcz6_0
      try clear hcz6_1
      try clear hcz9_0
      try clear hcz9_1
      try clear hfz10_0
      try clear hfz10_1
      try clear hfz5_0
      try clear hfz5_1
      try clear hfz6_0
      try clear hfz6_1
      try clear hfz9_0
      try clear hfz9_1
      try clear p2
      obtain ⟨x20_2, rfl, HA, HK2, BK465, HB⟩ := hrel
      cases gk with
      | zero => exact absurd HA.out (by simp [storagebarterref08_Check.l0])
      | succ k2 =>
       have H := HA.out
       clear HA
       simp only [storagebarterref08_Check.l0] at H
       by_cases c11 : x20_2 < (l0_1.length : Int)
       ·rw [if_pos c11] at H
        have c11b0 : decide (x20_2 < (l0_1.length : Int)) = true := decide_eq_true c11
        clear c11
        by_cases c12 : 0 ≤ x20_2
        ·rw [if_pos c12] at H
         have c12b0 : decide (0 ≤ x20_2) = true := decide_eq_true c12
         clear c12
         by_cases c13 : x20_2 < (l0_1.length : Int)
         ·rw [if_pos c13] at H
          have c13b0 : decide (x20_2 < (l0_1.length : Int)) = true := decide_eq_true c13
          clear c13
          by_cases c14 : ((rd_T78 l0_1 x20_2).f0) < 0
          ·rw [if_pos c14] at H
           have c14b0 : decide (((rd_T78 l0_1 x20_2).f0) < 0) = true := decide_eq_true c14
           clear c14
           obtain rfl := Option.some.inj H
           have p466 : 0 ≤ (x20_2 : Int) := of_decide_eq_true (by first | (with_reducible assumption) | assumption)
           have q466 : x20_2 < (l0_1.length : Int) := of_decide_eq_true (by first | (with_reducible assumption) | assumption)
           obtain ⟨ad466, e466, hx466_0, hx466_1⟩ := at_T78 HR0_1.out x20_2 p466 q466
           cases e466
           replace hx466_0 := (HB.out.cell (World.block_lt_of_cell? w _ hx466_0)).trans hx466_0
           replace hx466_1 := (HB.out.cell (World.block_lt_of_cell? w _ hx466_1)).trans hx466_1
           replace p466 := eq_true p466
           replace q466 := eq_true q466
           go_wp2_with (first | ((with_reducible refine gate_dst (N := 4) rfl ?_); refine box_event ?hg (N := 4) ?hd (cs := #[.int .i64 0, .int .i64 0]) (t := 78) ?hr ?_; (case hd => rfl); (case hg => rfl); (case hr => first | (go_simp; done) | (go_simp; rfl)); intro gb467 hg w15 hbox hb; have n0_ := Aside0.mk (blk_below (g := gb465) (o := .cells #[.int .i64 a0_0, .slice (some ad466) l0_1.length c0_1] 32 (0, 0)) (by (with_reducible repeat (first | refine blk_drewN ?_ _ | refine blk_drew ?_ | refine blk_alloc ?_ _)); exact BK465.out) hb); have n1_ := Aside0.mk (below_step (by repeat (first | (with_reducible first | exact HB.out | apply below_alloc | apply pw_below_drewN | apply below_drew1 | refine below_set ?_ GE465.out) | exact HB.out)) hb); have n2_ := Aside0.mk (hbox); have n3_ := Aside0.mk ((by rw [hg]; exact (below_size (by repeat (first | (with_reducible first | exact HB.out | apply below_alloc | apply pw_below_drewN | apply below_drew1 | refine below_set ?_ GE465.out) | exact HB.out))) : w.heap.size ≤ gb467)); have n4_ := Aside0.mk ((by rw [hg]; exact (below_size (by repeat (first | (with_reducible first | exact HB.out | apply below_alloc | apply pw_below_drewN | apply below_drew1 | refine below_set ?_ GE465.out) | exact HB.out))) : w.heap.size ≤ gb467)); have n5_ := Aside0.mk ((by rw [hg]; exact Nat.ne_of_lt (blk_lt (g := gb465) (o := .cells #[.int .i64 a0_0, .slice (some ad466) l0_1.length c0_1] 32 (0, 0)) (by (with_reducible repeat (first | refine blk_drewN ?_ _ | refine blk_drew ?_ | refine blk_alloc ?_ _)); exact BK465.out)) : gb465 ≠ gb467)); have n6_ := Aside0.mk ((by rw [hg]; exact Nat.ne_of_gt (blk_lt (g := gb465) (o := .cells #[.int .i64 a0_0, .slice (some ad466) l0_1.length c0_1] 32 (0, 0)) (by (with_reducible repeat (first | refine blk_drewN ?_ _ | refine blk_drew ?_ | refine blk_alloc ?_ _)); exact BK465.out)) : gb467 ≠ gb465)); clear BK465; clear HB; have BK465 := n0_; have HB := n1_; have BK467 := n2_; have GW467 := n3_; have GE467 := n4_; have NB465_467 := n5_; have NB467_465 := n6_; clear n0_ n1_ n2_ n3_ n4_ n5_ n6_; clear hb hbox hg; have hnb16 := NB467_465.out; have hnc16 := NB465_467.out; have hcz17_0 : w15.cell? ⟨gb467, 0, none⟩ = some (.int .i64 0) := (blk_cell BK467.out 0).trans rfl; have hcz17_1 : w15.cell? ⟨gb467, 1, none⟩ = some (.int .i64 0) := (blk_cell BK467.out 1).trans rfl; have hfz17_0 := blk_frozen BK467.out 0; have hfz17_1 := blk_frozen BK467.out 1))
           go_ret
           exact ⟨by first | rfl | (simp [errW_none, errW_some] <;> rfl) | (simp [*, errW_none, errW_some] <;> rfl), by repeat (first | (with_reducible first | exact HB.out | apply below_alloc | apply pw_below_drewN | apply below_drew1 | refine below_set ?_ GE465.out | refine below_set ?_ GE467.out) | exact HB.out)⟩
          ·rw [if_neg c14] at H
           have c14b0 : decide (((rd_T78 l0_1 x20_2).f0) < 0) = false := decide_eq_false c14
           clear c14
           by_cases c18 : ((rd_T78 l0_1 x20_2).f0) ≥ 2147483647
           ·rw [if_pos c18] at H
            have c18b0 : decide (2147483647 ≤ ((rd_T78 l0_1 x20_2).f0)) = true := decide_eq_true c18
            clear c18
            obtain rfl := Option.some.inj H
            have p466 : 0 ≤ (x20_2 : Int) := of_decide_eq_true (by first | (with_reducible assumption) | assumption)
            have q466 : x20_2 < (l0_1.length : Int) := of_decide_eq_true (by first | (with_reducible assumption) | assumption)
            obtain ⟨ad466, e466, hx466_0, hx466_1⟩ := at_T78 HR0_1.out x20_2 p466 q466
            cases e466
            replace hx466_0 := (HB.out.cell (World.block_lt_of_cell? w _ hx466_0)).trans hx466_0
            replace hx466_1 := (HB.out.cell (World.block_lt_of_cell? w _ hx466_1)).trans hx466_1
            replace p466 := eq_true p466
            replace q466 := eq_true q466
            go_wp2_with (first | ((with_reducible refine gate_dst (N := 4) rfl ?_); refine box_event ?hg (N := 4) ?hd (cs := #[.int .i64 0, .int .i64 0]) (t := 78) ?hr ?_; (case hd => rfl); (case hg => rfl); (case hr => first | (go_simp; done) | (go_simp; rfl)); intro gb467 hg w19 hbox hb; have n0_ := Aside0.mk (blk_below (g := gb465) (o := .cells #[.int .i64 a0_0, .slice (some ad466) l0_1.length c0_1] 32 (0, 0)) (by (with_reducible repeat (first | refine blk_drewN ?_ _ | refine blk_drew ?_ | refine blk_alloc ?_ _)); exact BK465.out) hb); have n1_ := Aside0.mk (below_step (by repeat (first | (with_reducible first | exact HB.out | apply below_alloc | apply pw_below_drewN | apply below_drew1 | refine below_set ?_ GE465.out) | exact HB.out)) hb); have n2_ := Aside0.mk (hbox); have n3_ := Aside0.mk ((by rw [hg]; exact (below_size (by repeat (first | (with_reducible first | exact HB.out | apply below_alloc | apply pw_below_drewN | apply below_drew1 | refine below_set ?_ GE465.out) | exact HB.out))) : w.heap.size ≤ gb467)); have n4_ := Aside0.mk ((by rw [hg]; exact (below_size (by repeat (first | (with_reducible first | exact HB.out | apply below_alloc | apply pw_below_drewN | apply below_drew1 | refine below_set ?_ GE465.out) | exact HB.out))) : w.heap.size ≤ gb467)); have n5_ := Aside0.mk ((by rw [hg]; exact Nat.ne_of_lt (blk_lt (g := gb465) (o := .cells #[.int .i64 a0_0, .slice (some ad466) l0_1.length c0_1] 32 (0, 0)) (by (with_reducible repeat (first | refine blk_drewN ?_ _ | refine blk_drew ?_ | refine blk_alloc ?_ _)); exact BK465.out)) : gb465 ≠ gb467)); have n6_ := Aside0.mk ((by rw [hg]; exact Nat.ne_of_gt (blk_lt (g := gb465) (o := .cells #[.int .i64 a0_0, .slice (some ad466) l0_1.length c0_1] 32 (0, 0)) (by (with_reducible repeat (first | refine blk_drewN ?_ _ | refine blk_drew ?_ | refine blk_alloc ?_ _)); exact BK465.out)) : gb467 ≠ gb465)); clear BK465; clear HB; have BK465 := n0_; have HB := n1_; have BK467 := n2_; have GW467 := n3_; have GE467 := n4_; have NB465_467 := n5_; have NB467_465 := n6_; clear n0_ n1_ n2_ n3_ n4_ n5_ n6_; clear hb hbox hg; have hnb20 := NB467_465.out; have hnc20 := NB465_467.out; have hcz21_0 : w19.cell? ⟨gb467, 0, none⟩ = some (.int .i64 0) := (blk_cell BK467.out 0).trans rfl; have hcz21_1 : w19.cell? ⟨gb467, 1, none⟩ = some (.int .i64 0) := (blk_cell BK467.out 1).trans rfl; have hfz21_0 := blk_frozen BK467.out 0; have hfz21_1 := blk_frozen BK467.out 1))
            go_ret
            exact ⟨by first | rfl | (simp [errW_none, errW_some] <;> rfl) | (simp [*, errW_none, errW_some] <;> rfl), by repeat (first | (with_reducible first | exact HB.out | apply below_alloc | apply pw_below_drewN | apply below_drew1 | refine below_set ?_ GE465.out | refine below_set ?_ GE467.out) | exact HB.out)⟩
           ·rw [if_neg c18] at H
            have c18b0 : decide (2147483647 ≤ ((rd_T78 l0_1 x20_2).f0)) = false := decide_eq_false c18
            clear c18
            by_cases c22 : ((rd_T78 l0_1 x20_2).f1) < 1
            ·rw [if_pos c22] at H
             have c22b0 : decide (((rd_T78 l0_1 x20_2).f1) < 1) = true := decide_eq_true c22
             clear c22
             obtain rfl := Option.some.inj H
             have p466 : 0 ≤ (x20_2 : Int) := of_decide_eq_true (by first | (with_reducible assumption) | assumption)
             have q466 : x20_2 < (l0_1.length : Int) := of_decide_eq_true (by first | (with_reducible assumption) | assumption)
             obtain ⟨ad466, e466, hx466_0, hx466_1⟩ := at_T78 HR0_1.out x20_2 p466 q466
             cases e466
             replace hx466_0 := (HB.out.cell (World.block_lt_of_cell? w _ hx466_0)).trans hx466_0
             replace hx466_1 := (HB.out.cell (World.block_lt_of_cell? w _ hx466_1)).trans hx466_1
             replace p466 := eq_true p466
             replace q466 := eq_true q466
             go_wp2_with (first | ((with_reducible refine gate_dst (N := 4) rfl ?_); refine box_event ?hg (N := 4) ?hd (cs := #[.int .i64 0, .int .i64 0]) (t := 78) ?hr ?_; (case hd => rfl); (case hg => rfl); (case hr => first | (go_simp; done) | (go_simp; rfl)); intro gb467 hg w23 hbox hb; have n0_ := Aside0.mk (blk_below (g := gb465) (o := .cells #[.int .i64 a0_0, .slice (some ad466) l0_1.length c0_1] 32 (0, 0)) (by (with_reducible repeat (first | refine blk_drewN ?_ _ | refine blk_drew ?_ | refine blk_alloc ?_ _)); exact BK465.out) hb); have n1_ := Aside0.mk (below_step (by repeat (first | (with_reducible first | exact HB.out | apply below_alloc | apply pw_below_drewN | apply below_drew1 | refine below_set ?_ GE465.out) | exact HB.out)) hb); have n2_ := Aside0.mk (hbox); have n3_ := Aside0.mk ((by rw [hg]; exact (below_size (by repeat (first | (with_reducible first | exact HB.out | apply below_alloc | apply pw_below_drewN | apply below_drew1 | refine below_set ?_ GE465.out) | exact HB.out))) : w.heap.size ≤ gb467)); have n4_ := Aside0.mk ((by rw [hg]; exact (below_size (by repeat (first | (with_reducible first | exact HB.out | apply below_alloc | apply pw_below_drewN | apply below_drew1 | refine below_set ?_ GE465.out) | exact HB.out))) : w.heap.size ≤ gb467)); have n5_ := Aside0.mk ((by rw [hg]; exact Nat.ne_of_lt (blk_lt (g := gb465) (o := .cells #[.int .i64 a0_0, .slice (some ad466) l0_1.length c0_1] 32 (0, 0)) (by (with_reducible repeat (first | refine blk_drewN ?_ _ | refine blk_drew ?_ | refine blk_alloc ?_ _)); exact BK465.out)) : gb465 ≠ gb467)); have n6_ := Aside0.mk ((by rw [hg]; exact Nat.ne_of_gt (blk_lt (g := gb465) (o := .cells #[.int .i64 a0_0, .slice (some ad466) l0_1.length c0_1] 32 (0, 0)) (by (with_reducible repeat (first | refine blk_drewN ?_ _ | refine blk_drew ?_ | refine blk_alloc ?_ _)); exact BK465.out)) : gb467 ≠ gb465)); clear BK465; clear HB; have BK465 := n0_; have HB := n1_; have BK467 := n2_; have GW467 := n3_; have GE467 := n4_; have NB465_467 := n5_; have NB467_465 := n6_; clear n0_ n1_ n2_ n3_ n4_ n5_ n6_; clear hb hbox hg; have hnb24 := NB467_465.out; have hnc24 := NB465_467.out; have hcz25_0 : w23.cell? ⟨gb467, 0, none⟩ = some (.int .i64 0) := (blk_cell BK467.out 0).trans rfl; have hcz25_1 : w23.cell? ⟨gb467, 1, none⟩ = some (.int .i64 0) := (blk_cell BK467.out 1).trans rfl; have hfz25_0 := blk_frozen BK467.out 0; have hfz25_1 := blk_frozen BK467.out 1))
             go_ret
             exact ⟨by first | rfl | (simp [errW_none, errW_some] <;> rfl) | (simp [*, errW_none, errW_some] <;> rfl), by repeat (first | (with_reducible first | exact HB.out | apply below_alloc | apply pw_below_drewN | apply below_drew1 | refine below_set ?_ GE465.out | refine below_set ?_ GE467.out) | exact HB.out)⟩
            ·rw [if_neg c22] at H
             have c22b0 : decide (((rd_T78 l0_1 x20_2).f1) < 1) = false := decide_eq_false c22
             clear c22
             by_cases c26 : ((rd_T78 l0_1 x20_2).f1) > 256
             ·rw [if_pos c26] at H
              have c26b0 : decide (256 < ((rd_T78 l0_1 x20_2).f1)) = true := decide_eq_true c26
              clear c26
              obtain rfl := Option.some.inj H
              have p466 : 0 ≤ (x20_2 : Int) := of_decide_eq_true (by first | (with_reducible assumption) | assumption)
              have q466 : x20_2 < (l0_1.length : Int) := of_decide_eq_true (by first | (with_reducible assumption) | assumption)
              obtain ⟨ad466, e466, hx466_0, hx466_1⟩ := at_T78 HR0_1.out x20_2 p466 q466
              cases e466
              replace hx466_0 := (HB.out.cell (World.block_lt_of_cell? w _ hx466_0)).trans hx466_0
              replace hx466_1 := (HB.out.cell (World.block_lt_of_cell? w _ hx466_1)).trans hx466_1
              replace p466 := eq_true p466
              replace q466 := eq_true q466
              go_wp2_with (first | ((with_reducible refine gate_dst (N := 4) rfl ?_); refine box_event ?hg (N := 4) ?hd (cs := #[.int .i64 0, .int .i64 0]) (t := 78) ?hr ?_; (case hd => rfl); (case hg => rfl); (case hr => first | (go_simp; done) | (go_simp; rfl)); intro gb467 hg w27 hbox hb; have n0_ := Aside0.mk (blk_below (g := gb465) (o := .cells #[.int .i64 a0_0, .slice (some ad466) l0_1.length c0_1] 32 (0, 0)) (by (with_reducible repeat (first | refine blk_drewN ?_ _ | refine blk_drew ?_ | refine blk_alloc ?_ _)); exact BK465.out) hb); have n1_ := Aside0.mk (below_step (by repeat (first | (with_reducible first | exact HB.out | apply below_alloc | apply pw_below_drewN | apply below_drew1 | refine below_set ?_ GE465.out) | exact HB.out)) hb); have n2_ := Aside0.mk (hbox); have n3_ := Aside0.mk ((by rw [hg]; exact (below_size (by repeat (first | (with_reducible first | exact HB.out | apply below_alloc | apply pw_below_drewN | apply below_drew1 | refine below_set ?_ GE465.out) | exact HB.out))) : w.heap.size ≤ gb467)); have n4_ := Aside0.mk ((by rw [hg]; exact (below_size (by repeat (first | (with_reducible first | exact HB.out | apply below_alloc | apply pw_below_drewN | apply below_drew1 | refine below_set ?_ GE465.out) | exact HB.out))) : w.heap.size ≤ gb467)); have n5_ := Aside0.mk ((by rw [hg]; exact Nat.ne_of_lt (blk_lt (g := gb465) (o := .cells #[.int .i64 a0_0, .slice (some ad466) l0_1.length c0_1] 32 (0, 0)) (by (with_reducible repeat (first | refine blk_drewN ?_ _ | refine blk_drew ?_ | refine blk_alloc ?_ _)); exact BK465.out)) : gb465 ≠ gb467)); have n6_ := Aside0.mk ((by rw [hg]; exact Nat.ne_of_gt (blk_lt (g := gb465) (o := .cells #[.int .i64 a0_0, .slice (some ad466) l0_1.length c0_1] 32 (0, 0)) (by (with_reducible repeat (first | refine blk_drewN ?_ _ | refine blk_drew ?_ | refine blk_alloc ?_ _)); exact BK465.out)) : gb467 ≠ gb465)); clear BK465; clear HB; have BK465 := n0_; have HB := n1_; have BK467 := n2_; have GW467 := n3_; have GE467 := n4_; have NB465_467 := n5_; have NB467_465 := n6_; clear n0_ n1_ n2_ n3_ n4_ n5_ n6_; clear hb hbox hg; have hnb28 := NB467_465.out; have hnc28 := NB465_467.out; have hcz29_0 : w27.cell? ⟨gb467, 0, none⟩ = some (.int .i64 0) := (blk_cell BK467.out 0).trans rfl; have hcz29_1 : w27.cell? ⟨gb467, 1, none⟩ = some (.int .i64 0) := (blk_cell BK467.out 1).trans rfl; have hfz29_0 := blk_frozen BK467.out 0; have hfz29_1 := blk_frozen BK467.out 1))
              go_ret
              exact ⟨by first | rfl | (simp [errW_none, errW_some] <;> rfl) | (simp [*, errW_none, errW_some] <;> rfl), by repeat (first | (with_reducible first | exact HB.out | apply below_alloc | apply pw_below_drewN | apply below_drew1 | refine below_set ?_ GE465.out | refine below_set ?_ GE467.out) | exact HB.out)⟩
             ·rw [if_neg c26] at H
              have c26b0 : decide (256 < ((rd_T78 l0_1 x20_2).f1)) = false := decide_eq_false c26
              clear c26
              have H' := Aside0.mk H
              clear H
              have p466 : 0 ≤ (x20_2 : Int) := of_decide_eq_true (by first | (with_reducible assumption) | assumption)
              have q466 : x20_2 < (l0_1.length : Int) := of_decide_eq_true (by first | (with_reducible assumption) | assumption)
              obtain ⟨ad466, e466, hx466_0, hx466_1⟩ := at_T78 HR0_1.out x20_2 p466 q466
              cases e466
              replace hx466_0 := (HB.out.cell (World.block_lt_of_cell? w _ hx466_0)).trans hx466_0
              replace hx466_1 := (HB.out.cell (World.block_lt_of_cell? w _ hx466_1)).trans hx466_1
              replace p466 := eq_true p466
              replace q466 := eq_true q466
              go_wp2_with (first | ((with_reducible refine gate_dst (N := 4) rfl ?_); refine box_event ?hg (N := 4) ?hd (cs := #[.int .i64 0, .int .i64 0]) (t := 78) ?hr ?_; (case hd => rfl); (case hg => rfl); (case hr => first | (go_simp; done) | (go_simp; rfl)); intro gb467 hg w30 hbox hb; have n0_ := Aside0.mk (blk_below (g := gb465) (o := .cells #[.int .i64 a0_0, .slice (some ad466) l0_1.length c0_1] 32 (0, 0)) (by (with_reducible repeat (first | refine blk_drewN ?_ _ | refine blk_drew ?_ | refine blk_alloc ?_ _)); exact BK465.out) hb); have n1_ := Aside0.mk (below_step (by repeat (first | (with_reducible first | exact HB.out | apply below_alloc | apply pw_below_drewN | apply below_drew1 | refine below_set ?_ GE465.out) | exact HB.out)) hb); have n2_ := Aside0.mk (hbox); have n3_ := Aside0.mk ((by rw [hg]; exact (below_size (by repeat (first | (with_reducible first | exact HB.out | apply below_alloc | apply pw_below_drewN | apply below_drew1 | refine below_set ?_ GE465.out) | exact HB.out))) : w.heap.size ≤ gb467)); have n4_ := Aside0.mk ((by rw [hg]; exact (below_size (by repeat (first | (with_reducible first | exact HB.out | apply below_alloc | apply pw_below_drewN | apply below_drew1 | refine below_set ?_ GE465.out) | exact HB.out))) : w.heap.size ≤ gb467)); have n5_ := Aside0.mk ((by rw [hg]; exact Nat.ne_of_lt (blk_lt (g := gb465) (o := .cells #[.int .i64 a0_0, .slice (some ad466) l0_1.length c0_1] 32 (0, 0)) (by (with_reducible repeat (first | refine blk_drewN ?_ _ | refine blk_drew ?_ | refine blk_alloc ?_ _)); exact BK465.out)) : gb465 ≠ gb467)); have n6_ := Aside0.mk ((by rw [hg]; exact Nat.ne_of_gt (blk_lt (g := gb465) (o := .cells #[.int .i64 a0_0, .slice (some ad466) l0_1.length c0_1] 32 (0, 0)) (by (with_reducible repeat (first | refine blk_drewN ?_ _ | refine blk_drew ?_ | refine blk_alloc ?_ _)); exact BK465.out)) : gb467 ≠ gb465)); clear BK465; clear HB; have BK465 := n0_; have HB := n1_; have BK467 := n2_; have GW467 := n3_; have GE467 := n4_; have NB465_467 := n5_; have NB467_465 := n6_; clear n0_ n1_ n2_ n3_ n4_ n5_ n6_; clear hb hbox hg; have hnb31 := NB467_465.out; have hnc31 := NB465_467.out; have hcz32_0 : w30.cell? ⟨gb467, 0, none⟩ = some (.int .i64 0) := (blk_cell BK467.out 0).trans rfl; have hcz32_1 : w30.cell? ⟨gb467, 1, none⟩ = some (.int .i64 0) := (blk_cell BK467.out 1).trans rfl; have hfz32_0 := blk_frozen BK467.out 0; have hfz32_1 := blk_frozen BK467.out 1))
              go_roundg k2
              case measure => have := HJ1.out; have := HK2.out; omega
              case rel => exact ⟨(wrap64 (x20_2 + 1)), (by first | rfl | (simp; done) | (simp [*]; done)), H', ⟨by have := HJ1.out; have := HK2.out; omega⟩, ⟨by (with_reducible repeat (first | refine blk_drewN ?_ _ | refine blk_drew ?_ | refine blk_alloc ?_ _)); refine blk_far ?_ NB465_467.out _; (with_reducible repeat (first | refine blk_drewN ?_ _ | refine blk_drew ?_ | refine blk_alloc ?_ _)); refine blk_far ?_ NB465_467.out _; (with_reducible repeat (first | refine blk_drewN ?_ _ | refine blk_drew ?_ | refine blk_alloc ?_ _)); exact BK465.out⟩, ⟨by repeat (first | (with_reducible first | exact HB.out | apply below_alloc | apply pw_below_drewN | apply below_drew1 | refine below_set ?_ GE465.out | refine below_set ?_ GE467.out) | exact HB.out)⟩⟩
         ·rw [if_neg c13] at H
          exact absurd H (by simp)
        ·rw [if_neg c12] at H
         exact absurd H (by simp)
       ·rw [if_neg c11] at H
        have c11b0 : decide (x20_2 < (l0_1.length : Int)) = false := decide_eq_false c11
        clear c11
        obtain rfl := Option.some.inj H
        go_wp2
        go_ret
        exact ⟨by first | rfl | (simp [errW_none, errW_some] <;> rfl) | (simp [*, errW_none, errW_some] <;> rfl), by repeat (first | (with_reducible first | exact HB.out | apply below_alloc | apply pw_below_drewN | apply below_drew1 | refine below_set ?_ GE465.out) | exact HB.out)⟩
end Go.Proofs.Ytodhkbahjomfhaa.Q

namespace Go.Proofs.Ytodhkbahjomfhaa.Q
open Go.RowKit Go.Proofs.YtodhkbahjomfhaaW.PrintWords Go.Proofs.YtodhkbahjomfhaaW.PrintLast Go.Proofs.YtodhkbahjomfhaaW.PrintMore Go.Proofs.Ytodhkbahjomfhaa.Gput Go.Proofs.Ytodhkbahjomfhaa.Gputl
attribute [local go_sem] max2_int min2_int max_two min_two max_three min_three max_four min_four   -- for this text's walks alone
set_option linter.unusedVariables false
set_option linter.unusedSimpArgs false
mutual
noncomputable def storagebarterref08_Decode.j0 : Nat → Int → List Int → Bool → Option (Int × (List (S78)) × Int)
 | 0, _, _, _ => none
 | k + 1, x4, x7, x42 => if x42 = true then (some (0, ([] : List (S78)), 2)) else (storagebarterref08_Decode.l0 k x7 0 x4 ([] : List (S78)))
noncomputable def storagebarterref08_Decode.l0 : Nat → List Int → Int → Int → List (S78) → Option (Int × (List (S78)) × Int)
 | 0, _, _, _, _ => none
 | k + 1, x7, x10, x515000, x515001 => if x10 < (x7.length : Int) then (if 0 ≤ x10 then (if 0 ≤ (wrap64 (x10 + 1)) then (if (wrap64 (x10 + 1)) < (x7.length : Int) then (if x515001.length < 8796093022208 then (storagebarterref08_Decode.l0 k x7 (wrap64 (x10 + 2)) x515000 (x515001 ++ [(⟨rd x7 x10, rd x7 (wrap64 (x10 + 1))⟩ : S78)])) else (none)) else (none)) else (none)) else (none)) else ((storagebarterref08_Check.f k x515000 x515001).bind fun t520 => (if t520 = 0 then (some (x515000, x515001, 0)) else (some (0, ([] : List (S78)), t520))))
end
noncomputable def storagebarterref08_Decode.f (k : Nat) (a0 : ByteArray) : Option (Int × (List (S78)) × Int) := (storagebarterref01_Int.f k a0 0).bind fun bt506 => (if bt506.2.2 = 0 then ((storagebarterref01_List.f k a0 bt506.2.1 512).bind fun bt509 => (if bt509.2.2 = 0 then (if bt509.2.1 = (a0.size : Int) then (storagebarterref08_Decode.j0 k bt506.1 bt509.1 (((bt509.1.length : Int) % 2) != 0)) else (storagebarterref08_Decode.j0 k bt506.1 bt509.1 true)) else (some (0, ([] : List (S78)), bt509.2.2)))) else (some (0, ([] : List (S78)), bt506.2.2)))
noncomputable def storagebarterref08_Decode.T13 : Bool × List (List Nat × List Nat) := (true, [([], []), ([0], [0]), ([], []), ([], []), ([2, 3], [2, 3]), ([4], [4]), ([], []), ([], []), ([7], [7]), ([6, 8], [6, 8]), ([9], [9]), ([5, 10], [5, 10]), ([11], [11]), ([1, 12], [1, 12]), ([0, 1, 2, 3, 4, 5, 6, 7, 8, 9, 10, 11, 12, 13], []), ([14, 13, 13, 0, 1, 2, 3, 4, 5, 6, 7, 8, 9, 10, 11, 12, 13], [13, 14])])
noncomputable def storagebarterref08_Decode.B13 : List Nat := [0, 1, 0, 0, 12, 28, 0, 0, 128, 448, 960, 2044, 4092, 8191, 16383, 32767]
theorem storagebarterref08_Decode.tab13 : rtab .any (opsOf Try.f36 13) = storagebarterref08_Decode.T13 := by kernel_rfl
theorem storagebarterref08_Decode.bits13 : waitsOk storagebarterref08_Decode.T13.2 storagebarterref08_Decode.B13 = true := by kernel_rfl
set_option maxHeartbeats 8000000 in
set_option maxRecDepth 100000 in
theorem storagebarterref08_Decode.calls (k : Nat) (a0 : ByteArray) (r1 : Int) (r2 : List (S78)) (r3 : Int) (w : World) (h : storagebarterref08_Decode.f k a0 = some (r1, r2, r3)) :
 Calls Try.prog 36 #[.string a0] w fun e w' => ∃ v1_ : Value, e = .returned (.tuple #[.agg #[.int .i64 r1, v1_], .int .i64 r3]) ∧ Kd.R k78 78 w' w.heap.size (fun _ => True) v1_ r2 ∧ Below w.heap.size w w' := by
 have hu32 := Try.underlying32
 have hu78 := Try.underlying78
 have HB := Aside0.mk (Below.refl w.heap.size w)
 have H : ((storagebarterref01_Int.f k a0 0).bind fun bt506 => (if bt506.2.2 = 0 then ((storagebarterref01_List.f k a0 bt506.2.1 512).bind fun bt509 => (if bt509.2.2 = 0 then (if bt509.2.1 = (a0.size : Int) then (storagebarterref08_Decode.j0 k bt506.1 bt509.1 (((bt509.1.length : Int) % 2) != 0)) else (storagebarterref08_Decode.j0 k bt506.1 bt509.1 true)) else (some (0, ([] : List (S78)), bt509.2.2)))) else (some (0, ([] : List (S78)), bt506.2.2)))) = some (r1, r2, r3) := h
 clear h
 replace H := Option.bind_eq_some_iff.mp H
 obtain ⟨⟨t506, t507, t508⟩, A20, H⟩ := H
 replace H : (if t508 = 0 then ((storagebarterref01_List.f k a0 t507 512).bind fun bt509 => (if bt509.2.2 = 0 then (if bt509.2.1 = (a0.size : Int) then (storagebarterref08_Decode.j0 k t506 bt509.1 (((bt509.1.length : Int) % 2) != 0)) else (storagebarterref08_Decode.j0 k t506 bt509.1 true)) else (some (0, ([] : List (S78)), bt509.2.2)))) else (some (0, ([] : List (S78)), t508))) = some (r1, r2, r3) := H
 have A2 := Aside0.mk A20
 clear A20
 by_cases c3 : t508 = 0
 ·rw [if_pos c3] at H
  have c3b0 : (t508 == 0) = true := beq_iff_eq.mpr c3
  have c3b1 : (t508 != 0) = false := bne_eq_false_iff_eq.mpr c3
  clear c3
  replace H := Option.bind_eq_some_iff.mp H
  obtain ⟨⟨t509, t510, t511⟩, A40, H⟩ := H
  replace H : (if t511 = 0 then (if t510 = (a0.size : Int) then (storagebarterref08_Decode.j0 k t506 t509 (((t509.length : Int) % 2) != 0)) else (storagebarterref08_Decode.j0 k t506 t509 true)) else (some (0, ([] : List (S78)), t511))) = some (r1, r2, r3) := H
  have A4 := Aside0.mk A40
  clear A40
  by_cases c5 : t511 = 0
  ·rw [if_pos c5] at H
   have c5b0 : (t511 == 0) = true := beq_iff_eq.mpr c5
   have c5b1 : (t511 != 0) = false := bne_eq_false_iff_eq.mpr c5
   clear c5
   have HC6 := Aside0.mk H
   clear H
   go_enter Try.func36, Try.ntmps36
   go_upto_region 7 with (first | ((with_reducible refine gate_dst (N := 2) rfl ?_); (try (refine gate_guard (by rfl) ?_; dsimp only)); refine box_event ?hg (N := 2) ?hd (cs := #[.int .i64 0, .slice none 0 0]) (t := 32) ?hr ?_; (case hd => rfl); (case hg => rfl); (case hr => first | (go_simp; done) | (go_simp; rfl)); intro gb505 hg w7 hbox hb; have n0_ := Aside0.mk (below_step (by repeat (first | (with_reducible first | exact HB.out | apply below_alloc | apply pw_below_drewN | apply below_drew1) | exact HB.out)) hb); have n1_ := Aside0.mk (hbox); have n2_ := Aside0.mk ((by rw [hg]; exact (below_size (by repeat (first | (with_reducible first | exact HB.out | apply below_alloc | apply pw_below_drewN | apply below_drew1) | exact HB.out))) : w.heap.size ≤ gb505)); have n3_ := Aside0.mk ((by rw [hg]; exact (below_size (by repeat (first | (with_reducible first | exact HB.out | apply below_alloc | apply pw_below_drewN | apply below_drew1) | exact HB.out))) : w.heap.size ≤ gb505)); clear HB; have HB := n0_; have BK505 := n1_; have GW505 := n2_; have GE505 := n3_; clear n0_ n1_ n2_ n3_; clear hb hbox hg) | ((with_reducible refine gate_callee (f := 78) rfl ?_); refine goesL_ (some 14) rfl rfl Try.func78 (by kernel_rfl) rfl #[.string a0, .int .i64 0] rfl (by (try simp only [List.map_toArray, List.map_cons, List.map_nil]); first | done | rfl | (simp only [List.length_drop, List.length_take]; rfl)) ?_; (with_reducible refine (storagebarterref01_Int.calls k a0 0 t506 t507 t508 _ A2.out).mono ?_); rintro e w' ⟨rfl, ⟨nd, rfl⟩⟩; refine ⟨_, rfl, ?_⟩; (try (rw [drewN_self w7]; generalize hq_ : World.drewN w7 _ = w7; have n0_ : Aside0 (w7.heap[gb505]? = some (.cells #[.int .i64 0, .slice none 0 0] 32 (0, 0))) := ⟨by rw [← hq_]; exact (by (with_reducible repeat (first | refine blk_drewN ?_ _ | refine blk_drew ?_ | refine blk_alloc ?_ _)); exact BK505.out)⟩; have n1_ : Aside0 (Below w.heap.size w w7) := ⟨by rw [← hq_]; exact (by repeat (first | (with_reducible first | exact HB.out | apply below_alloc | apply pw_below_drewN | apply below_drew1 | refine below_set ?_ GE505.out) | exact HB.out))⟩; clear BK505 HB hq_; have BK505 := n0_; have HB := n1_; clear n0_ n1_))) | ((with_reducible refine gate_callee (f := 79) rfl ?_); refine goesL_ (some 25) rfl rfl Try.func79 (by kernel_rfl) rfl #[.string a0, .int .i64 t507, .int .i64 512] rfl (by (try simp only [List.map_toArray, List.map_cons, List.map_nil]); first | done | rfl | (simp only [List.length_drop, List.length_take]; rfl)) ?_; (with_reducible refine (storagebarterref01_List.calls k a0 t507 512 t509 t510 t511 _ A4.out).mono ?_); rintro e w8 ⟨v512, rfl, ho0, hb⟩; refine ⟨_, rfl, ?_⟩; have n0_ := Aside0.mk (Kd.R_lower ho0 (below_size (by repeat (first | (with_reducible first | exact HB.out | apply below_alloc | apply pw_below_drewN | apply below_drew1 | refine below_set ?_ GE505.out) | exact HB.out)))); have n1_ := Aside0.mk (blk_below (g := gb505) (o := .cells #[.int .i64 0, .slice none 0 0] 32 (0, 0)) (by (with_reducible repeat (first | refine blk_drewN ?_ _ | refine blk_drew ?_ | refine blk_alloc ?_ _)); exact BK505.out) hb); have n2_ := Aside0.mk (below_step (by repeat (first | (with_reducible first | exact HB.out | apply below_alloc | apply pw_below_drewN | apply below_drew1 | refine below_set ?_ GE505.out) | exact HB.out)) hb); clear BK505; clear HB; have HO513 := n0_; have BK505 := n1_; have HB := n2_; clear n0_ n1_ n2_; (try clear hb); (try clear hb2); (try clear hk); (try clear hi); (try clear ho0)))
   (try simp only [Act.put, Sa, Sz, Ss])
   go_cut [42] (fun v42 wc => ∃ (kq : Nat) (x42_5 : Bool), v42 = .bool x42_5 ∧ Aside0 (storagebarterref08_Decode.j0 kq t506 t509 x42_5 = some (r1, r2, r3)) ∧ Aside0 (kq ≤ k) ∧ Aside0 (Kd.R (Kd.int .i64) 3 wc w.heap.size (fun _ => True) v512 t509) ∧ Aside0 (wc.heap[gb505]? = some (.cells #[.int .i64 0, (.slice none 0 0)] 32 (0, 0))) ∧ Aside0 (Below w.heap.size w wc))
   case first =>
    have H := HC6.out
    clear HC6
    by_cases c9 : t510 = (a0.size : Int)
    ·rw [if_pos c9] at H
     have c9b0 : (t510 == (a0.size : Int)) = true := beq_iff_eq.mpr c9
     have c9b1 : (t510 != (a0.size : Int)) = false := bne_eq_false_iff_eq.mpr c9
     clear c9
     (first | rw [c9b0] | (simp only [i64_w, i32_w]; rw [c9b0]) | skip)
     have H' := Aside0.mk H
     clear H
     obtain ⟨Ao10, co10, eo10⟩ := Kd.R_slice HO513.out
     subst eo10
     go_wp2
     go_meet
     case rel => exact ⟨_, ((((t509.length : Int) % 2) != 0)), (by first | rfl | (simp; done) | (simp [*]; done)), H', ⟨by first | omega | exact Nat.le_refl _⟩, ⟨by (with_reducible repeat (first | apply Kd.R_alloc | apply Kd.R_drewN | apply Kd.R_drew)); exact HO513.out⟩, ⟨by (with_reducible repeat (first | refine blk_drewN ?_ _ | refine blk_drew ?_ | refine blk_alloc ?_ _)); exact BK505.out⟩, ⟨by repeat (first | (with_reducible first | exact HB.out | apply below_alloc | apply pw_below_drewN | apply below_drew1 | refine below_set ?_ GE505.out) | exact HB.out)⟩⟩
    ·rw [if_neg c9] at H
     have c9b0 : (t510 == (a0.size : Int)) = false := beq_eq_false_iff_ne.mpr c9
     have c9b1 : (t510 != (a0.size : Int)) = true := bne_iff_ne.mpr c9
     (first | rw [c9b0] | (simp only [i64_w, i32_w]; rw [c9b0]) | skip)
     have H' := Aside0.mk H
     clear H
     go_wp2
     go_meet
     case rel => exact ⟨_, (true), (by first | rfl | (simp; done) | (simp [*]; done)), H', ⟨by first | omega | exact Nat.le_refl _⟩, ⟨by (with_reducible repeat (first | apply Kd.R_alloc | apply Kd.R_drewN | apply Kd.R_drew)); exact HO513.out⟩, ⟨by (with_reducible repeat (first | refine blk_drewN ?_ _ | refine blk_drew ?_ | refine blk_alloc ?_ _)); exact BK505.out⟩, ⟨by repeat (first | (with_reducible first | exact HB.out | apply below_alloc | apply pw_below_drewN | apply below_drew1 | refine below_set ?_ GE505.out) | exact HB.out)⟩⟩
   case rest =>
    clear HC6
    try clear p2
    try clear c3
    try clear c3b0
    try clear c3b1
    try clear c5
    try clear c5b0
    try clear c5b1
    try clear c7
    try clear c9
    try clear c9b0
    try clear c9b1
    obtain ⟨kq, x42_5, rfl, HA, HJ5, HO_7, BK505, HB⟩ := hcut
    cases kq with
    | zero => exact absurd HA.out (by simp [storagebarterref08_Decode.j0])
    | succ kj5 =>
     have H := HA.out
     clear HA
     simp only [storagebarterref08_Decode.j0] at H
     by_cases c11 : x42_5 = true
     ·subst c11
      have H1 : (some (0, ([] : List (S78)), 2)) = some (r1, r2, r3) := by rw [if_pos rfl] at H; exact H
      clear H
      have H := H1
      clear H1
      simp only [Option.some.injEq, Prod.mk.injEq] at H
      obtain ⟨rfl, rfl, rfl⟩ := H
      have hcz12_0 : wc.cell? ⟨gb505, 0, none⟩ = some (.int .i64 0) := (blk_cell BK505.out 0).trans rfl
      have hcz12_1 : wc.cell? ⟨gb505, 1, none⟩ = some (.slice none 0 0) := (blk_cell BK505.out 1).trans rfl
      have hfz12_0 := blk_frozen BK505.out 0
      have hfz12_1 := blk_frozen BK505.out 1
      go_wp2
      refine bodyPost_ret (results_ct rfl _ _ gb505 32 #[.int .i64 0, .slice none 0 0] (0, 0) _ rfl (by (with_reducible repeat (first | refine blk_drewN ?_ _ | refine blk_drew ?_ | refine blk_alloc ?_ _)); refine blk_put (cs := #[.int .i64 0, .slice none 0 0]) ?_ 1 _ rfl; (with_reducible repeat (first | refine blk_drewN ?_ _ | refine blk_drew ?_ | refine blk_alloc ?_ _)); refine blk_put (cs := #[.int .i64 0, .slice none 0 0]) ?_ 0 _ rfl; (with_reducible repeat (first | refine blk_drewN ?_ _ | refine blk_drew ?_ | refine blk_alloc ?_ _)); exact BK505.out) Try.underlying32 rfl (by kernel_rfl)) rfl ?_
      exact ⟨_, by first | rfl | (simp [errW_none, errW_some] <;> rfl) | (simp [*, errW_none, errW_some] <;> rfl), by first | exact Kd.R_nil _ _ _ _ _ | exact Kd.N_nil _ _ _ _ _ | exact Kd.V_nil _ _ _ _ _ | exact Kd.Q_nil _ _ _ _ _ | exact Kd.S_nil _ _ _ _ _, by repeat (first | (with_reducible first | exact HB.out | apply below_alloc | apply pw_below_drewN | apply below_drew1 | refine below_set ?_ GE505.out) | exact HB.out)⟩
     ·replace c11 := Bool.eq_false_iff.mpr c11
      subst c11
      have H1 : (storagebarterref08_Decode.l0 kj5 t509 0 t506 ([] : List (S78))) = some (r1, r2, r3) := by rw [if_neg (show ¬ (false = true) by decide)] at H; exact H
      clear H
      have H := H1
      clear H1
      have H' := Aside0.mk H
      clear H
      go_wp2_with (first | ((with_reducible refine gate_dst (N := 9) rfl ?_); (try (refine gate_guard (by rfl) ?_; dsimp only)); refine box_event ?hg (N := 9) ?hd (cs := #[.int .i64 0, .slice none 0 0]) (t := 32) ?hr ?_; (case hd => rfl); (case hg => rfl); (case hr => first | (go_simp; done) | (go_simp; rfl)); intro gb514 hg w13 hbox hb; have n0_ := Aside0.mk (Kd.R_below (by (with_reducible repeat (first | apply Kd.R_alloc | apply Kd.R_drewN | apply Kd.R_drew)); exact HO_7.out) hb); have n1_ := Aside0.mk (blk_below (g := gb505) (o := .cells #[.int .i64 0, .slice none 0 0] 32 (0, 0)) (by (with_reducible repeat (first | refine blk_drewN ?_ _ | refine blk_drew ?_ | refine blk_alloc ?_ _)); exact BK505.out) hb); have n2_ := Aside0.mk (below_step (by repeat (first | (with_reducible first | exact HB.out | apply below_alloc | apply pw_below_drewN | apply below_drew1 | refine below_set ?_ GE505.out) | exact HB.out)) hb); have n3_ := Aside0.mk (hbox); have n4_ := Aside0.mk ((by rw [hg]; exact (below_size (by repeat (first | (with_reducible first | exact HB.out | apply below_alloc | apply pw_below_drewN | apply below_drew1 | refine below_set ?_ GE505.out) | exact HB.out))) : w.heap.size ≤ gb514)); have n5_ := Aside0.mk ((by rw [hg]; exact (below_size (by repeat (first | (with_reducible first | exact HB.out | apply below_alloc | apply pw_below_drewN | apply below_drew1 | refine below_set ?_ GE505.out) | exact HB.out))) : w.heap.size ≤ gb514)); have n6_ := Aside0.mk ((by rw [hg]; exact Nat.ne_of_lt (blk_lt (g := gb505) (o := .cells #[.int .i64 0, .slice none 0 0] 32 (0, 0)) (by (with_reducible repeat (first | refine blk_drewN ?_ _ | refine blk_drew ?_ | refine blk_alloc ?_ _)); exact BK505.out)) : gb505 ≠ gb514)); have n7_ := Aside0.mk ((by rw [hg]; exact Nat.ne_of_gt (blk_lt (g := gb505) (o := .cells #[.int .i64 0, .slice none 0 0] 32 (0, 0)) (by (with_reducible repeat (first | refine blk_drewN ?_ _ | refine blk_drew ?_ | refine blk_alloc ?_ _)); exact BK505.out)) : gb514 ≠ gb505)); clear HO_7; clear BK505; clear HB; have HO_7 := n0_; have BK505 := n1_; have HB := n2_; have BK514 := n3_; have GW514 := n4_; have GE514 := n5_; have NB505_514 := n6_; have NB514_505 := n7_; clear n0_ n1_ n2_ n3_ n4_ n5_ n6_ n7_; clear hb hbox hg; have hnb14 := NB514_505.out; have hnc14 := NB505_514.out; have hcz15_0 : w13.cell? ⟨gb514, 0, none⟩ = some (.int .i64 0) := (blk_cell BK514.out 0).trans rfl; have hcz15_1 : w13.cell? ⟨gb514, 1, none⟩ = some (.slice none 0 0) := (blk_cell BK514.out 1).trans rfl; have hfz15_0 := blk_frozen BK514.out 0; have hfz15_1 := blk_frozen BK514.out 1))
      go_loopg [10] kj5 (fun kq v10 w' => ∃ (x10_2 : Int) (x515001_2 : List (S78)) (u515001 : Value), v10 = .int .i64 x10_2 ∧ Aside0 (storagebarterref08_Decode.l0 kq t509 x10_2 t506 x515001_2 = some (r1, r2, r3)) ∧ Aside0 (kq ≤ kj5) ∧ Aside0 (Kd.R (Kd.int .i64) 3 w' w.heap.size (fun _ => True) v512 t509) ∧ Aside0 (Kd.R k78 78 w' w.heap.size (fun _ => True) u515001 x515001_2) ∧ Aside0 (w'.heap[gb505]? = some (.cells #[.int .i64 0, (.slice none 0 0)] 32 (0, 0))) ∧ Aside0 (w'.heap[gb514]? = some (.cells #[.int .i64 t506, u515001] 32 (0, 0))) ∧ Aside0 (Below w.heap.size w w'))
      case atStart => exact ⟨(0), (([] : List (S78))), (.slice none 0 0), (by first | rfl | (simp; done) | (simp [*]; done)), H', ⟨Nat.le_refl _⟩, ⟨by (with_reducible repeat (first | apply Kd.R_alloc | apply Kd.R_drewN | apply Kd.R_drew)); exact Kd.R_mono (Kd.R_far (p := ⟨gb514, 1, none⟩) (Kd.R_far (p := ⟨gb514, 0, none⟩) (Kd.R_types HO_7.out BK514.out (by decide)) (fun _ hk => hk.2) (.int .i64 t506)) (fun _ hk => hk.2) (.slice none 0 0)) (fun _ hk => trivial)⟩, ⟨by first | exact Kd.R_nil _ _ _ _ _ | exact Kd.N_nil _ _ _ _ _ | exact Kd.V_nil _ _ _ _ _ | exact Kd.Q_nil _ _ _ _ _ | exact Kd.S_nil _ _ _ _ _⟩, ⟨by (with_reducible repeat (first | refine blk_drewN ?_ _ | refine blk_drew ?_ | refine blk_alloc ?_ _)); refine blk_far ?_ NB505_514.out _; (with_reducible repeat (first | refine blk_drewN ?_ _ | refine blk_drew ?_ | refine blk_alloc ?_ _)); refine blk_far ?_ NB505_514.out _; (with_reducible repeat (first | refine blk_drewN ?_ _ | refine blk_drew ?_ | refine blk_alloc ?_ _)); exact BK505.out⟩, ⟨by (with_reducible repeat (first | refine blk_drewN ?_ _ | refine blk_drew ?_ | refine blk_alloc ?_ _)); refine blk_put (cs := #[.int .i64 t506, .slice none 0 0]) ?_ 1 _ rfl; (with_reducible repeat (first | refine blk_drewN ?_ _ | refine blk_drew ?_ | refine blk_alloc ?_ _)); refine blk_put (cs := #[.int .i64 0, .slice none 0 0]) ?_ 0 _ rfl; (with_reducible repeat (first | refine blk_drewN ?_ _ | refine blk_drew ?_ | refine blk_alloc ?_ _)); exact BK514.out⟩, ⟨by repeat (first | (with_reducible first | exact HB.out | apply below_alloc | apply pw_below_drewN | apply below_drew1 | refine below_set ?_ GE505.out | refine below_set ?_ GE514.out) | exact HB.out)⟩⟩
      case round =>
       clear H'
       try clear c1
       try clear p2
       try clear c3
       try clear c3b0
       try clear c3b1
       try clear c5
       try clear c5b0
       try clear c5b1
       try clear c7
       try clear c9
       try clear c9b0
       try clear c9b1
       try clear c11
       try clear c14
       try clear hcz12_0
       try clear hcz12_1
       try clear hcz15_0
       try clear hcz15_1
       try clear hfz12_0
       try clear hfz12_1
       try clear hfz15_0
       try clear hfz15_1
       try clear p2
       obtain ⟨x10_2, x515001_2, u515001, rfl, HA, HK2, HO_7, HO_515001, BK505, BK514, HB⟩ := hrel
       cases gk with
       | zero => exact absurd HA.out (by simp [storagebarterref08_Decode.l0])
       | succ k2 =>
        have H := HA.out
        clear HA
        simp only [storagebarterref08_Decode.l0] at H
        by_cases c16 : x10_2 < (t509.length : Int)
        ·rw [if_pos c16] at H
         have c16b0 : decide (x10_2 < (t509.length : Int)) = true := decide_eq_true c16
         clear c16
         by_cases c17 : 0 ≤ x10_2
         ·rw [if_pos c17] at H
          have c17b0 : decide (0 ≤ x10_2) = true := decide_eq_true c17
          clear c17
          obtain ⟨ji18, hji18⟩ : ∃ j_ : Int, (wrap64 (x10_2 + 1)) = j_ := ⟨_, rfl⟩
          replace H : (if 0 ≤ (ji18) then (if (ji18) < (t509.length : Int) then (if x515001_2.length < 8796093022208 then (storagebarterref08_Decode.l0 k2 t509 (wrap64 (x10_2 + 2)) t506 (x515001_2 ++ [(⟨rd t509 x10_2, rd t509 (ji18)⟩ : S78)])) else (none)) else (none)) else (none)) = some (r1, r2, r3) := by first | (rw [hji18] at H; exact H) | (simp only [hji18] at H ⊢; exact H)
          have hji18w : (IntKind.i64.wrap (x10_2 + 1)) = ji18 := (i64_w _).trans hji18
          by_cases c19 : 0 ≤ (ji18)
          ·rw [if_pos c19] at H
           have c19b0 : decide (0 ≤ (ji18)) = true := decide_eq_true c19
           clear c19
           by_cases c20 : (ji18) < (t509.length : Int)
           ·rw [if_pos c20] at H
            have c20b0 : decide ((ji18) < (t509.length : Int)) = true := decide_eq_true c20
            clear c20
            by_cases c21 : x515001_2.length < 8796093022208
            ·rw [if_pos c21] at H
             have LMc21 := Aside0.mk c21
             clear c21
             obtain ⟨y517, hy517⟩ : ∃ y_ : List (S78), y_ = (x515001_2 ++ [(⟨rd t509 x10_2, rd t509 (ji18)⟩ : S78)]) := ⟨_, rfl⟩
             replace H : (storagebarterref08_Decode.l0 k2 t509 (wrap64 (x10_2 + 2)) t506 y517) = some (r1, r2, r3) := by first | (rw [hy517]; with_reducible exact H) | (have H2_ := (Option.bind_some _ _).symm.trans H; rw [hy517]; with_reducible exact H2_) | (have H2_ := (Option.bind_some _ _).symm.trans H; with_reducible exact H2_) | with_reducible exact H | (rw [hy517]; exact H) | exact H
             have Ny517 := Aside0.mk hy517
             clear hy517
             have H' := Aside0.mk H
             clear H
             obtain ⟨Ao22, co22, eo22⟩ := Kd.R_slice HO_7.out
             subst eo22
             try go_wp2
             have n0_ := Aside0.mk (Kd.R_drew HO_7.out)
             have n1_ := Aside0.mk (Kd.R_drew HO_515001.out)
             have n2_ := Aside0.mk (blk_drew BK505.out)
             have n3_ := Aside0.mk (blk_drew BK514.out)
             have n4_ := Aside0.mk (below_drew1 HB.out)
             clear HO_7
             clear HO_515001
             clear BK505
             clear BK514
             clear HB
             have HO_7 := n0_
             have HO_515001 := n1_
             have BK505 := n2_
             have BK514 := n3_
             have HB := n4_
             clear n0_ n1_ n2_ n3_ n4_
             have p515 : 0 ≤ (x10_2 : Int) := of_decide_eq_true (by first | (with_reducible assumption) | assumption)
             have q515 : x10_2 < (t509.length : Int) := of_decide_eq_true (by first | (with_reducible assumption) | assumption)
             obtain ⟨ad515, e515, hx515_0⟩ := Kd.at_int (Kd.R_reads' HO_7.out).2.2 x10_2 p515 q515
             cases e515
             replace p515 := eq_true p515
             replace q515 := eq_true q515
             have p516 : 0 ≤ ((ji18) : Int) := of_decide_eq_true (by first | (with_reducible assumption) | assumption)
             have q516 : (ji18) < (t509.length : Int) := of_decide_eq_true (by first | (with_reducible assumption) | assumption)
             obtain ⟨ad516, e516, hx516_0⟩ := Kd.at_int (Kd.R_reads' HO_7.out).2.2 (ji18) p516 q516
             obtain rfl : ad515 = ad516 := (by injection e516)
             replace p516 := eq_true p516
             replace q516 := eq_true q516
             refine start_ (n := 16) (S := fun w' => w'.cell? ⟨gb514, 0, none⟩ = some (.int .i64 t506) ∧ w'.cell? ⟨gb514, 1, none⟩ = some (u515001) ∧ w'.cell? (ad515.add (x10_2).toNat) = some (.int .i64 (rd t509 x10_2)) ∧ w'.cell? (ad515.add ((ji18)).toNat) = some (.int .i64 (rd t509 (ji18)))) (ds := [13, 15]) #[false, false, false, false, false, false, false, false, false, false, false, false, false, false, false, false] (by kernel_rfl) rfl rfl ⟨(blk_cell BK514.out 0).trans rfl, (blk_cell BK514.out 1).trans rfl, hx515_0, hx516_0⟩ (fun hHeld => ?_); refine with_tabW storagebarterref08_Decode.tab13 storagebarterref08_Decode.bits13 (fun HT_ HW_ => ?_)
             generalize wr.drew = w23 at HO_7 HO_515001 BK505 BK514 HB hx515_0 hx516_0 hHeld ⊢
             refine pu 0 52 (v := ?_) (a' := ?_) HT_ rfl rfl (by kernel_rfl) (fun _ _ _ h => h) (Or.inl ⟨by rfl, ?_⟩) ?_ ?_
             rotate_left; (intro w'; go_simp; with_reducible rfl); rotate_left; (simp only [Act.put, Sa, Sz, Ss, i64_w, i32_w]; rfl)
             refine pu 2 54 (v := ?_) (a' := ?_) HT_ rfl rfl (by kernel_rfl) (fun _ _ _ h => h) (Or.inl ⟨by rfl, ?_⟩) ?_ ?_
             rotate_left; (intro w'; go_simp; with_reducible rfl); rotate_left; (simp only [Act.put, Sa, Sz, Ss, i64_w, i32_w]; rfl)
             refine pu 3 55 (v := ?_) (a' := ?_) HT_ rfl rfl (by kernel_rfl) (fun _ _ _ h => h) (Or.inl ⟨by rfl, ?_⟩) ?_ ?_
             rotate_left; (intro w'; go_simp; with_reducible rfl); rotate_left; (simp only [Act.put, Sa, Sz, Ss, i64_w, i32_w]; rfl)
             refine pu 4 56 (v := ?_) (a' := ?_) HT_ rfl rfl (by kernel_rfl) (fun _ _ _ h => h) (Or.inl ⟨by rfl, ?_⟩) ?_ ?_
             rotate_left; (intro w'; go_simp; with_reducible rfl); rotate_left; (simp only [Act.put, Sa, Sz, Ss, i64_w, i32_w]; rfl)
             refine pu 6 58 (v := ?_) (a' := ?_) HT_ rfl rfl (by kernel_rfl) (fun _ _ _ h => h) (Or.inl ⟨by rfl, ?_⟩) ?_ ?_
             rotate_left; (intro w'; go_simp; with_reducible rfl); rotate_left; (simp only [Act.put, Sa, Sz, Ss, i64_w, i32_w]; rfl)
             refine pu 7 59 (v := ?_) (a' := ?_) HT_ rfl rfl (by kernel_rfl) (fun _ _ _ h => h) (Or.inl ⟨by rfl, ?_⟩) ?_ ?_
             rotate_left; (intro w'; go_simp; with_reducible rfl); rotate_left; (simp only [Act.put, Sa, Sz, Ss, i64_w, i32_w]; rfl)
             refine pu 8 60 (v := ?_) (a' := ?_) HT_ rfl rfl (by kernel_rfl) (fun _ _ _ h => h) (Or.inl ⟨by rfl, ?_⟩) ?_ ?_
             rotate_left; (intro w'; go_simp; with_reducible rfl); rotate_left; (simp only [Act.put, Sa, Sz, Ss, i64_w, i32_w]; rfl)
             refine pu 9 61 (v := ?_) (a' := ?_) HT_ rfl rfl (by kernel_rfl) (fun _ _ _ h => h) (Or.inl ⟨by rfl, ?_⟩) ?_ ?_
             rotate_left; (intro w'; go_simp; with_reducible rfl); rotate_left; (simp only [Act.put, Sa, Sz, Ss, i64_w, i32_w]; rfl)
             refine tk 1 53 (v := ?_) (a' := ?_) HT_ HW_ rfl rfl (by kernel_rfl) (fun _ _ _ h => h) (Or.inl ⟨by rfl, ?_⟩) hHeld ?_ ?_
             rotate_left; (rintro w' ⟨s0, s1, s2, s3⟩; go_simp; with_reducible rfl); rotate_left; (simp only [Act.put, Sa, Sz, Ss, i64_w, i32_w]; rfl)
             refine tk 5 57 (v := ?_) (a' := ?_) HT_ HW_ rfl rfl (by kernel_rfl) (fun _ _ _ h => h) (Or.inl ⟨by rfl, ?_⟩) hHeld ?_ ?_
             rotate_left; (rintro w' ⟨s0, s1, s2, s3⟩; go_simp; with_reducible rfl); rotate_left; (simp only [Act.put, Sa, Sz, Ss, i64_w, i32_w]; rfl)
             refine tk 10 62 (v := ?_) (a' := ?_) HT_ HW_ rfl rfl (by kernel_rfl) (fun _ _ _ h => h) (Or.inl ⟨by rfl, ?_⟩) hHeld ?_ ?_
             rotate_left; (rintro w' ⟨s0, s1, s2, s3⟩; go_simp; with_reducible rfl); rotate_left; (simp only [Act.put, Sa, Sz, Ss, i64_w, i32_w]; rfl)
             refine pu 11 63 (v := ?_) (a' := ?_) HT_ rfl rfl (by kernel_rfl) (fun _ _ _ h => h) (Or.inl ⟨by rfl, ?_⟩) ?_ ?_
             rotate_left; (intro w'; go_simp; with_reducible rfl); rotate_left; (simp only [Act.put, Sa, Sz, Ss, i64_w, i32_w]; rfl)
             refine one_ (i := 12) (N := some 64) #[true, true, true, true, true, true, true, true, true, true, true, true, true, false, false, false] rfl rfl (one_of HT_.out (by kernel_rfl)) (by decide) (fun K hK => ?_)
             refine value_ (w1 := ?_) (v := ?_) (by rfl) rfl ?_ ?_
             rotate_left 2
             ·go_simp
              constructor
              ·rfl
              ·rfl
             refine hK.out _ _ ⟨(blk_cell (blk_alloc BK514.out _) 0).trans rfl, (blk_cell (blk_alloc BK514.out _) 1).trans rfl, (World.cell?_alloc_lt _ _ _ (World.block_lt_of_cell? _ _ (hHeld.2.2.1))).trans (hHeld.2.2.1), (World.cell?_alloc_lt _ _ _ (World.block_lt_of_cell? _ _ (hHeld.2.2.2))).trans (hHeld.2.2.2)⟩ (fun hHeld => ?_)
             clear hK K
             refine norm_ (a' := ?_) ?_ ?_
             rotate_left
             ·show Act.put _ (some 64) _ = _
              simp only [Act.put, Sa, Sz, Ss, i64_w, i32_w]
              rfl
             refine last_ (i := 13) (N := some 65) #[true, true, true, true, true, true, true, true, true, true, true, true, true, true, false, false] rfl rfl (one_of HT_.out (by kernel_rfl)) (by decide) (fun K hK => ?_)
             refine Kd.R_append_step k78 (w0 := w) w.heap.size (by rfl) (.tmp 53) (.tmp 64) 30 78 (.agg #[(.int .i64 0), (.int .i64 0)]) 16 rfl Try.underlying30 info78 rfl (by decide) (by omega) u515001 x515001_2 (⟨rd t509 x10_2, rd t509 (ji18)⟩ : S78) [.int .i64 (rd t509 x10_2), .int .i64 (rd t509 (ji18))] (fun _ => True) (fun _ => False) rfl rfl ?aP (fun _ hk => hk.elim) ?aF ?aO ?aB ?aS ?aL ?_
             (case aP => exact k78_mkM _ _ _ (⟨rd t509 x10_2, rd t509 (ji18)⟩ : S78))
             (case aB => exact (by repeat (first | (with_reducible first | exact HB.out | apply below_alloc | apply pw_below_drewN | apply below_drew1 | refine below_set ?_ GE505.out | refine below_set ?_ GE514.out) | exact HB.out)))
             (case aF => exact (fun _ _ => trivial))
             (case aO => exact (by (with_reducible repeat (first | apply Kd.R_alloc | apply Kd.R_drewN | apply Kd.R_drew)); exact HO_515001.out))
             (case aS => exact (below_size (by repeat (first | (with_reducible first | exact HB.out | apply below_alloc | apply pw_below_drewN | apply below_drew1 | refine below_set ?_ GE505.out | refine below_set ?_ GE514.out) | exact HB.out))))
             (case aL => have := LMc21.out; omega)
             intro v518 w24 ho hb hg hat
             rw [← Ny517.out] at ho
             have n0_ := Aside0.mk (Kd.R_over' (by (with_reducible repeat (first | apply Kd.R_alloc | apply Kd.R_drewN | apply Kd.R_drew)); exact HO_7.out) (Kd.R_typed (by (with_reducible repeat (first | apply Kd.R_alloc | apply Kd.R_drewN | apply Kd.R_drew)); exact HO_515001.out)) (by decide) hg)
             have n1_ := Aside0.mk (blk_grown (g := gb505) (o := .cells #[.int .i64 0, .slice none 0 0] 32 (0, 0)) (by (with_reducible repeat (first | refine blk_drewN ?_ _ | refine blk_drew ?_ | refine blk_alloc ?_ _)); exact BK505.out) hg (Kd.R_ne HO_515001.out BK505.out (by decide)))
             have n2_ := Aside0.mk (blk_grown (g := gb514) (o := .cells #[.int .i64 t506, u515001] 32 (0, 0)) (by (with_reducible repeat (first | refine blk_drewN ?_ _ | refine blk_drew ?_ | refine blk_alloc ?_ _)); exact BK514.out) hg (Kd.R_ne HO_515001.out BK514.out (by decide)))
             have n3_ := Aside0.mk (hb)
             have n4_ := Aside0.mk (ho)
             clear HO_7
             clear BK505
             clear BK514
             clear HB
             clear HO_515001
             have HO_7 := n0_
             have BK505 := n1_
             have BK514 := n2_
             have HB := n3_
             have HO519 := n4_
             clear n0_ n1_ n2_ n3_ n4_
             clear ho hb hg hat
             obtain ⟨Ao25, co25, eo25⟩ := Kd.R_slice HO519.out
             (first | subst eo25 | (injection eo25 with f1_ f2_ f3_; have f4_ := f1_.symm; have f5_ := f3_.symm; clear f1_ f2_ f3_; subst f4_; subst f5_))
             refine hK.out _ _ ?_
             clear hK K
             refine norm_ (a' := ?_) ?_ ?_
             rotate_left
             ·show Act.put _ (some 65) _ = _
              simp only [Act.put, Sa, Sz, Ss, i64_w, i32_w]
              rfl
             refine pu 14 66 (v := ?_) (a' := ?_) HT_ rfl rfl (by kernel_rfl) (fun _ _ _ h => h) (Or.inl ⟨by rfl, ?_⟩) ?_ ?_
             rotate_left; (intro w'; go_simp; with_reducible rfl); rotate_left; (simp only [Act.put, Sa, Sz, Ss, i64_w, i32_w]; rfl)
             refine last_ (i := 15) (N := none) #[true, true, true, true, true, true, true, true, true, true, true, true, true, true, true, true] rfl rfl (one_of HT_.out (by kernel_rfl)) (by decide) (fun K hK => ?_)
             have hs26 : w24.cell? ⟨gb514, 1, none⟩ = some (u515001) := (blk_cell BK514.out 1).trans rfl
             have hfs26 := blk_frozen BK514.out 1
             have hns26_0 := NB505_514.out
             have hms26_0 := NB514_505.out
             refine skip_ (w1 := ?_) (by rfl) rfl ?_ ?_
             rotate_left
             ·go_simp
              rfl
             refine hK.out _ _ ?_
             clear hK K
             refine done_ (done_of HT_.out (by kernel_rfl)) ?_
             try go_wp2
             go_roundg k2
             case measure => have := HJ5.out; have := HK2.out; omega
             case rel => exact ⟨(wrap64 (x10_2 + 2)), (y517), (.slice Ao25 y517.length co25), (by first | rfl | (simp; done) | (simp [*]; done)), H', ⟨by have := HJ5.out; have := HK2.out; omega⟩, ⟨by (with_reducible repeat (first | apply Kd.R_alloc | apply Kd.R_drewN | apply Kd.R_drew)); exact Kd.R_mono (Kd.R_far (p := ⟨gb514, 1, none⟩) (Kd.R_types HO_7.out BK514.out (by decide)) (fun _ hk => hk.2) (.slice Ao25 y517.length co25)) (fun _ hk => trivial)⟩, ⟨by (with_reducible repeat (first | apply Kd.R_alloc | apply Kd.R_drewN | apply Kd.R_drew)); exact Kd.R_mono (Kd.R_far (p := ⟨gb514, 1, none⟩) (Kd.R_types HO519.out BK514.out (by decide)) (fun _ hk => hk.2) (.slice Ao25 y517.length co25)) (fun _ hk => trivial)⟩, ⟨by (with_reducible repeat (first | refine blk_drewN ?_ _ | refine blk_drew ?_ | refine blk_alloc ?_ _)); refine blk_far ?_ NB505_514.out _; (with_reducible repeat (first | refine blk_drewN ?_ _ | refine blk_drew ?_ | refine blk_alloc ?_ _)); exact BK505.out⟩, ⟨by (with_reducible repeat (first | refine blk_drewN ?_ _ | refine blk_drew ?_ | refine blk_alloc ?_ _)); refine blk_put (cs := #[.int .i64 t506, u515001]) ?_ 1 _ rfl; (with_reducible repeat (first | refine blk_drewN ?_ _ | refine blk_drew ?_ | refine blk_alloc ?_ _)); exact BK514.out⟩, ⟨by repeat (first | (with_reducible first | exact HB.out | apply below_alloc | apply pw_below_drewN | apply below_drew1 | refine below_set ?_ GE505.out | refine below_set ?_ GE514.out) | exact HB.out)⟩⟩
            ·rw [if_neg c21] at H
             exact absurd H (by simp)
           ·rw [if_neg c20] at H
            exact absurd H (by simp)
          ·rw [if_neg c19] at H
           exact absurd H (by simp)
         ·rw [if_neg c17] at H
          exact absurd H (by simp)
        ·rw [if_neg c16] at H
         have c16b0 : decide (x10_2 < (t509.length : Int)) = false := decide_eq_false c16
         clear c16
         replace H := Option.bind_eq_some_iff.mp H
         obtain ⟨t520, A270, H⟩ := H
         replace H : (if t520 = 0 then (some (t506, x515001_2, 0)) else (some (0, ([] : List (S78)), t520))) = some (r1, r2, r3) := H
         have A27 := Aside0.mk A270
         clear A270
         by_cases c28 : t520 = 0
         ·rw [if_pos c28] at H
          have c28b0 : (t520 == 0) = true := beq_iff_eq.mpr c28
          have c28b1 : (t520 != 0) = false := bne_eq_false_iff_eq.mpr c28
          clear c28
          simp only [Option.some.injEq, Prod.mk.injEq] at H
          obtain ⟨rfl, rfl, rfl⟩ := H
          obtain ⟨Ao29, co29, eo29⟩ := Kd.R_slice HO_7.out
          subst eo29
          have hnb30 := NB514_505.out
          have hnc30 := NB505_514.out
          have hcz31_0 : wr.cell? ⟨gb514, 0, none⟩ = some (.int .i64 t506) := (blk_cell BK514.out 0).trans rfl
          have hcz31_1 : wr.cell? ⟨gb514, 1, none⟩ = some (u515001) := (blk_cell BK514.out 1).trans rfl
          have hfz31_0 := blk_frozen BK514.out 0
          have hfz31_1 := blk_frozen BK514.out 1
          obtain ⟨Ao32, co32, eo32⟩ := Kd.R_slice HO_515001.out
          subst eo32
          go_wp2_with (first | ((with_reducible refine gate_callee (f := 57) rfl ?_); refine goesL_ (some 68) rfl rfl Try.func57 (by kernel_rfl) rfl #[.agg #[.int .i64 t506, .slice Ao32 x515001_2.length co32]] rfl (by (try simp only [List.map_toArray, List.map_cons, List.map_nil]); first | done | rfl | (simp only [List.length_drop, List.length_take]; rfl)) ?_; (with_reducible refine (storagebarterref08_Check.calls k2 t506 _ _ x515001_2 t520 _ ?side1 ?side2 A27.out).mono ?_); (case side1 => repeat (first | exact (Kd.R_reads' HO_515001.out).2.2 | (with_reducible refine Kd.C_alloc ?_ _) | (with_reducible refine Kd.C_drewN ?_ _) | (with_reducible refine Kd.C_drew ?_))); (case side2 => exact (Kd.R_reads' HO_515001.out).2.1); rintro e w33 ⟨rfl, hb⟩; refine ⟨_, rfl, ?_⟩; have n0_ := Aside0.mk (Kd.R_below (by (with_reducible repeat (first | apply Kd.R_alloc | apply Kd.R_drewN | apply Kd.R_drew)); exact HO_7.out) hb); have n1_ := Aside0.mk (Kd.R_below (by (with_reducible repeat (first | apply Kd.R_alloc | apply Kd.R_drewN | apply Kd.R_drew)); exact HO_515001.out) hb); have n2_ := Aside0.mk (blk_below (g := gb505) (o := .cells #[.int .i64 0, .slice none 0 0] 32 (0, 0)) (by (with_reducible repeat (first | refine blk_drewN ?_ _ | refine blk_drew ?_ | refine blk_alloc ?_ _)); exact BK505.out) hb); have n3_ := Aside0.mk (blk_below (g := gb514) (o := .cells #[.int .i64 t506, .slice Ao32 x515001_2.length co32] 32 (0, 0)) (by (with_reducible repeat (first | refine blk_drewN ?_ _ | refine blk_drew ?_ | refine blk_alloc ?_ _)); exact BK514.out) hb); have n4_ := Aside0.mk (below_step (by repeat (first | (with_reducible first | exact HB.out | apply below_alloc | apply pw_below_drewN | apply below_drew1 | refine below_set ?_ GE505.out | refine below_set ?_ GE514.out) | exact HB.out)) hb); clear HO_7; clear HO_515001; clear BK505; clear BK514; clear HB; have HO_7 := n0_; have HO_515001 := n1_; have BK505 := n2_; have BK514 := n3_; have HB := n4_; clear n0_ n1_ n2_ n3_ n4_; (try clear hb); (try clear hb2); (try clear hk); (try clear hi); have hcz34_0 : w33.cell? ⟨gb514, 0, none⟩ = some (.int .i64 t506) := (blk_cell BK514.out 0).trans rfl; have hcz34_1 : w33.cell? ⟨gb514, 1, none⟩ = some (.slice Ao32 x515001_2.length co32) := (blk_cell BK514.out 1).trans rfl; have hfz34_0 := blk_frozen BK514.out 0; have hfz34_1 := blk_frozen BK514.out 1; have hcz35_0 : w33.cell? ⟨gb505, 0, none⟩ = some (.int .i64 0) := (blk_cell BK505.out 0).trans rfl; have hcz35_1 : w33.cell? ⟨gb505, 1, none⟩ = some (.slice none 0 0) := (blk_cell BK505.out 1).trans rfl; have hfz35_0 := blk_frozen BK505.out 0; have hfz35_1 := blk_frozen BK505.out 1))
          refine bodyPost_ret (results_ct rfl _ _ gb505 32 #[.int .i64 t506, .slice Ao32 x515001_2.length co32] (0, 0) _ rfl (by (with_reducible repeat (first | refine blk_drewN ?_ _ | refine blk_drew ?_ | refine blk_alloc ?_ _)); refine blk_put (cs := #[.int .i64 t506, .slice none 0 0]) ?_ 1 _ rfl; (with_reducible repeat (first | refine blk_drewN ?_ _ | refine blk_drew ?_ | refine blk_alloc ?_ _)); refine blk_put (cs := #[.int .i64 0, .slice none 0 0]) ?_ 0 _ rfl; (with_reducible repeat (first | refine blk_drewN ?_ _ | refine blk_drew ?_ | refine blk_alloc ?_ _)); exact BK505.out) Try.underlying32 rfl (by kernel_rfl)) rfl ?_
          exact ⟨_, by first | rfl | (simp [errW_none, errW_some] <;> rfl) | (simp [*, errW_none, errW_some] <;> rfl), by (with_reducible repeat (first | apply Kd.R_alloc | apply Kd.R_drewN | apply Kd.R_drew)); exact Kd.R_mono (Kd.R_far (p := ⟨gb505, 1, none⟩) (Kd.R_far (p := ⟨gb505, 0, none⟩) (Kd.R_types HO_515001.out BK505.out (by decide)) (fun _ hk => hk.2) (.int .i64 t506)) (fun _ hk => hk.2) (.slice Ao32 x515001_2.length co32)) (fun _ hk => trivial), by repeat (first | (with_reducible first | exact HB.out | apply below_alloc | apply pw_below_drewN | apply below_drew1 | refine below_set ?_ GE505.out | refine below_set ?_ GE514.out) | exact HB.out)⟩
         ·rw [if_neg c28] at H
          have c28b0 : (t520 == 0) = false := beq_eq_false_iff_ne.mpr c28
          have c28b1 : (t520 != 0) = true := bne_iff_ne.mpr c28
          simp only [Option.some.injEq, Prod.mk.injEq] at H
          obtain ⟨rfl, rfl, rfl⟩ := H
          obtain ⟨Ao36, co36, eo36⟩ := Kd.R_slice HO_7.out
          subst eo36
          have hnb37 := NB514_505.out
          have hnc37 := NB505_514.out
          have hcz38_0 : wr.cell? ⟨gb514, 0, none⟩ = some (.int .i64 t506) := (blk_cell BK514.out 0).trans rfl
          have hcz38_1 : wr.cell? ⟨gb514, 1, none⟩ = some (u515001) := (blk_cell BK514.out 1).trans rfl
          have hfz38_0 := blk_frozen BK514.out 0
          have hfz38_1 := blk_frozen BK514.out 1
          obtain ⟨Ao39, co39, eo39⟩ := Kd.R_slice HO_515001.out
          subst eo39
          go_wp2_with (first | ((with_reducible refine gate_callee (f := 57) rfl ?_); refine goesL_ (some 68) rfl rfl Try.func57 (by kernel_rfl) rfl #[.agg #[.int .i64 t506, .slice Ao39 x515001_2.length co39]] rfl (by (try simp only [List.map_toArray, List.map_cons, List.map_nil]); first | done | rfl | (simp only [List.length_drop, List.length_take]; rfl)) ?_; (with_reducible refine (storagebarterref08_Check.calls k2 t506 _ _ x515001_2 t520 _ ?side1 ?side2 A27.out).mono ?_); (case side1 => repeat (first | exact (Kd.R_reads' HO_515001.out).2.2 | (with_reducible refine Kd.C_alloc ?_ _) | (with_reducible refine Kd.C_drewN ?_ _) | (with_reducible refine Kd.C_drew ?_))); (case side2 => exact (Kd.R_reads' HO_515001.out).2.1); rintro e w40 ⟨rfl, hb⟩; refine ⟨_, rfl, ?_⟩; have n0_ := Aside0.mk (Kd.R_below (by (with_reducible repeat (first | apply Kd.R_alloc | apply Kd.R_drewN | apply Kd.R_drew)); exact HO_7.out) hb); have n1_ := Aside0.mk (Kd.R_below (by (with_reducible repeat (first | apply Kd.R_alloc | apply Kd.R_drewN | apply Kd.R_drew)); exact HO_515001.out) hb); have n2_ := Aside0.mk (blk_below (g := gb505) (o := .cells #[.int .i64 0, .slice none 0 0] 32 (0, 0)) (by (with_reducible repeat (first | refine blk_drewN ?_ _ | refine blk_drew ?_ | refine blk_alloc ?_ _)); exact BK505.out) hb); have n3_ := Aside0.mk (blk_below (g := gb514) (o := .cells #[.int .i64 t506, .slice Ao39 x515001_2.length co39] 32 (0, 0)) (by (with_reducible repeat (first | refine blk_drewN ?_ _ | refine blk_drew ?_ | refine blk_alloc ?_ _)); exact BK514.out) hb); have n4_ := Aside0.mk (below_step (by repeat (first | (with_reducible first | exact HB.out | apply below_alloc | apply pw_below_drewN | apply below_drew1 | refine below_set ?_ GE505.out | refine below_set ?_ GE514.out) | exact HB.out)) hb); clear HO_7; clear HO_515001; clear BK505; clear BK514; clear HB; have HO_7 := n0_; have HO_515001 := n1_; have BK505 := n2_; have BK514 := n3_; have HB := n4_; clear n0_ n1_ n2_ n3_ n4_; (try clear hb); (try clear hb2); (try clear hk); (try clear hi); have hcz41_0 : w40.cell? ⟨gb505, 0, none⟩ = some (.int .i64 0) := (blk_cell BK505.out 0).trans rfl; have hcz41_1 : w40.cell? ⟨gb505, 1, none⟩ = some (.slice none 0 0) := (blk_cell BK505.out 1).trans rfl; have hfz41_0 := blk_frozen BK505.out 0; have hfz41_1 := blk_frozen BK505.out 1))
          refine bodyPost_ret (results_ct rfl _ _ gb505 32 #[.int .i64 0, .slice none 0 0] (0, 0) _ rfl (by (with_reducible repeat (first | refine blk_drewN ?_ _ | refine blk_drew ?_ | refine blk_alloc ?_ _)); refine blk_put (cs := #[.int .i64 0, .slice none 0 0]) ?_ 1 _ rfl; (with_reducible repeat (first | refine blk_drewN ?_ _ | refine blk_drew ?_ | refine blk_alloc ?_ _)); refine blk_put (cs := #[.int .i64 0, .slice none 0 0]) ?_ 0 _ rfl; (with_reducible repeat (first | refine blk_drewN ?_ _ | refine blk_drew ?_ | refine blk_alloc ?_ _)); exact BK505.out) Try.underlying32 rfl (by kernel_rfl)) rfl ?_
          exact ⟨_, by first | rfl | (simp [errW_none, errW_some] <;> rfl) | (simp [*, errW_none, errW_some] <;> rfl), by first | exact Kd.R_nil _ _ _ _ _ | exact Kd.N_nil _ _ _ _ _ | exact Kd.V_nil _ _ _ _ _ | exact Kd.Q_nil _ _ _ _ _ | exact Kd.S_nil _ _ _ _ _, by repeat (first | (with_reducible first | exact HB.out | apply below_alloc | apply pw_below_drewN | apply below_drew1 | refine below_set ?_ GE505.out | refine below_set ?_ GE514.out) | exact HB.out)⟩
  ·rw [if_neg c5] at H
   have c5b0 : (t511 == 0) = false := beq_eq_false_iff_ne.mpr c5
   have c5b1 : (t511 != 0) = true := bne_iff_ne.mpr c5
   simp only [Option.some.injEq, Prod.mk.injEq] at H
   obtain ⟨rfl, rfl, rfl⟩ := H
   go_enter Try.func36, Try.ntmps36
   go_wp2_with (first | ((with_reducible refine gate_dst (N := 2) rfl ?_); (try (refine gate_guard (by rfl) ?_; dsimp only)); refine box_event ?hg (N := 2) ?hd (cs := #[.int .i64 0, .slice none 0 0]) (t := 32) ?hr ?_; (case hd => rfl); (case hg => rfl); (case hr => first | (go_simp; done) | (go_simp; rfl)); intro gb505 hg w42 hbox hb; have n0_ := Aside0.mk (below_step (by repeat (first | (with_reducible first | exact HB.out | apply below_alloc | apply pw_below_drewN | apply below_drew1) | exact HB.out)) hb); have n1_ := Aside0.mk (hbox); have n2_ := Aside0.mk ((by rw [hg]; exact (below_size (by repeat (first | (with_reducible first | exact HB.out | apply below_alloc | apply pw_below_drewN | apply below_drew1) | exact HB.out))) : w.heap.size ≤ gb505)); have n3_ := Aside0.mk ((by rw [hg]; exact (below_size (by repeat (first | (with_reducible first | exact HB.out | apply below_alloc | apply pw_below_drewN | apply below_drew1) | exact HB.out))) : w.heap.size ≤ gb505)); clear HB; have HB := n0_; have BK505 := n1_; have GW505 := n2_; have GE505 := n3_; clear n0_ n1_ n2_ n3_; clear hb hbox hg) | ((with_reducible refine gate_callee (f := 78) rfl ?_); refine goesL_ (some 14) rfl rfl Try.func78 (by kernel_rfl) rfl #[.string a0, .int .i64 0] rfl (by (try simp only [List.map_toArray, List.map_cons, List.map_nil]); first | done | rfl | (simp only [List.length_drop, List.length_take]; rfl)) ?_; (with_reducible refine (storagebarterref01_Int.calls k a0 0 t506 t507 t508 _ A2.out).mono ?_); rintro e w' ⟨rfl, ⟨nd, rfl⟩⟩; refine ⟨_, rfl, ?_⟩; (try (rw [drewN_self w42]; generalize hq_ : World.drewN w42 _ = w42; have n0_ : Aside0 (w42.heap[gb505]? = some (.cells #[.int .i64 0, .slice none 0 0] 32 (0, 0))) := ⟨by rw [← hq_]; exact (by (with_reducible repeat (first | refine blk_drewN ?_ _ | refine blk_drew ?_ | refine blk_alloc ?_ _)); exact BK505.out)⟩; have n1_ : Aside0 (Below w.heap.size w w42) := ⟨by rw [← hq_]; exact (by repeat (first | (with_reducible first | exact HB.out | apply below_alloc | apply pw_below_drewN | apply below_drew1 | refine below_set ?_ GE505.out) | exact HB.out))⟩; clear BK505 HB hq_; have BK505 := n0_; have HB := n1_; clear n0_ n1_))) | ((with_reducible refine gate_callee (f := 79) rfl ?_); refine goesL_ (some 25) rfl rfl Try.func79 (by kernel_rfl) rfl #[.string a0, .int .i64 t507, .int .i64 512] rfl (by (try simp only [List.map_toArray, List.map_cons, List.map_nil]); first | done | rfl | (simp only [List.length_drop, List.length_take]; rfl)) ?_; (with_reducible refine (storagebarterref01_List.calls k a0 t507 512 t509 t510 t511 _ A4.out).mono ?_); rintro e w43 ⟨v512, rfl, ho0, hb⟩; refine ⟨_, rfl, ?_⟩; have n0_ := Aside0.mk (Kd.R_lower ho0 (below_size (by repeat (first | (with_reducible first | exact HB.out | apply below_alloc | apply pw_below_drewN | apply below_drew1 | refine below_set ?_ GE505.out) | exact HB.out)))); have n1_ := Aside0.mk (blk_below (g := gb505) (o := .cells #[.int .i64 0, .slice none 0 0] 32 (0, 0)) (by (with_reducible repeat (first | refine blk_drewN ?_ _ | refine blk_drew ?_ | refine blk_alloc ?_ _)); exact BK505.out) hb); have n2_ := Aside0.mk (below_step (by repeat (first | (with_reducible first | exact HB.out | apply below_alloc | apply pw_below_drewN | apply below_drew1 | refine below_set ?_ GE505.out) | exact HB.out)) hb); clear BK505; clear HB; have HO513 := n0_; have BK505 := n1_; have HB := n2_; clear n0_ n1_ n2_; (try clear hb); (try clear hb2); (try clear hk); (try clear hi); (try clear ho0); have hcz44_0 : w43.cell? ⟨gb505, 0, none⟩ = some (.int .i64 0) := (blk_cell BK505.out 0).trans rfl; have hcz44_1 : w43.cell? ⟨gb505, 1, none⟩ = some (.slice none 0 0) := (blk_cell BK505.out 1).trans rfl; have hfz44_0 := blk_frozen BK505.out 0; have hfz44_1 := blk_frozen BK505.out 1))
   refine bodyPost_ret (results_ct rfl _ _ gb505 32 #[.int .i64 0, .slice none 0 0] (0, 0) _ rfl (by (with_reducible repeat (first | refine blk_drewN ?_ _ | refine blk_drew ?_ | refine blk_alloc ?_ _)); refine blk_put (cs := #[.int .i64 0, .slice none 0 0]) ?_ 1 _ rfl; (with_reducible repeat (first | refine blk_drewN ?_ _ | refine blk_drew ?_ | refine blk_alloc ?_ _)); refine blk_put (cs := #[.int .i64 0, .slice none 0 0]) ?_ 0 _ rfl; (with_reducible repeat (first | refine blk_drewN ?_ _ | refine blk_drew ?_ | refine blk_alloc ?_ _)); exact BK505.out) Try.underlying32 rfl (by kernel_rfl)) rfl ?_
   exact ⟨_, by first | rfl | (simp [errW_none, errW_some] <;> rfl) | (simp [*, errW_none, errW_some] <;> rfl), by first | exact Kd.R_nil _ _ _ _ _ | exact Kd.N_nil _ _ _ _ _ | exact Kd.V_nil _ _ _ _ _ | exact Kd.Q_nil _ _ _ _ _ | exact Kd.S_nil _ _ _ _ _, by repeat (first | (with_reducible first | exact HB.out | apply below_alloc | apply pw_below_drewN | apply below_drew1 | refine below_set ?_ GE505.out) | exact HB.out)⟩
 ·rw [if_neg c3] at H
  have c3b0 : (t508 == 0) = false := beq_eq_false_iff_ne.mpr c3
  have c3b1 : (t508 != 0) = true := bne_iff_ne.mpr c3
  simp only [Option.some.injEq, Prod.mk.injEq] at H
  obtain ⟨rfl, rfl, rfl⟩ := H
  go_enter Try.func36, Try.ntmps36
  go_wp2_with (first | ((with_reducible refine gate_dst (N := 2) rfl ?_); (try (refine gate_guard (by rfl) ?_; dsimp only)); refine box_event ?hg (N := 2) ?hd (cs := #[.int .i64 0, .slice none 0 0]) (t := 32) ?hr ?_; (case hd => rfl); (case hg => rfl); (case hr => first | (go_simp; done) | (go_simp; rfl)); intro gb505 hg w45 hbox hb; have n0_ := Aside0.mk (below_step (by repeat (first | (with_reducible first | exact HB.out | apply below_alloc | apply pw_below_drewN | apply below_drew1) | exact HB.out)) hb); have n1_ := Aside0.mk (hbox); have n2_ := Aside0.mk ((by rw [hg]; exact (below_size (by repeat (first | (with_reducible first | exact HB.out | apply below_alloc | apply pw_below_drewN | apply below_drew1) | exact HB.out))) : w.heap.size ≤ gb505)); have n3_ := Aside0.mk ((by rw [hg]; exact (below_size (by repeat (first | (with_reducible first | exact HB.out | apply below_alloc | apply pw_below_drewN | apply below_drew1) | exact HB.out))) : w.heap.size ≤ gb505)); clear HB; have HB := n0_; have BK505 := n1_; have GW505 := n2_; have GE505 := n3_; clear n0_ n1_ n2_ n3_; clear hb hbox hg) | ((with_reducible refine gate_callee (f := 78) rfl ?_); refine goesL_ (some 14) rfl rfl Try.func78 (by kernel_rfl) rfl #[.string a0, .int .i64 0] rfl (by (try simp only [List.map_toArray, List.map_cons, List.map_nil]); first | done | rfl | (simp only [List.length_drop, List.length_take]; rfl)) ?_; (with_reducible refine (storagebarterref01_Int.calls k a0 0 t506 t507 t508 _ A2.out).mono ?_); rintro e w' ⟨rfl, ⟨nd, rfl⟩⟩; refine ⟨_, rfl, ?_⟩; (try (rw [drewN_self w45]; generalize hq_ : World.drewN w45 _ = w45; have n0_ : Aside0 (w45.heap[gb505]? = some (.cells #[.int .i64 0, .slice none 0 0] 32 (0, 0))) := ⟨by rw [← hq_]; exact (by (with_reducible repeat (first | refine blk_drewN ?_ _ | refine blk_drew ?_ | refine blk_alloc ?_ _)); exact BK505.out)⟩; have n1_ : Aside0 (Below w.heap.size w w45) := ⟨by rw [← hq_]; exact (by repeat (first | (with_reducible first | exact HB.out | apply below_alloc | apply pw_below_drewN | apply below_drew1 | refine below_set ?_ GE505.out) | exact HB.out))⟩; clear BK505 HB hq_; have BK505 := n0_; have HB := n1_; clear n0_ n1_)); have hcz46_0 : w45.cell? ⟨gb505, 0, none⟩ = some (.int .i64 0) := (blk_cell BK505.out 0).trans rfl; have hcz46_1 : w45.cell? ⟨gb505, 1, none⟩ = some (.slice none 0 0) := (blk_cell BK505.out 1).trans rfl; have hfz46_0 := blk_frozen BK505.out 0; have hfz46_1 := blk_frozen BK505.out 1))
  refine bodyPost_ret (results_ct rfl _ _ gb505 32 #[.int .i64 0, .slice none 0 0] (0, 0) _ rfl (by (with_reducible repeat (first | refine blk_drewN ?_ _ | refine blk_drew ?_ | refine blk_alloc ?_ _)); refine blk_put (cs := #[.int .i64 0, .slice none 0 0]) ?_ 1 _ rfl; (with_reducible repeat (first | refine blk_drewN ?_ _ | refine blk_drew ?_ | refine blk_alloc ?_ _)); refine blk_put (cs := #[.int .i64 0, .slice none 0 0]) ?_ 0 _ rfl; (with_reducible repeat (first | refine blk_drewN ?_ _ | refine blk_drew ?_ | refine blk_alloc ?_ _)); exact BK505.out) Try.underlying32 rfl (by kernel_rfl)) rfl ?_
  exact ⟨_, by first | rfl | (simp [errW_none, errW_some] <;> rfl) | (simp [*, errW_none, errW_some] <;> rfl), by first | exact Kd.R_nil _ _ _ _ _ | exact Kd.N_nil _ _ _ _ _ | exact Kd.V_nil _ _ _ _ _ | exact Kd.Q_nil _ _ _ _ _ | exact Kd.S_nil _ _ _ _ _, by repeat (first | (with_reducible first | exact HB.out | apply below_alloc | apply pw_below_drewN | apply below_drew1 | refine below_set ?_ GE505.out) | exact HB.out)⟩
end Go.Proofs.Ytodhkbahjomfhaa.Q

namespace Go.Proofs.Ytodhkbahjomfhaa.Q
open Go.RowKit Go.Proofs.YtodhkbahjomfhaaW.PrintWords Go.Proofs.YtodhkbahjomfhaaW.PrintLast Go.Proofs.YtodhkbahjomfhaaW.PrintMore Go.Proofs.Ytodhkbahjomfhaa.Gput Go.Proofs.Ytodhkbahjomfhaa.Gputl
attribute [local go_sem] max2_int min2_int max_two min_two max_three min_three max_four min_four   -- for this text's walks alone
set_option linter.unusedVariables false
set_option linter.unusedSimpArgs false
noncomputable def storagebarterref08_Encode.l0 : Nat → List Int → List (S78) → Int → Int → Int → List (S78) → Option (ByteArray × Int)
 | 0, _, _, _, _, _, _ => none
 | k + 1, x5, x14, x15, x16, x469000, x469001 => if x16 < x15 then (if 0 ≤ x16 then (if x16 < (x14.length : Int) then ((some (([(rd_T78 x14 x16).f0, (rd_T78 x14 x16).f1] : List Int) : List Int)).bind fun y472 => (if x5.length + y472.length < 17592186044416 then (storagebarterref08_Encode.l0 k (x5 ++ y472) x14 x15 (wrap64 (x16 + 1)) x469000 x469001) else (none))) else (none)) else (none)) else ((storagebarterref01_PutInt.f k (⟨#[]⟩ : ByteArray) x469000).bind fun t478 => ((storagebarterref01_PutList.f k t478 x5).bind fun t479 => (some (t479, 0))))
noncomputable def storagebarterref08_Encode.f (k : Nat) (a0_0 : Int) (l0_1 : List (S78)) : Option (ByteArray × Int) := (storagebarterref08_Check.f k a0_0 l0_1).bind fun t469 => (if t469 = 0 then (storagebarterref08_Encode.l0 k ([] : List Int) l0_1 (l0_1.length : Int) 0 a0_0 l0_1) else (some ((⟨#[]⟩ : ByteArray), t469)))
set_option maxHeartbeats 8000000 in
set_option maxRecDepth 100000 in
theorem storagebarterref08_Encode.calls (k : Nat) (a0_0 : Int) (A0_1 : Option Addr) (c0_1 : Nat) (l0_1 : List (S78)) (r1 : ByteArray) (r2 : Int) (w : World) (hr0_1 : Kd.C k78 w A0_1 l0_1.length l0_1) (hc0_1 : l0_1.length ≤ c0_1) (h : storagebarterref08_Encode.f k a0_0 l0_1 = some (r1, r2)) :
 Calls Try.prog 34 #[.agg #[.int .i64 a0_0, .slice A0_1 l0_1.length c0_1]] w fun e w' => e = .returned (.tuple #[.string r1, .int .i64 r2]) ∧ Below w.heap.size w w' := by
 have hu32 := Try.underlying32
 have hu78 := Try.underlying78
 have HR0_1 := Aside0.mk hr0_1
 have HC0_1 := Aside0.mk hc0_1
 clear hr0_1 hc0_1
 have HB := Aside0.mk (Below.refl w.heap.size w)
 have H : ((storagebarterref08_Check.f k a0_0 l0_1).bind fun t469 => (if t469 = 0 then (storagebarterref08_Encode.l0 k ([] : List Int) l0_1 (l0_1.length : Int) 0 a0_0 l0_1) else (some ((⟨#[]⟩ : ByteArray), t469)))) = some (r1, r2) := h
 clear h
 replace H := Option.bind_eq_some_iff.mp H
 obtain ⟨t469, A20, H⟩ := H
 replace H : (if t469 = 0 then (storagebarterref08_Encode.l0 k ([] : List Int) l0_1 (l0_1.length : Int) 0 a0_0 l0_1) else (some ((⟨#[]⟩ : ByteArray), t469))) = some (r1, r2) := H
 have A2 := Aside0.mk A20
 clear A20
 by_cases c3 : t469 = 0
 ·rw [if_pos c3] at H
  have c3b0 : (t469 == 0) = true := beq_iff_eq.mpr c3
  have c3b1 : (t469 != 0) = false := bne_eq_false_iff_eq.mpr c3
  clear c3
  have H' := Aside0.mk H
  clear H
  go_enter Try.func34, Try.ntmps34
  go_wp2_with (first | ((with_reducible refine gate_dst (N := 1) rfl ?_); refine box_event ?hg (N := 1) ?hd (cs := #[.int .i64 a0_0, .slice A0_1 l0_1.length c0_1]) (t := 32) ?hr ?_; (case hd => rfl); (case hg => rfl); (case hr => first | (go_simp; done) | (go_simp; rfl)); intro gb468 hg w4 hbox hb; have n0_ := Aside0.mk (below_step (by repeat (first | (with_reducible first | exact HB.out | apply below_alloc | apply pw_below_drewN | apply below_drew1) | exact HB.out)) hb); have n1_ := Aside0.mk (hbox); have n2_ := Aside0.mk ((by rw [hg]; exact (below_size (by repeat (first | (with_reducible first | exact HB.out | apply below_alloc | apply pw_below_drewN | apply below_drew1) | exact HB.out))) : w.heap.size ≤ gb468)); have n3_ := Aside0.mk ((by rw [hg]; exact (below_size (by repeat (first | (with_reducible first | exact HB.out | apply below_alloc | apply pw_below_drewN | apply below_drew1) | exact HB.out))) : w.heap.size ≤ gb468)); clear HB; have HB := n0_; have BK468 := n1_; have GW468 := n2_; have GE468 := n3_; clear n0_ n1_ n2_ n3_; clear hb hbox hg; have hcz5_0 : w4.cell? ⟨gb468, 0, none⟩ = some (.int .i64 a0_0) := (blk_cell BK468.out 0).trans rfl; have hcz5_1 : w4.cell? ⟨gb468, 1, none⟩ = some (.slice A0_1 l0_1.length c0_1) := (blk_cell BK468.out 1).trans rfl; have hfz5_0 := blk_frozen BK468.out 0; have hfz5_1 := blk_frozen BK468.out 1) | ((with_reducible refine gate_callee (f := 57) rfl ?_); refine goesL_ (some 9) rfl rfl Try.func57 (by kernel_rfl) rfl #[.agg #[.int .i64 a0_0, .slice A0_1 l0_1.length c0_1]] rfl (by (try simp only [List.map_toArray, List.map_cons, List.map_nil]); first | done | rfl | (simp only [List.length_drop, List.length_take]; rfl)) ?_; (with_reducible refine (storagebarterref08_Check.calls k a0_0 _ _ l0_1 t469 _ ?side1 ?side2 A2.out).mono ?_); (case side1 => repeat (first | exact (Kd.C_below HR0_1.out HB.out) | (with_reducible refine Kd.C_alloc ?_ _) | (with_reducible refine Kd.C_drewN ?_ _) | (with_reducible refine Kd.C_drew ?_))); (case side2 => exact HC0_1.out); rintro e w6 ⟨rfl, hb⟩; refine ⟨_, rfl, ?_⟩; have n0_ := Aside0.mk (blk_below (g := gb468) (o := .cells #[.int .i64 a0_0, .slice A0_1 l0_1.length c0_1] 32 (0, 0)) (by (with_reducible repeat (first | refine blk_drewN ?_ _ | refine blk_drew ?_ | refine blk_alloc ?_ _)); exact BK468.out) hb); have n1_ := Aside0.mk (below_step (by repeat (first | (with_reducible first | exact HB.out | apply below_alloc | apply pw_below_drewN | apply below_drew1 | refine below_set ?_ GE468.out) | exact HB.out)) hb); clear BK468; clear HB; have BK468 := n0_; have HB := n1_; clear n0_ n1_; (try clear hb); (try clear hb2); (try clear hk); (try clear hi); have hcz7_0 : w6.cell? ⟨gb468, 0, none⟩ = some (.int .i64 a0_0) := (blk_cell BK468.out 0).trans rfl; have hcz7_1 : w6.cell? ⟨gb468, 1, none⟩ = some (.slice A0_1 l0_1.length c0_1) := (blk_cell BK468.out 1).trans rfl; have hfz7_0 := blk_frozen BK468.out 0; have hfz7_1 := blk_frozen BK468.out 1))
  go_loopg [5, 16] k (fun kq v5 v16 w' => ∃ (x5_1 : List Int) (x16_1 : Int), v16 = .int .i64 x16_1 ∧ Aside0 (storagebarterref08_Encode.l0 kq x5_1 l0_1 (l0_1.length : Int) x16_1 a0_0 l0_1 = some (r1, r2)) ∧ Aside0 (kq ≤ k) ∧ Aside0 (Kd.R (Kd.int .i64) 3 w' w.heap.size (fun _ => True) v5 x5_1) ∧ Aside0 (w'.heap[gb468]? = some (.cells #[.int .i64 a0_0, (.slice A0_1 l0_1.length c0_1)] 32 (0, 0))) ∧ Aside0 (Below w.heap.size w w'))
  case atStart => exact ⟨(([] : List Int)), (0), (by first | rfl | (simp; done) | (simp [*]; done)), H', ⟨Nat.le_refl _⟩, ⟨by first | exact Kd.R_nil _ _ _ _ _ | exact Kd.N_nil _ _ _ _ _ | exact Kd.V_nil _ _ _ _ _ | exact Kd.Q_nil _ _ _ _ _ | exact Kd.S_nil _ _ _ _ _⟩, ⟨by (with_reducible repeat (first | refine blk_drewN ?_ _ | refine blk_drew ?_ | refine blk_alloc ?_ _)); exact BK468.out⟩, ⟨by repeat (first | (with_reducible first | exact HB.out | apply below_alloc | apply pw_below_drewN | apply below_drew1 | refine below_set ?_ GE468.out) | exact HB.out)⟩⟩
  case round =>
   clear H'
   try clear p2
   try clear c3
   try clear c3b0
   try clear c3b1
   try clear c5
   try clear hcz5_0
   try clear hcz5_1
   try clear hcz7_0
   try clear hcz7_1
   try clear hfz5_0
   try clear hfz5_1
   try clear hfz7_0
   try clear hfz7_1
   obtain ⟨x5_1, x16_1, rfl, HA, HK1, HO_5, BK468, HB⟩ := hrel
   cases gk with
   | zero => exact absurd HA.out (by simp [storagebarterref08_Encode.l0])
   | succ k1 =>
    have H := HA.out
    clear HA
    simp only [storagebarterref08_Encode.l0] at H
    by_cases c8 : x16_1 < (l0_1.length : Int)
    ·rw [if_pos c8] at H
     have c8b0 : decide (x16_1 < (l0_1.length : Int)) = true := decide_eq_true c8
     clear c8
     by_cases c9 : 0 ≤ x16_1
     ·rw [if_pos c9] at H
      have c9b0 : decide (0 ≤ x16_1) = true := decide_eq_true c9
      clear c9
      by_cases c10 : x16_1 < (l0_1.length : Int)
      ·rw [if_pos c10] at H
       have c10b0 : decide (x16_1 < (l0_1.length : Int)) = true := decide_eq_true c10
       clear c10
       obtain ⟨y472, hy472⟩ : ∃ y_ : List Int, y_ = (([(rd_T78 l0_1 x16_1).f0, (rd_T78 l0_1 x16_1).f1] : List Int)) := ⟨_, rfl⟩
       replace H : (if x5_1.length + y472.length < 17592186044416 then (storagebarterref08_Encode.l0 k1 (x5_1 ++ y472) l0_1 (l0_1.length : Int) (wrap64 (x16_1 + 1)) a0_0 l0_1) else (none)) = some (r1, r2) := by first | (rw [hy472]; with_reducible exact H) | (have H2_ := (Option.bind_some _ _).symm.trans H; rw [hy472]; with_reducible exact H2_) | (have H2_ := (Option.bind_some _ _).symm.trans H; with_reducible exact H2_) | with_reducible exact H | (rw [hy472]; exact H) | exact H
       have Ny472 := Aside0.mk hy472
       clear hy472
       by_cases c11 : x5_1.length + y472.length < 17592186044416
       ·rw [if_pos c11] at H
        have LMc11 := Aside0.mk c11
        clear c11
        obtain ⟨y475, hy475⟩ : ∃ y_ : List Int, y_ = (x5_1 ++ y472) := ⟨_, rfl⟩
        replace H : (storagebarterref08_Encode.l0 k1 y475 l0_1 (l0_1.length : Int) (wrap64 (x16_1 + 1)) a0_0 l0_1) = some (r1, r2) := by first | (rw [hy475]; with_reducible exact H) | (have H2_ := (Option.bind_some _ _).symm.trans H; rw [hy475]; with_reducible exact H2_) | (have H2_ := (Option.bind_some _ _).symm.trans H; with_reducible exact H2_) | with_reducible exact H | (rw [hy475]; exact H) | exact H
        have Ny475 := Aside0.mk hy475
        clear hy475
        have H' := Aside0.mk H
        clear H
        have p470 : 0 ≤ (x16_1 : Int) := of_decide_eq_true (by first | (with_reducible assumption) | assumption)
        have q470 : x16_1 < (l0_1.length : Int) := of_decide_eq_true (by first | (with_reducible assumption) | assumption)
        obtain ⟨ad470, e470, hx470_0, hx470_1⟩ := at_T78 HR0_1.out x16_1 p470 q470
        cases e470
        replace hx470_0 := (HB.out.cell (World.block_lt_of_cell? w _ hx470_0)).trans hx470_0
        replace hx470_1 := (HB.out.cell (World.block_lt_of_cell? w _ hx470_1)).trans hx470_1
        replace p470 := eq_true p470
        replace q470 := eq_true q470
        go_wp2_with (first | ((with_reducible refine gate_dst (N := 7) rfl ?_); refine box_event ?hg (N := 7) ?hd (cs := #[.int .i64 0, .int .i64 0]) (t := 78) ?hr ?_; (case hd => rfl); (case hg => rfl); (case hr => first | (go_simp; done) | (go_simp; rfl)); intro gb471 hg w12 hbox hb; have n0_ := Aside0.mk (Kd.R_below (by (with_reducible repeat (first | apply Kd.R_alloc | apply Kd.R_drewN | apply Kd.R_drew)); exact HO_5.out) hb); have n1_ := Aside0.mk (blk_below (g := gb468) (o := .cells #[.int .i64 a0_0, .slice (some ad470) l0_1.length c0_1] 32 (0, 0)) (by (with_reducible repeat (first | refine blk_drewN ?_ _ | refine blk_drew ?_ | refine blk_alloc ?_ _)); exact BK468.out) hb); have n2_ := Aside0.mk (below_step (by repeat (first | (with_reducible first | exact HB.out | apply below_alloc | apply pw_below_drewN | apply below_drew1 | refine below_set ?_ GE468.out) | exact HB.out)) hb); have n3_ := Aside0.mk (hbox); have n4_ := Aside0.mk ((by rw [hg]; exact (below_size (by repeat (first | (with_reducible first | exact HB.out | apply below_alloc | apply pw_below_drewN | apply below_drew1 | refine below_set ?_ GE468.out) | exact HB.out))) : w.heap.size ≤ gb471)); have n5_ := Aside0.mk ((by rw [hg]; exact (below_size (by repeat (first | (with_reducible first | exact HB.out | apply below_alloc | apply pw_below_drewN | apply below_drew1 | refine below_set ?_ GE468.out) | exact HB.out))) : w.heap.size ≤ gb471)); have n6_ := Aside0.mk ((by rw [hg]; exact Nat.ne_of_lt (blk_lt (g := gb468) (o := .cells #[.int .i64 a0_0, .slice (some ad470) l0_1.length c0_1] 32 (0, 0)) (by (with_reducible repeat (first | refine blk_drewN ?_ _ | refine blk_drew ?_ | refine blk_alloc ?_ _)); exact BK468.out)) : gb468 ≠ gb471)); have n7_ := Aside0.mk ((by rw [hg]; exact Nat.ne_of_gt (blk_lt (g := gb468) (o := .cells #[.int .i64 a0_0, .slice (some ad470) l0_1.length c0_1] 32 (0, 0)) (by (with_reducible repeat (first | refine blk_drewN ?_ _ | refine blk_drew ?_ | refine blk_alloc ?_ _)); exact BK468.out)) : gb471 ≠ gb468)); clear HO_5; clear BK468; clear HB; have HO_5 := n0_; have BK468 := n1_; have HB := n2_; have BK471 := n3_; have GW471 := n4_; have GE471 := n5_; have NB468_471 := n6_; have NB471_468 := n7_; clear n0_ n1_ n2_ n3_ n4_ n5_ n6_ n7_; clear hb hbox hg; have hnb13 := NB471_468.out; have hnc13 := NB468_471.out; have hcz14_0 : w12.cell? ⟨gb471, 0, none⟩ = some (.int .i64 0) := (blk_cell BK471.out 0).trans rfl; have hcz14_1 : w12.cell? ⟨gb471, 1, none⟩ = some (.int .i64 0) := (blk_cell BK471.out 1).trans rfl; have hfz14_0 := blk_frozen BK471.out 0; have hfz14_1 := blk_frozen BK471.out 1) | ((with_reducible refine gate_dst (N := 25) rfl ?_); refine Kd.R_lit (Kd.int .i64) _ 3 ?hg (N := 25) ?hd (xs := ([(rd_T78 l0_1 x16_1).f0, (rd_T78 l0_1 x16_1).f1] : List Int)) (inner := [.int .i64 ((rd_T78 l0_1 x16_1).f0), .int .i64 ((rd_T78 l0_1 x16_1).f1)]) (ok := fun _ => True) (okp := fun _ => True) ?hr ?hp (fun _ hk => hk) trivial (Below.refl _ _) (Nat.le_refl _) (by simp) ?_; (case hd => rfl); (case hg => rfl); (case hr => first | (go_simp; done) | (go_simp; rfl)); (case hp => exact (Reps.one (show Kd.M (Kd.int .i64) _ _ _ ((rd_T78 l0_1 x16_1).f0) [.int .i64 ((rd_T78 l0_1 x16_1).f0)] from rfl) (Reps.one (show Kd.M (Kd.int .i64) _ _ _ ((rd_T78 l0_1 x16_1).f1) [.int .i64 ((rd_T78 l0_1 x16_1).f1)] from rfl) (Reps.none _ _)))); intro v473 w15 ho16 hb hg_ hnew_; clear hg_ hnew_; (first | rw [← Ny472.out] at ho16 | (simp only [Int.reduceToNat] at ho16; rw [← Ny472.out] at ho16)); have n0_ := Aside0.mk (Kd.R_elder' (by (with_reducible repeat (first | apply Kd.R_alloc | apply Kd.R_drewN | apply Kd.R_drew)); exact (Kd.R_mono (Kd.R_far (p := ⟨gb471, 1, none⟩) (Kd.R_far (p := ⟨gb471, 0, none⟩) (Kd.R_types HO_5.out BK471.out (by decide)) (fun _ hk => hk.2) (.int .i64 ((rd_T78 l0_1 x16_1).f0))) (fun _ hk => hk.2) (.int .i64 ((rd_T78 l0_1 x16_1).f1))) (fun _ h_ => h_.1))) (Kd.R_base ho16) hb); have n1_ := Aside0.mk (Kd.R_lower (Kd.R_new' ho16 (Kd.R_lt (by (with_reducible repeat (first | apply Kd.R_alloc | apply Kd.R_drewN | apply Kd.R_drew)); exact (Kd.R_mono (Kd.R_far (p := ⟨gb471, 1, none⟩) (Kd.R_far (p := ⟨gb471, 0, none⟩) (Kd.R_types HO_5.out BK471.out (by decide)) (fun _ hk => hk.2) (.int .i64 ((rd_T78 l0_1 x16_1).f0))) (fun _ hk => hk.2) (.int .i64 ((rd_T78 l0_1 x16_1).f1))) (fun _ h_ => h_.1))))) (below_size (by repeat (first | (with_reducible first | exact HB.out | apply below_alloc | apply pw_below_drewN | apply below_drew1 | refine below_set ?_ GE468.out | refine below_set ?_ GE471.out) | exact HB.out)))); have n2_ := Aside0.mk (blk_below (g := gb468) (o := .cells #[.int .i64 a0_0, .slice (some ad470) l0_1.length c0_1] 32 (0, 0)) (by (with_reducible repeat (first | refine blk_drewN ?_ _ | refine blk_drew ?_ | refine blk_alloc ?_ _)); refine blk_far ?_ NB468_471.out _; (with_reducible repeat (first | refine blk_drewN ?_ _ | refine blk_drew ?_ | refine blk_alloc ?_ _)); refine blk_far ?_ NB468_471.out _; (with_reducible repeat (first | refine blk_drewN ?_ _ | refine blk_drew ?_ | refine blk_alloc ?_ _)); exact BK468.out) hb); have n3_ := Aside0.mk (blk_below (g := gb471) (o := .cells #[.int .i64 ((rd_T78 l0_1 x16_1).f0), .int .i64 ((rd_T78 l0_1 x16_1).f1)] 78 (0, 0)) (by (with_reducible repeat (first | refine blk_drewN ?_ _ | refine blk_drew ?_ | refine blk_alloc ?_ _)); refine blk_put (cs := #[.int .i64 ((rd_T78 l0_1 x16_1).f0), .int .i64 0]) ?_ 1 _ rfl; (with_reducible repeat (first | refine blk_drewN ?_ _ | refine blk_drew ?_ | refine blk_alloc ?_ _)); refine blk_put (cs := #[.int .i64 0, .int .i64 0]) ?_ 0 _ rfl; (with_reducible repeat (first | refine blk_drewN ?_ _ | refine blk_drew ?_ | refine blk_alloc ?_ _)); exact BK471.out) hb); have n4_ := Aside0.mk (below_step (by repeat (first | (with_reducible first | exact HB.out | apply below_alloc | apply pw_below_drewN | apply below_drew1 | refine below_set ?_ GE468.out | refine below_set ?_ GE471.out) | exact HB.out)) hb); clear HO_5; clear BK468; clear BK471; clear HB; have HO_5 := n0_; have HO474 := n1_; have BK468 := n2_; have BK471 := n3_; have HB := n4_; clear n0_ n1_ n2_ n3_ n4_; clear hb ho16; obtain ⟨Ao18, co18, eo18⟩ := Kd.R_slice HO474.out; subst eo18) | ((with_reducible refine gate_builtin (b := .append) (xs := #[.tmp 20, .tmp 25]) rfl ?_); at_builtin; refine Kd.R_append_rows (Kd.int .i64) (w0 := w) w.heap.size rfl (.tmp 20) (.tmp 25) 22 3 (.int .i64 0) 8 rfl Try.underlying22 info3 rfl (by decide) (by omega) u5 x5_1 y472 _ _ _ (fun k_ => some k_ ≠ (.slice Ao18 y472.length co18 : Value).ownBlock) (fun _ => False) rfl rfl ?aO ?aR (fun _ _ h => h) (fun _ h => h.elim) ?aF ?aB ?aS ?aL ?_; (case aR => repeat (first | exact (Kd.R_reads' HO474.out).2.2 | (with_reducible refine Kd.C_alloc ?_ _) | (with_reducible refine Kd.C_drewN ?_ _) | (with_reducible refine Kd.C_drew ?_))); (case aB => exact (by repeat (first | (with_reducible first | exact HB.out | apply below_alloc | apply pw_below_drewN | apply below_drew1 | refine below_set ?_ GE468.out | refine below_set ?_ GE471.out) | exact HB.out))); (case aF => exact (fun k_ hk => Kd.fresh' (Kd.R_lt (by (with_reducible repeat (first | apply Kd.R_alloc | apply Kd.R_drewN | apply Kd.R_drew)); exact HO474.out)) k_ hk)); (case aO => exact (by (with_reducible repeat (first | apply Kd.R_alloc | apply Kd.R_drewN | apply Kd.R_drew)); exact Kd.R_mono HO_5.out (fun _ hk => hk.2))); (case aS => exact (below_size (by repeat (first | (with_reducible first | exact HB.out | apply below_alloc | apply pw_below_drewN | apply below_drew1 | refine below_set ?_ GE468.out | refine below_set ?_ GE471.out) | exact HB.out)))); (case aL => have := LMc11.out; omega); intro v476 w17 ho hb hg hat; rw [← Ny475.out] at ho; have n0_ := Aside0.mk (blk_grown (g := gb468) (o := .cells #[.int .i64 a0_0, .slice (some ad470) l0_1.length c0_1] 32 (0, 0)) (by (with_reducible repeat (first | refine blk_drewN ?_ _ | refine blk_drew ?_ | refine blk_alloc ?_ _)); exact BK468.out) hg (Kd.R_ne HO_5.out BK468.out (by decide))); have n1_ := Aside0.mk (blk_grown (g := gb471) (o := .cells #[.int .i64 ((rd_T78 l0_1 x16_1).f0), .int .i64 ((rd_T78 l0_1 x16_1).f1)] 78 (0, 0)) (by (with_reducible repeat (first | refine blk_drewN ?_ _ | refine blk_drew ?_ | refine blk_alloc ?_ _)); exact BK471.out) hg (Kd.R_ne HO_5.out BK471.out (by decide))); have n2_ := Aside0.mk (Kd.R_after (ok := (fun _ => True)) (by (with_reducible repeat (first | apply Kd.R_alloc | apply Kd.R_drewN | apply Kd.R_drew)); exact HO474.out) hg hat); have n3_ := Aside0.mk (hb); have n4_ := Aside0.mk (ho); clear BK468; clear BK471; clear HO474; clear HB; clear HO_5; have BK468 := n0_; have BK471 := n1_; have HO474 := n2_; have HB := n3_; have HO477 := n4_; clear n0_ n1_ n2_ n3_ n4_; clear ho hb hg hat))
        go_roundg k1
        case measure => have := HK1.out; omega
        case rel => exact ⟨(y475), (wrap64 (x16_1 + 1)), (by first | rfl | (simp; done) | (simp [*]; done)), H', ⟨by have := HK1.out; omega⟩, ⟨by (with_reducible repeat (first | apply Kd.R_alloc | apply Kd.R_drewN | apply Kd.R_drew)); exact Kd.R_mono HO477.out (fun _ hk => trivial)⟩, ⟨by (with_reducible repeat (first | refine blk_drewN ?_ _ | refine blk_drew ?_ | refine blk_alloc ?_ _)); exact BK468.out⟩, ⟨by repeat (first | (with_reducible first | exact HB.out | apply below_alloc | apply pw_below_drewN | apply below_drew1 | refine below_set ?_ GE468.out | refine below_set ?_ GE471.out) | exact HB.out)⟩⟩
       ·rw [if_neg c11] at H
        exact absurd H (by simp)
      ·rw [if_neg c10] at H
       exact absurd H (by simp)
     ·rw [if_neg c9] at H
      exact absurd H (by simp)
    ·rw [if_neg c8] at H
     have c8b0 : decide (x16_1 < (l0_1.length : Int)) = false := decide_eq_false c8
     clear c8
     replace H := Option.bind_eq_some_iff.mp H
     obtain ⟨t478, A190, H⟩ := H
     replace H : ((storagebarterref01_PutList.f k1 t478 x5_1).bind fun t479 => (some (t479, 0))) = some (r1, r2) := H
     have A19 := Aside0.mk A190
     clear A190
     replace H := Option.bind_eq_some_iff.mp H
     obtain ⟨t479, A200, H⟩ := H
     replace H : (some (t479, 0)) = some (r1, r2) := H
     have A20 := Aside0.mk A200
     clear A200
     simp only [Option.some.injEq, Prod.mk.injEq] at H
     obtain ⟨rfl, rfl⟩ := H
     have hcz21_0 : wr.cell? ⟨gb468, 0, none⟩ = some (.int .i64 a0_0) := (blk_cell BK468.out 0).trans rfl
     have hcz21_1 : wr.cell? ⟨gb468, 1, none⟩ = some (.slice A0_1 l0_1.length c0_1) := (blk_cell BK468.out 1).trans rfl
     have hfz21_0 := blk_frozen BK468.out 0
     have hfz21_1 := blk_frozen BK468.out 1
     go_wp2_with (first | ((with_reducible refine gate_callee (f := 66) rfl ?_); refine goesL_ (some 30) rfl rfl Try.func66 (by kernel_rfl) rfl #[.string (⟨#[]⟩ : ByteArray), .int .i64 a0_0] rfl (by (try simp only [List.map_toArray, List.map_cons, List.map_nil]); first | done | rfl | (simp only [List.length_drop, List.length_take]; rfl)) ?_; (with_reducible refine (storagebarterref01_PutInt.calls k1 (⟨#[]⟩ : ByteArray) a0_0 t478 _ A19.out).mono ?_); rintro e w22 ⟨rfl, hb⟩; refine ⟨_, rfl, ?_⟩; have n0_ := Aside0.mk (Kd.R_below (by (with_reducible repeat (first | apply Kd.R_alloc | apply Kd.R_drewN | apply Kd.R_drew)); exact HO_5.out) hb); have n1_ := Aside0.mk (blk_below (g := gb468) (o := .cells #[.int .i64 a0_0, .slice A0_1 l0_1.length c0_1] 32 (0, 0)) (by (with_reducible repeat (first | refine blk_drewN ?_ _ | refine blk_drew ?_ | refine blk_alloc ?_ _)); exact BK468.out) hb); have n2_ := Aside0.mk (below_step (by repeat (first | (with_reducible first | exact HB.out | apply below_alloc | apply pw_below_drewN | apply below_drew1 | refine below_set ?_ GE468.out) | exact HB.out)) hb); clear HO_5; clear BK468; clear HB; have HO_5 := n0_; have BK468 := n1_; have HB := n2_; clear n0_ n1_ n2_; (try clear hb); (try clear hb2); (try clear hk); (try clear hi); obtain ⟨Ao23, co23, eo23⟩ := Kd.R_slice HO_5.out; subst eo23) | ((with_reducible refine gate_callee (f := 75) rfl ?_); refine goesL_ (some 32) rfl rfl Try.func75 (by kernel_rfl) rfl #[.string t478, .slice Ao23 x5_1.length co23] rfl (by (try simp only [List.map_toArray, List.map_cons, List.map_nil]); first | done | rfl | (simp only [List.length_drop, List.length_take]; rfl)) ?_; (with_reducible refine (storagebarterref01_PutList.calls k1 t478 _ _ x5_1 t479 _ ?side1 ?side2 A20.out).mono ?_); (case side1 => repeat (first | exact (Kd.R_reads' HO_5.out).2.2 | (with_reducible refine Kd.C_alloc ?_ _) | (with_reducible refine Kd.C_drewN ?_ _) | (with_reducible refine Kd.C_drew ?_))); (case side2 => exact (Kd.R_reads' HO_5.out).2.1); rintro e w24 ⟨rfl, hb⟩; refine ⟨_, rfl, ?_⟩; have n0_ := Aside0.mk (Kd.R_below (by (with_reducible repeat (first | apply Kd.R_alloc | apply Kd.R_drewN | apply Kd.R_drew)); exact HO_5.out) hb); have n1_ := Aside0.mk (blk_below (g := gb468) (o := .cells #[.int .i64 a0_0, .slice A0_1 l0_1.length c0_1] 32 (0, 0)) (by (with_reducible repeat (first | refine blk_drewN ?_ _ | refine blk_drew ?_ | refine blk_alloc ?_ _)); exact BK468.out) hb); have n2_ := Aside0.mk (below_step (by repeat (first | (with_reducible first | exact HB.out | apply below_alloc | apply pw_below_drewN | apply below_drew1 | refine below_set ?_ GE468.out) | exact HB.out)) hb); clear HO_5; clear BK468; clear HB; have HO_5 := n0_; have BK468 := n1_; have HB := n2_; clear n0_ n1_ n2_; (try clear hb); (try clear hb2); (try clear hk); (try clear hi)))
     go_ret2
     exact ⟨by first | rfl | (simp [errW_none, errW_some] <;> rfl) | (simp [*, errW_none, errW_some] <;> rfl), by repeat (first | (with_reducible first | exact HB.out | apply below_alloc | apply pw_below_drewN | apply below_drew1 | refine below_set ?_ GE468.out) | exact HB.out)⟩
 ·rw [if_neg c3] at H
  have c3b0 : (t469 == 0) = false := beq_eq_false_iff_ne.mpr c3
  have c3b1 : (t469 != 0) = true := bne_iff_ne.mpr c3
  simp only [Option.some.injEq, Prod.mk.injEq] at H
  obtain ⟨rfl, rfl⟩ := H
  go_enter Try.func34, Try.ntmps34
  go_wp2_with (first | ((with_reducible refine gate_dst (N := 1) rfl ?_); refine box_event ?hg (N := 1) ?hd (cs := #[.int .i64 a0_0, .slice A0_1 l0_1.length c0_1]) (t := 32) ?hr ?_; (case hd => rfl); (case hg => rfl); (case hr => first | (go_simp; done) | (go_simp; rfl)); intro gb468 hg w25 hbox hb; have n0_ := Aside0.mk (below_step (by repeat (first | (with_reducible first | exact HB.out | apply below_alloc | apply pw_below_drewN | apply below_drew1) | exact HB.out)) hb); have n1_ := Aside0.mk (hbox); have n2_ := Aside0.mk ((by rw [hg]; exact (below_size (by repeat (first | (with_reducible first | exact HB.out | apply below_alloc | apply pw_below_drewN | apply below_drew1) | exact HB.out))) : w.heap.size ≤ gb468)); have n3_ := Aside0.mk ((by rw [hg]; exact (below_size (by repeat (first | (with_reducible first | exact HB.out | apply below_alloc | apply pw_below_drewN | apply below_drew1) | exact HB.out))) : w.heap.size ≤ gb468)); clear HB; have HB := n0_; have BK468 := n1_; have GW468 := n2_; have GE468 := n3_; clear n0_ n1_ n2_ n3_; clear hb hbox hg; have hcz26_0 : w25.cell? ⟨gb468, 0, none⟩ = some (.int .i64 a0_0) := (blk_cell BK468.out 0).trans rfl; have hcz26_1 : w25.cell? ⟨gb468, 1, none⟩ = some (.slice A0_1 l0_1.length c0_1) := (blk_cell BK468.out 1).trans rfl; have hfz26_0 := blk_frozen BK468.out 0; have hfz26_1 := blk_frozen BK468.out 1) | ((with_reducible refine gate_callee (f := 57) rfl ?_); refine goesL_ (some 9) rfl rfl Try.func57 (by kernel_rfl) rfl #[.agg #[.int .i64 a0_0, .slice A0_1 l0_1.length c0_1]] rfl (by (try simp only [List.map_toArray, List.map_cons, List.map_nil]); first | done | rfl | (simp only [List.length_drop, List.length_take]; rfl)) ?_; (with_reducible refine (storagebarterref08_Check.calls k a0_0 _ _ l0_1 t469 _ ?side1 ?side2 A2.out).mono ?_); (case side1 => repeat (first | exact (Kd.C_below HR0_1.out HB.out) | (with_reducible refine Kd.C_alloc ?_ _) | (with_reducible refine Kd.C_drewN ?_ _) | (with_reducible refine Kd.C_drew ?_))); (case side2 => exact HC0_1.out); rintro e w27 ⟨rfl, hb⟩; refine ⟨_, rfl, ?_⟩; have n0_ := Aside0.mk (blk_below (g := gb468) (o := .cells #[.int .i64 a0_0, .slice A0_1 l0_1.length c0_1] 32 (0, 0)) (by (with_reducible repeat (first | refine blk_drewN ?_ _ | refine blk_drew ?_ | refine blk_alloc ?_ _)); exact BK468.out) hb); have n1_ := Aside0.mk (below_step (by repeat (first | (with_reducible first | exact HB.out | apply below_alloc | apply pw_below_drewN | apply below_drew1 | refine below_set ?_ GE468.out) | exact HB.out)) hb); clear BK468; clear HB; have BK468 := n0_; have HB := n1_; clear n0_ n1_; (try clear hb); (try clear hb2); (try clear hk); (try clear hi)))
  go_ret2
  exact ⟨by first | rfl | (simp [errW_none, errW_some] <;> rfl) | (simp [*, errW_none, errW_some] <;> rfl), by repeat (first | (with_reducible first | exact HB.out | apply below_alloc | apply pw_below_drewN | apply below_drew1 | refine below_set ?_ GE468.out) | exact HB.out)⟩
end Go.Proofs.Ytodhkbahjomfhaa.Q

namespace Go.Proofs.Ytodhkbahjomfhaa.Q
open Go.RowKit Go.Proofs.YtodhkbahjomfhaaW.PrintWords Go.Proofs.YtodhkbahjomfhaaW.PrintLast Go.Proofs.YtodhkbahjomfhaaW.PrintMore Go.Proofs.Ytodhkbahjomfhaa.Gput Go.Proofs.Ytodhkbahjomfhaa.Gputl
attribute [local go_sem] max2_int min2_int max_two min_two max_three min_three max_four min_four   -- for this text's walks alone
set_option linter.unusedVariables false
set_option linter.unusedSimpArgs false
attribute [local go_sem high] eqA78
noncomputable def storagebarterref08_SameNames.l0 : Nat → List (S78) → List (S78) → Int → Int → Option (Bool)
 | 0, _, _, _, _ => none
 | k + 1, x0, x1, x12, x13 => if x13 < x12 then (if 0 ≤ x13 then (if x13 < (x0.length : Int) then (if x13 < (x1.length : Int) then (if (!(((rd_T78 x0 x13).f0) == ((rd_T78 x1 x13).f0)) || (!(((rd_T78 x0 x13).f1) == ((rd_T78 x1 x13).f1)))) = true then (some false) else (storagebarterref08_SameNames.l0 k x0 x1 x12 (wrap64 (x13 + 1)))) else (none)) else (none)) else (none)) else (some true)
noncomputable def storagebarterref08_SameNames.f (k : Nat) (l0 : List (S78)) (l1 : List (S78)) : Option (Bool) := if (l0.length : Int) = (l1.length : Int) then (storagebarterref08_SameNames.l0 k l0 l1 (l0.length : Int) 0) else (some false)
set_option maxHeartbeats 8000000 in
set_option maxRecDepth 100000 in
theorem storagebarterref08_SameNames.calls (k : Nat) (A0 : Option Addr) (c0 : Nat) (l0 : List (S78)) (A1 : Option Addr) (c1 : Nat) (l1 : List (S78)) (r : Bool) (w : World) (hr0 : Kd.C k78 w A0 l0.length l0) (hc0 : l0.length ≤ c0) (hr1 : Kd.C k78 w A1 l1.length l1) (hc1 : l1.length ≤ c1) (h : storagebarterref08_SameNames.f k l0 l1 = some r) :
 Calls Try.prog 48 #[.slice A0 l0.length c0, .slice A1 l1.length c1] w fun e w' => e = .returned (.bool r) ∧ Drawn0 w w' := by
 have hu78 := Try.underlying78
 have HR0 := Aside0.mk hr0
 have HC0 := Aside0.mk hc0
 clear hr0 hc0
 have HR1 := Aside0.mk hr1
 have HC1 := Aside0.mk hc1
 clear hr1 hc1
 have H : (if (l0.length : Int) = (l1.length : Int) then (storagebarterref08_SameNames.l0 k l0 l1 (l0.length : Int) 0) else (some false)) = some r := h
 clear h
 by_cases c3 : (l0.length : Int) = (l1.length : Int)
 ·rw [if_pos c3] at H
  have c3b0 : ((l0.length : Int) == (l1.length : Int)) = true := beq_iff_eq.mpr c3
  have c3b1 : ((l0.length : Int) != (l1.length : Int)) = false := bne_eq_false_iff_eq.mpr c3
  have c3b2 : (l0.length == l1.length) = true := by first | simpa using c3 | (simp at c3 ⊢; omega)
  clear c3
  have H' := Aside0.mk H
  clear H
  go_enter Try.func48, Try.ntmps48
  go_wp2
  repeat (go_quiet (fail); try go_wp2)
  go_loopg [13] k (fun kq v13 w' => ∃ (x13_1 : Int), v13 = .int .i64 x13_1 ∧ Aside0 (storagebarterref08_SameNames.l0 kq l0 l1 (l0.length : Int) x13_1 = some r) ∧ Aside0 (kq ≤ k) ∧ Drawn0 w w')
  case atStart => exact ⟨(0), (by first | rfl | (simp; done) | (simp [*]; done)), H', ⟨Nat.le_refl _⟩, by repeat (first | exact Drawn0.refl _ | apply Drawn0.step)⟩
  case round =>
   clear H'
   try clear c1
   try clear p2
   try clear c3
   try clear c3b0
   try clear c3b1
   try clear c3b2
   obtain ⟨x13_1, rfl, HA, HK1, ⟨m1, rfl⟩⟩ := hrel
   cases gk with
   | zero => exact absurd HA.out (by simp [storagebarterref08_SameNames.l0])
   | succ k1 =>
    have H := HA.out
    clear HA
    simp only [storagebarterref08_SameNames.l0] at H
    by_cases c4 : x13_1 < (l0.length : Int)
    ·rw [if_pos c4] at H
     have c4b0 : decide (x13_1 < (l0.length : Int)) = true := decide_eq_true c4
     clear c4
     by_cases c5 : 0 ≤ x13_1
     ·rw [if_pos c5] at H
      have c5b0 : decide (0 ≤ x13_1) = true := decide_eq_true c5
      clear c5
      by_cases c6 : x13_1 < (l0.length : Int)
      ·rw [if_pos c6] at H
       have c6b0 : decide (x13_1 < (l0.length : Int)) = true := decide_eq_true c6
       clear c6
       by_cases c7 : x13_1 < (l1.length : Int)
       ·rw [if_pos c7] at H
        have c7b0 : decide (x13_1 < (l1.length : Int)) = true := decide_eq_true c7
        clear c7
        by_cases c8 : (!(((rd_T78 l0 x13_1).f0) == ((rd_T78 l1 x13_1).f0)) || (!(((rd_T78 l0 x13_1).f1) == ((rd_T78 l1 x13_1).f1)))) = true
        ·rw [if_pos c8] at H
         have c8b0 : (!(((rd_T78 l0 x13_1).f0) == ((rd_T78 l1 x13_1).f0)) || (!(((rd_T78 l0 x13_1).f1) == ((rd_T78 l1 x13_1).f1)))) = true := c8
         clear c8
         obtain rfl := Option.some.inj H
         have p521 : 0 ≤ (x13_1 : Int) := of_decide_eq_true (by first | (with_reducible assumption) | assumption)
         have q521 : x13_1 < (l0.length : Int) := of_decide_eq_true (by first | (with_reducible assumption) | assumption)
         obtain ⟨ad521, e521, hx521_0, hx521_1⟩ := at_T78 HR0.out x13_1 p521 q521
         cases e521
         replace p521 := eq_true p521
         replace q521 := eq_true q521
         have p522 : 0 ≤ (x13_1 : Int) := of_decide_eq_true (by first | (with_reducible assumption) | assumption)
         have q522 : x13_1 < (l1.length : Int) := of_decide_eq_true (by first | (with_reducible assumption) | assumption)
         obtain ⟨ad522, e522, hx522_0, hx522_1⟩ := at_T78 HR1.out x13_1 p522 q522
         cases e522
         replace p522 := eq_true p522
         replace q522 := eq_true q522
         go_wp2
         repeat (go_quiet (fail); try go_wp2)
         go_ret
         exact ⟨by first | rfl | (simp; done) | (simp [*]; done), by repeat (first | exact Drawn0.refl _ | apply Drawn0.step)⟩
        ·rw [if_neg c8] at H
         have c8b0 : (!(((rd_T78 l0 x13_1).f0) == ((rd_T78 l1 x13_1).f0)) || (!(((rd_T78 l0 x13_1).f1) == ((rd_T78 l1 x13_1).f1)))) = false := by simpa using c8
         clear c8
         have H' := Aside0.mk H
         clear H
         have p521 : 0 ≤ (x13_1 : Int) := of_decide_eq_true (by first | (with_reducible assumption) | assumption)
         have q521 : x13_1 < (l0.length : Int) := of_decide_eq_true (by first | (with_reducible assumption) | assumption)
         obtain ⟨ad521, e521, hx521_0, hx521_1⟩ := at_T78 HR0.out x13_1 p521 q521
         cases e521
         replace p521 := eq_true p521
         replace q521 := eq_true q521
         have p522 : 0 ≤ (x13_1 : Int) := of_decide_eq_true (by first | (with_reducible assumption) | assumption)
         have q522 : x13_1 < (l1.length : Int) := of_decide_eq_true (by first | (with_reducible assumption) | assumption)
         obtain ⟨ad522, e522, hx522_0, hx522_1⟩ := at_T78 HR1.out x13_1 p522 q522
         cases e522
         replace p522 := eq_true p522
         replace q522 := eq_true q522
         go_wp2
         repeat (go_quiet (fail); try go_wp2)
         go_roundg k1
         case measure => have := HK1.out; omega
         case rel => exact ⟨(wrap64 (x13_1 + 1)), (by first | rfl | (simp; done) | (simp [*]; done)), H', ⟨by have := HK1.out; omega⟩, by repeat (first | exact Drawn0.refl _ | apply Drawn0.step)⟩
       ·rw [if_neg c7] at H
        exact absurd H (by simp)
      ·rw [if_neg c6] at H
       exact absurd H (by simp)
     ·rw [if_neg c5] at H
      exact absurd H (by simp)
    ·rw [if_neg c4] at H
     have c4b0 : decide (x13_1 < (l0.length : Int)) = false := decide_eq_false c4
     clear c4
     obtain rfl := Option.some.inj H
     go_wp2
     repeat (go_quiet (fail); try go_wp2)
     go_ret
     exact ⟨by first | rfl | (simp; done) | (simp [*]; done), by repeat (first | exact Drawn0.refl _ | apply Drawn0.step)⟩
 ·rw [if_neg c3] at H
  have c3b0 : ((l0.length : Int) == (l1.length : Int)) = false := beq_eq_false_iff_ne.mpr c3
  have c3b1 : ((l0.length : Int) != (l1.length : Int)) = true := bne_iff_ne.mpr c3
  have c3b2 : (l0.length == l1.length) = false := by first | simpa using c3 | (simp at c3 ⊢; omega)
  obtain rfl := Option.some.inj H
  go_enter Try.func48, Try.ntmps48
  go_wp2
  repeat (go_quiet (fail); try go_wp2)
  go_ret
  exact ⟨by first | rfl | (simp; done) | (simp [*]; done), by repeat (first | exact Drawn0.refl _ | apply Drawn0.step)⟩
end Go.Proofs.Ytodhkbahjomfhaa.Q

namespace Go.Proofs.Ytodhkbahjomfhaa.Q
open Go.RowKit Go.Proofs.YtodhkbahjomfhaaW.PrintWords Go.Proofs.YtodhkbahjomfhaaW.PrintLast Go.Proofs.YtodhkbahjomfhaaW.PrintMore Go.Proofs.Ytodhkbahjomfhaa.Gput Go.Proofs.Ytodhkbahjomfhaa.Gputl
attribute [local go_sem] max2_int min2_int max_two min_two max_three min_three max_four min_four   -- for this text's walks alone
set_option linter.unusedVariables false
set_option linter.unusedSimpArgs false
noncomputable def storagebarterref08_Same.f (k : Nat) (a0_0 : Int) (l0_1 : List (S78)) (a1_0 : Int) (l1_1 : List (S78)) : Option (Bool) := if a0_0 = a1_0 then ((storagebarterref08_SameNames.f k l0_1 l1_1).bind fun t525 => (some t525)) else (some false)
set_option maxHeartbeats 8000000 in
set_option maxRecDepth 100000 in
theorem storagebarterref08_Same.calls (k : Nat) (a0_0 : Int) (A0_1 : Option Addr) (c0_1 : Nat) (l0_1 : List (S78)) (a1_0 : Int) (A1_1 : Option Addr) (c1_1 : Nat) (l1_1 : List (S78)) (r : Bool) (w : World) (hr0_1 : Kd.C k78 w A0_1 l0_1.length l0_1) (hc0_1 : l0_1.length ≤ c0_1) (hr1_1 : Kd.C k78 w A1_1 l1_1.length l1_1) (hc1_1 : l1_1.length ≤ c1_1) (h : storagebarterref08_Same.f k a0_0 l0_1 a1_0 l1_1 = some r) :
 Calls Try.prog 37 #[.agg #[.int .i64 a0_0, .slice A0_1 l0_1.length c0_1], .agg #[.int .i64 a1_0, .slice A1_1 l1_1.length c1_1]] w fun e w' => e = .returned (.bool r) ∧ Below w.heap.size w w' := by
 have hu32 := Try.underlying32
 have HR0_1 := Aside0.mk hr0_1
 have HC0_1 := Aside0.mk hc0_1
 clear hr0_1 hc0_1
 have HR1_1 := Aside0.mk hr1_1
 have HC1_1 := Aside0.mk hc1_1
 clear hr1_1 hc1_1
 have HB := Aside0.mk (Below.refl w.heap.size w)
 have H : (if a0_0 = a1_0 then ((storagebarterref08_SameNames.f k l0_1 l1_1).bind fun t525 => (some t525)) else (some false)) = some r := h
 clear h
 by_cases c3 : a0_0 = a1_0
 ·rw [if_pos c3] at H
  have c3b0 : (a0_0 == a1_0) = true := beq_iff_eq.mpr c3
  have c3b1 : (a0_0 != a1_0) = false := bne_eq_false_iff_eq.mpr c3
  clear c3
  replace H := Option.bind_eq_some_iff.mp H
  obtain ⟨t525, A40, H⟩ := H
  replace H : (some t525) = some r := H
  have A4 := Aside0.mk A40
  clear A40
  obtain rfl := Option.some.inj H
  go_enter Try.func37, Try.ntmps37
  go_wp2_with (first | ((with_reducible refine gate_dst (N := 2) rfl ?_); refine box_event ?hg (N := 2) ?hd (cs := #[.int .i64 a0_0, .slice A0_1 l0_1.length c0_1]) (t := 32) ?hr ?_; (case hd => rfl); (case hg => rfl); (case hr => first | (go_simp; done) | (go_simp; rfl)); intro gb523 hg w5 hbox hb; have n0_ := Aside0.mk (below_step (by repeat (first | (with_reducible first | exact HB.out | apply below_alloc | apply pw_below_drewN | apply below_drew1) | exact HB.out)) hb); have n1_ := Aside0.mk (hbox); have n2_ := Aside0.mk ((by rw [hg]; exact (below_size (by repeat (first | (with_reducible first | exact HB.out | apply below_alloc | apply pw_below_drewN | apply below_drew1) | exact HB.out))) : w.heap.size ≤ gb523)); have n3_ := Aside0.mk ((by rw [hg]; exact (below_size (by repeat (first | (with_reducible first | exact HB.out | apply below_alloc | apply pw_below_drewN | apply below_drew1) | exact HB.out))) : w.heap.size ≤ gb523)); clear HB; have HB := n0_; have BK523 := n1_; have GW523 := n2_; have GE523 := n3_; clear n0_ n1_ n2_ n3_; clear hb hbox hg) | ((with_reducible refine gate_dst (N := 3) rfl ?_); refine box_event ?hg (N := 3) ?hd (cs := #[.int .i64 a1_0, .slice A1_1 l1_1.length c1_1]) (t := 32) ?hr ?_; (case hd => rfl); (case hg => rfl); (case hr => first | (go_simp; done) | (go_simp; rfl)); intro gb524 hg w6 hbox hb; have n0_ := Aside0.mk (blk_below (g := gb523) (o := .cells #[.int .i64 a0_0, .slice A0_1 l0_1.length c0_1] 32 (0, 0)) (by (with_reducible repeat (first | refine blk_drewN ?_ _ | refine blk_drew ?_ | refine blk_alloc ?_ _)); exact BK523.out) hb); have n1_ := Aside0.mk (below_step (by repeat (first | (with_reducible first | exact HB.out | apply below_alloc | apply pw_below_drewN | apply below_drew1 | refine below_set ?_ GE523.out) | exact HB.out)) hb); have n2_ := Aside0.mk (hbox); have n3_ := Aside0.mk ((by rw [hg]; exact (below_size (by repeat (first | (with_reducible first | exact HB.out | apply below_alloc | apply pw_below_drewN | apply below_drew1 | refine below_set ?_ GE523.out) | exact HB.out))) : w.heap.size ≤ gb524)); have n4_ := Aside0.mk ((by rw [hg]; exact (below_size (by repeat (first | (with_reducible first | exact HB.out | apply below_alloc | apply pw_below_drewN | apply below_drew1 | refine below_set ?_ GE523.out) | exact HB.out))) : w.heap.size ≤ gb524)); have n5_ := Aside0.mk ((by rw [hg]; exact Nat.ne_of_lt (blk_lt (g := gb523) (o := .cells #[.int .i64 a0_0, .slice A0_1 l0_1.length c0_1] 32 (0, 0)) (by (with_reducible repeat (first | refine blk_drewN ?_ _ | refine blk_drew ?_ | refine blk_alloc ?_ _)); exact BK523.out)) : gb523 ≠ gb524)); have n6_ := Aside0.mk ((by rw [hg]; exact Nat.ne_of_gt (blk_lt (g := gb523) (o := .cells #[.int .i64 a0_0, .slice A0_1 l0_1.length c0_1] 32 (0, 0)) (by (with_reducible repeat (first | refine blk_drewN ?_ _ | refine blk_drew ?_ | refine blk_alloc ?_ _)); exact BK523.out)) : gb524 ≠ gb523)); clear BK523; clear HB; have BK523 := n0_; have HB := n1_; have BK524 := n2_; have GW524 := n3_; have GE524 := n4_; have NB523_524 := n5_; have NB524_523 := n6_; clear n0_ n1_ n2_ n3_ n4_ n5_ n6_; clear hb hbox hg; have hnb7 := NB523_524.out; have hnc7 := NB524_523.out; have hcz8_0 : w6.cell? ⟨gb523, 0, none⟩ = some (.int .i64 a0_0) := (blk_cell BK523.out 0).trans rfl; have hcz8_1 : w6.cell? ⟨gb523, 1, none⟩ = some (.slice A0_1 l0_1.length c0_1) := (blk_cell BK523.out 1).trans rfl; have hfz8_0 := blk_frozen BK523.out 0; have hfz8_1 := blk_frozen BK523.out 1; have hcz9_0 : w6.cell? ⟨gb524, 0, none⟩ = some (.int .i64 a1_0) := (blk_cell BK524.out 0).trans rfl; have hcz9_1 : w6.cell? ⟨gb524, 1, none⟩ = some (.slice A1_1 l1_1.length c1_1) := (blk_cell BK524.out 1).trans rfl; have hfz9_0 := blk_frozen BK524.out 0; have hfz9_1 := blk_frozen BK524.out 1) | (go_at_call 48; (with_reducible refine (storagebarterref08_SameNames.calls k _ _ l0_1 _ _ l1_1 t525 _ ?side1 ?side2 ?side3 ?side4 A4.out).mono ?_); (case side1 => repeat (first | exact (Kd.C_below HR0_1.out HB.out) | (with_reducible refine Kd.C_alloc ?_ _) | (with_reducible refine Kd.C_drewN ?_ _) | (with_reducible refine Kd.C_drew ?_))); (case side2 => exact HC0_1.out); (case side3 => repeat (first | exact (Kd.C_below HR1_1.out HB.out) | (with_reducible refine Kd.C_alloc ?_ _) | (with_reducible refine Kd.C_drewN ?_ _) | (with_reducible refine Kd.C_drew ?_))); (case side4 => exact HC1_1.out); rintro e w' ⟨rfl, ⟨nd, rfl⟩⟩))
  go_ret
  exact ⟨by first | rfl | (simp [errW_none, errW_some] <;> rfl) | (simp [*, errW_none, errW_some] <;> rfl), by repeat (first | (with_reducible first | exact HB.out | apply below_alloc | apply pw_below_drewN | apply below_drew1 | refine below_set ?_ GE523.out | refine below_set ?_ GE524.out) | exact HB.out)⟩
 ·rw [if_neg c3] at H
  have c3b0 : (a0_0 == a1_0) = false := beq_eq_false_iff_ne.mpr c3
  have c3b1 : (a0_0 != a1_0) = true := bne_iff_ne.mpr c3
  obtain rfl := Option.some.inj H
  go_enter Try.func37, Try.ntmps37
  go_wp2_with (first | ((with_reducible refine gate_dst (N := 2) rfl ?_); refine box_event ?hg (N := 2) ?hd (cs := #[.int .i64 a0_0, .slice A0_1 l0_1.length c0_1]) (t := 32) ?hr ?_; (case hd => rfl); (case hg => rfl); (case hr => first | (go_simp; done) | (go_simp; rfl)); intro gb523 hg w10 hbox hb; have n0_ := Aside0.mk (below_step (by repeat (first | (with_reducible first | exact HB.out | apply below_alloc | apply pw_below_drewN | apply below_drew1) | exact HB.out)) hb); have n1_ := Aside0.mk (hbox); have n2_ := Aside0.mk ((by rw [hg]; exact (below_size (by repeat (first | (with_reducible first | exact HB.out | apply below_alloc | apply pw_below_drewN | apply below_drew1) | exact HB.out))) : w.heap.size ≤ gb523)); have n3_ := Aside0.mk ((by rw [hg]; exact (below_size (by repeat (first | (with_reducible first | exact HB.out | apply below_alloc | apply pw_below_drewN | apply below_drew1) | exact HB.out))) : w.heap.size ≤ gb523)); clear HB; have HB := n0_; have BK523 := n1_; have GW523 := n2_; have GE523 := n3_; clear n0_ n1_ n2_ n3_; clear hb hbox hg) | ((with_reducible refine gate_dst (N := 3) rfl ?_); refine box_event ?hg (N := 3) ?hd (cs := #[.int .i64 a1_0, .slice A1_1 l1_1.length c1_1]) (t := 32) ?hr ?_; (case hd => rfl); (case hg => rfl); (case hr => first | (go_simp; done) | (go_simp; rfl)); intro gb524 hg w11 hbox hb; have n0_ := Aside0.mk (blk_below (g := gb523) (o := .cells #[.int .i64 a0_0, .slice A0_1 l0_1.length c0_1] 32 (0, 0)) (by (with_reducible repeat (first | refine blk_drewN ?_ _ | refine blk_drew ?_ | refine blk_alloc ?_ _)); exact BK523.out) hb); have n1_ := Aside0.mk (below_step (by repeat (first | (with_reducible first | exact HB.out | apply below_alloc | apply pw_below_drewN | apply below_drew1 | refine below_set ?_ GE523.out) | exact HB.out)) hb); have n2_ := Aside0.mk (hbox); have n3_ := Aside0.mk ((by rw [hg]; exact (below_size (by repeat (first | (with_reducible first | exact HB.out | apply below_alloc | apply pw_below_drewN | apply below_drew1 | refine below_set ?_ GE523.out) | exact HB.out))) : w.heap.size ≤ gb524)); have n4_ := Aside0.mk ((by rw [hg]; exact (below_size (by repeat (first | (with_reducible first | exact HB.out | apply below_alloc | apply pw_below_drewN | apply below_drew1 | refine below_set ?_ GE523.out) | exact HB.out))) : w.heap.size ≤ gb524)); have n5_ := Aside0.mk ((by rw [hg]; exact Nat.ne_of_lt (blk_lt (g := gb523) (o := .cells #[.int .i64 a0_0, .slice A0_1 l0_1.length c0_1] 32 (0, 0)) (by (with_reducible repeat (first | refine blk_drewN ?_ _ | refine blk_drew ?_ | refine blk_alloc ?_ _)); exact BK523.out)) : gb523 ≠ gb524)); have n6_ := Aside0.mk ((by rw [hg]; exact Nat.ne_of_gt (blk_lt (g := gb523) (o := .cells #[.int .i64 a0_0, .slice A0_1 l0_1.length c0_1] 32 (0, 0)) (by (with_reducible repeat (first | refine blk_drewN ?_ _ | refine blk_drew ?_ | refine blk_alloc ?_ _)); exact BK523.out)) : gb524 ≠ gb523)); clear BK523; clear HB; have BK523 := n0_; have HB := n1_; have BK524 := n2_; have GW524 := n3_; have GE524 := n4_; have NB523_524 := n5_; have NB524_523 := n6_; clear n0_ n1_ n2_ n3_ n4_ n5_ n6_; clear hb hbox hg; have hnb12 := NB523_524.out; have hnc12 := NB524_523.out; have hcz13_0 : w11.cell? ⟨gb523, 0, none⟩ = some (.int .i64 a0_0) := (blk_cell BK523.out 0).trans rfl; have hcz13_1 : w11.cell? ⟨gb523, 1, none⟩ = some (.slice A0_1 l0_1.length c0_1) := (blk_cell BK523.out 1).trans rfl; have hfz13_0 := blk_frozen BK523.out 0; have hfz13_1 := blk_frozen BK523.out 1; have hcz14_0 : w11.cell? ⟨gb524, 0, none⟩ = some (.int .i64 a1_0) := (blk_cell BK524.out 0).trans rfl; have hcz14_1 : w11.cell? ⟨gb524, 1, none⟩ = some (.slice A1_1 l1_1.length c1_1) := (blk_cell BK524.out 1).trans rfl; have hfz14_0 := blk_frozen BK524.out 0; have hfz14_1 := blk_frozen BK524.out 1))
  go_ret
  exact ⟨by first | rfl | (simp [errW_none, errW_some] <;> rfl) | (simp [*, errW_none, errW_some] <;> rfl), by repeat (first | (with_reducible first | exact HB.out | apply below_alloc | apply pw_below_drewN | apply below_drew1 | refine below_set ?_ GE523.out | refine below_set ?_ GE524.out) | exact HB.out)⟩
end Go.Proofs.Ytodhkbahjomfhaa.Q

namespace Go.Proofs.Ytodhkbahjomfhaa.Gcd
open Go Go.RowKit Go.Proofs.Ytodhkbahjomfhaa.Gm Go.Proofs.Ytodhkbahjomfhaa.Gdm Go.Proofs.Ytodhkbahjomfhaa.Gch Go.Proofs.Ytodhkbahjomfhaa.Q Go.Proofs.Ytodhkbahjomfhaa.Gput Go.Proofs.Ytodhkbahjomfhaa.Gputl Go.Proofs.YtodhkbahjomfhaaW.PrintWords Go.Proofs.YtodhkbahjomfhaaW.PrintLast Go.Proofs.YtodhkbahjomfhaaW.PrintMore
open Go.Proofs.Ytodhkbahjomfhaa.Gwa (intAt wire_Int_eq)
open Go.Proofs.Ytodhkbahjomfhaa.Gwb (ref_Int_eq intAt_ok intAt_err intAt_put ref_PutInt_eq countAt countAt_ok)
open Go.Proofs.Ytodhkbahjomfhaa.Gwd (listAt wire_List_eq ref_List_eq wire_PutList_eq ref_PutList_eq listAt_put)
set_option linter.unusedVariables false
instance (n : S78) : Decidable (Proper n) := by unfold Proper; exact inferInstance
/-- The first error of a version. -/
def chk (a : Int) (l : List S78) : Int := if 1 ≤ a ∧ a < 2147483647 then (if (l.length : Int) > 256 then 4 else if l.all (fun n => decide (Proper n)) then 0 else 2) else 1
theorem proper_eq (n : S78) : manifest_proper.f n.f0 n.f1 = some (decide (Proper n)) := by
  unfold manifest_proper.f
  by_cases h1 : n.f0 ≥ 0
  · rw [if_pos h1]
    by_cases h2 : n.f0 < 2147483647
    · rw [if_pos h2]
      by_cases h3 : n.f1 ≥ 1
      · rw [if_pos h3]
        congr 1
        exact decide_eq_decide.2 ⟨fun z => ⟨h1, h2, h3, z⟩, fun z => by obtain ⟨_, _, _, q⟩ := z; exact q⟩
      · rw [if_neg h3, decide_eq_false (p := Proper n) (fun z => by obtain ⟨_, _, q, _⟩ := z; exact h3 q)]
    · rw [if_neg h2, decide_eq_false (p := Proper n) (fun z => by obtain ⟨_, q, _, _⟩ := z; exact h2 q)]
  · rw [if_neg h1, decide_eq_false (p := Proper n) (fun z => by obtain ⟨q, _, _, _⟩ := z; exact h1 q)]
theorem Check_l0' (l : List S78) (hl : l.length ≤ 256) : ∀ (d i k : Nat), l.length - i = d → i ≤ l.length → d < k → manifest_Check.l0 k l (l.length : Int) (i : Int) = some (if (l.drop i).all (fun n => decide (Proper n)) then 0 else 2) := by
  intro d
  induction d with
  | zero =>
    intro i k hd hi hk
    obtain ⟨k, rfl⟩ := nat_pred hk
    rw [manifest_Check.l0, if_neg (by omega), List.drop_of_length_le (by omega)]
    rfl
  | succ d ih =>
    intro i k hd hi hk
    obtain ⟨k, rfl⟩ := nat_pred hk
    have hil : i < l.length := by omega
    rw [manifest_Check.l0, if_pos (by omega), if_pos (by omega), if_pos (by omega), rdN l i hil, proper_eq, Option.bind_some, List.drop_eq_getElem_cons hil, List.all_cons]
    by_cases h : Proper l[i]
    · rw [decide_eq_true h, if_pos rfl, w64 (x := (i : Int) + 1) (by omega), show ((i : Int) + 1) = ((i + 1 : Nat) : Int) by omega, Bool.true_and]
      exact ih (i + 1) k (by omega) (by omega) (by omega)
    · rw [decide_eq_false h, if_neg (by simp), Bool.false_and, if_neg (by simp)]
theorem Check_eq (a : Int) (l : List S78) (k : Nat) (hk : 300 ≤ k) : manifest_Check.f k a l = some (chk a l) := by
  unfold manifest_Check.f chk
  rw [numbered_eq, Option.bind_some]
  by_cases h : 1 ≤ a ∧ a < 2147483647
  · rw [decide_eq_true h, if_pos rfl, if_pos h]
    by_cases h2 : (l.length : Int) > 256
    · rw [if_pos h2, if_pos h2]
    · rw [if_neg h2, if_neg h2]
      have := Check_l0' l (by omega) l.length 0 k (by omega) (by omega) (by omega)
      rw [List.drop_zero] at this
      exact this
  · rw [decide_eq_false h, if_neg (by simp), if_neg h]
theorem chk_zero {a : Int} {l : List S78} (h : chk a l = 0) : (1 ≤ a ∧ a < 2147483647) ∧ l.length ≤ 256 ∧ ∀ n ∈ l, Proper n := by
  unfold chk at h
  by_cases h1 : 1 ≤ a ∧ a < 2147483647
  · rw [if_pos h1] at h
    by_cases h2 : (l.length : Int) > 256
    · rw [if_pos h2] at h; omega
    · rw [if_neg h2] at h
      by_cases h3 : l.all (fun n => decide (Proper n)) = true
      · exact ⟨h1, by omega, fun n hn => by simpa using List.all_eq_true.1 h3 n hn⟩
      · rw [if_neg h3] at h; omega
  · rw [if_neg h1] at h; omega
theorem chk_ok {a : Int} {l : List S78} (h1 : 1 ≤ a ∧ a < 2147483647) (h2 : l.length ≤ 256) (h3 : ∀ n ∈ l, Proper n) : chk a l = 0 := by
  unfold chk
  rw [if_pos h1, if_neg (by omega), if_pos (List.all_eq_true.2 fun n hn => by simpa using h3 n hn)]
def flat (l : List S78) : List Int := l.flatMap (fun n => [n.f0, n.f1])
theorem flat_len (l : List S78) : (flat l).length = 2 * l.length := by
  induction l with
  | nil => rfl
  | cons x l ih => unfold flat at ih ⊢; rw [List.flatMap_cons, List.length_append, ih, List.length_cons]; simp; omega
theorem flat_snoc (l : List S78) (i : Nat) (h : i < l.length) : flat (l.take (i + 1)) = flat (l.take i) ++ [l[i].f0, l[i].f1] := by
  unfold flat
  rw [List.take_succ_eq_append_getElem h, List.flatMap_append]
  simp
theorem flat_wf {l : List S78} (h : ∀ n ∈ l, Proper n) : ∀ x ∈ flat l, (Lit.int .i64 x).wf = true := by
  intro x hx
  unfold flat at hx
  obtain ⟨n, hn, hx⟩ := List.mem_flatMap.1 hx
  obtain ⟨h1, h2, h3, h4⟩ := h n hn
  simp at hx
  rcases hx with rfl | rfl
  · exact wf64 (by omega)
  · exact wf64 (by omega)
/-- The bytes of a version, or its error. -/
def enc (a : Int) (l : List S78) : ByteArray × Int := if chk a l = 0 then (B (putI a ++ putL (flat l)), 0) else (⟨#[]⟩, chk a l)
theorem Encode_l0 (l : List S78) (hl : l.length ≤ 256) (hp : ∀ n ∈ l, Proper n) (a : Int) (ha : 1 ≤ a ∧ a < 2147483647) : ∀ (d i k : Nat), l.length - i = d → i ≤ l.length → d < k →
    manifest_Encode.l0 k (flat (l.take i)) l (l.length : Int) (i : Int) a l = some (B (putI a ++ putL (flat l)), 0) := by
  intro d
  induction d with
  | zero =>
    intro i k hd hi hk
    obtain ⟨k, rfl⟩ := nat_pred hk
    have h1 := putI_len (n := a) (by omega)
    rw [manifest_Encode.l0, if_neg (by omega), List.take_of_length_le (by omega), show (⟨#[]⟩ : ByteArray) = B [] from rfl, wire_PutInt_eq [] a (by simp) (by omega), Option.bind_some, List.nil_append, wire_PutList_eq _ _ (flat_wf hp) (by rw [flat_len]; omega), Option.bind_some]
  | succ d ih =>
    intro i k hd hi hk
    obtain ⟨k, rfl⟩ := nat_pred hk
    have hil : i < l.length := by omega
    have h0 := ih (i + 1) k (by omega) (by omega) (by omega)
    have h2 := flat_len (l.take i)
    rw [List.length_take] at h2
    rw [flat_snoc l i hil] at h0
    rw [manifest_Encode.l0, if_pos (by omega), if_pos (by omega), if_pos (by omega), Option.bind_some, if_pos (by simp only [List.length_cons, List.length_nil]; omega), rdN l i hil, w64 (x := (i : Int) + 1) (by omega), show ((i : Int) + 1) = ((i + 1 : Nat) : Int) by omega]
    exact h0
theorem Encode_eq (a : Int) (l : List S78) (k : Nat) (hk : 301 ≤ k) : manifest_Encode.f k a l = some (enc a l) := by
  unfold manifest_Encode.f enc
  rw [Check_eq a l k (by omega), Option.bind_some]
  by_cases h : chk a l = 0
  · obtain ⟨h1, h2, h3⟩ := chk_zero h
    rw [if_pos h, if_pos h]
    have := Encode_l0 l h2 h3 a h1 l.length 0 k (by omega) (by omega) (by omega)
    rw [List.take_zero] at this
    exact this
  · rw [if_neg h, if_neg h]
def pairs : List Int → List S78
  | x :: y :: r => ⟨x, y⟩ :: pairs r
  | _ => []
theorem pairs_flat : ∀ l : List S78, pairs (flat l) = l
  | [] => rfl
  | x :: l => by
    have ih := pairs_flat l
    unfold flat at ih ⊢
    rw [List.flatMap_cons]
    show pairs (x.f0 :: x.f1 :: (l.flatMap fun n => [n.f0, n.f1])) = x :: l
    rw [pairs, ih]
theorem pairs_len : ∀ l : List Int, 2 * (pairs l).length ≤ l.length
  | [] => by simp [pairs]
  | [x] => by simp [pairs]
  | x :: y :: r => by
    have := pairs_len r
    rw [pairs, List.length_cons, List.length_cons, List.length_cons]
    omega
/-- What bytes mean, or the error. -/
def dec (l : List UInt8) : Int × List S78 × Int :=
  if (intAt (B l) 0).2.2 = 0 then
    (if (listAt l (intAt (B l) 0).2.1 512).2.2 = 0 then
      (if (listAt l (intAt (B l) 0).2.1 512).2.1 < (l.length : Int) ∨ (listAt l (intAt (B l) 0).2.1 512).1.length % 2 = 1 then (0, [], 2)
       else if chk (intAt (B l) 0).1 (pairs (listAt l (intAt (B l) 0).2.1 512).1) = 0 then ((intAt (B l) 0).1, pairs (listAt l (intAt (B l) 0).2.1 512).1, 0)
       else (0, [], chk (intAt (B l) 0).1 (pairs (listAt l (intAt (B l) 0).2.1 512).1)))
     else (0, [], (listAt l (intAt (B l) 0).2.1 512).2.2))
  else (0, [], (intAt (B l) 0).2.2)
theorem rdN_facts (l : List UInt8) : ∀ (n : Nat) (a : Int) (acc : List Int), a ≤ l.length → (Gwd.rdN l n a acc).2.2 = 0 → (Gwd.rdN l n a acc).2.1 ≤ l.length ∧ (Gwd.rdN l n a acc).1.length = acc.length + n
  | 0, a, acc, h, _ => ⟨h, rfl⟩
  | n + 1, a, acc, h, h2 => by
    rw [Gwd.rdN] at h2 ⊢
    by_cases e : (intAt (B l) a).2.2 = 0
    · rw [if_pos e] at h2 ⊢
      have hok : intAt (B l) a = ((intAt (B l) a).1, (intAt (B l) a).2.1, 0) := by
        rw [← e]
      have h3 := intAt_ok hok
      have h4 := rdN_facts l n _ _ h3.2.2.1 h2
      refine ⟨h4.1, ?_⟩
      rw [h4.2, List.length_append, List.length_singleton]
      omega
    · rw [if_neg e] at h2
      exact absurd h2 e
theorem listAt_facts {l : List UInt8} {a : Int} (h : (listAt l a 512).2.2 = 0) : (listAt l a 512).2.1 ≤ l.length ∧ (listAt l a 512).1.length ≤ 512 := by
  unfold listAt at h ⊢
  by_cases e : (countAt l a 512).2.2 = 0
  · rw [if_pos e] at h ⊢
    have hok : countAt l a 512 = ((countAt l a 512).1, (countAt l a 512).2.1, 0) := by rw [← e]
    have h3 := countAt_ok hok
    have h4 := intAt_ok h3.1
    have h5 := rdN_facts l _ _ [] h4.2.2.1 h
    exact ⟨h5.1, by rw [h5.2, List.length_nil]; omega⟩
  · rw [if_neg e] at h
    exact absurd h e
theorem rd_at (xs : List Int) (i : Nat) : rd xs (i : Int) = xs.getD i 0 := by simp [rd]
theorem pairs_take (xs : List Int) (m : Nat) (h : 2 * m + 1 < xs.length) : pairs (xs.take (2 * m)) ++ [⟨xs.getD (2 * m) 0, xs.getD (2 * m + 1) 0⟩] = pairs (xs.take (2 * (m + 1))) := by
  induction m generalizing xs with
  | zero =>
    match xs, h with
    | x :: y :: r, h => simp [pairs]
  | succ m ih =>
    match xs, h with
    | x :: y :: r, h =>
      have h2 := ih r (by simp only [List.length_cons] at h; omega)
      rw [show 2 * (m + 1) = 2 * m + 1 + 1 by omega, show 2 * (m + 1 + 1) = 2 * (m + 1) + 1 + 1 by omega, List.take_succ_cons, List.take_succ_cons, List.take_succ_cons, List.take_succ_cons, pairs, pairs, ← h2]
      rfl
theorem Decode_l0 (xs : List Int) (hx : xs.length ≤ 512) (he : xs.length % 2 = 0) (a : Int) : ∀ (d m k : Nat), xs.length - 2 * m = 2 * d → 2 * m ≤ xs.length → d + 301 ≤ k →
    manifest_Decode.l0 k xs ((2 * m : Nat) : Int) a (pairs (xs.take (2 * m))) = some (if chk a (pairs xs) = 0 then (a, pairs xs, 0) else (0, [], chk a (pairs xs))) := by
  intro d
  induction d with
  | zero =>
    intro m k hd hm hk
    obtain ⟨k, rfl⟩ := nat_pred (show 0 < k by omega)
    rw [manifest_Decode.l0, if_neg (by omega), List.take_of_length_le (by omega), Check_eq _ _ k (by omega), Option.bind_some]
    split <;> rfl
  | succ d ih =>
    intro m k hd hm hk
    obtain ⟨k, rfl⟩ := nat_pred (show 0 < k by omega)
    have h1 : 2 * m + 1 < xs.length := by omega
    have hl := pairs_len (xs.take (2 * m))
    rw [List.length_take] at hl
    have h0 := ih (m + 1) k (by omega) (by omega) (by omega)
    rw [← pairs_take xs m h1] at h0
    rw [manifest_Decode.l0, if_pos (by omega), if_pos (by omega), w64 (x := ((2 * m : Nat) : Int) + 1) (by omega), w64 (x := ((2 * m : Nat) : Int) + 2) (by omega), if_pos (by omega), if_pos (by omega), if_pos (by omega), rd_at xs (2 * m), show (((2 * m : Nat) : Int) + 1) = ((2 * m + 1 : Nat) : Int) by omega, rd_at xs (2 * m + 1), show (((2 * m : Nat) : Int) + 2) = ((2 * (m + 1) : Nat) : Int) by omega]
    exact h0
theorem Decode_eq (l : List UInt8) (k : Nat) (hs : l.length ≤ 1000000) (hk : l.length + 1000 ≤ k) : manifest_Decode.f k (B l) = some (dec l) := by
  unfold manifest_Decode.f dec
  rw [wire_Int_eq (B l) 0 k (by rw [B_size]; omega) (by omega), Option.bind_some]
  by_cases h1 : (intAt (B l) 0).2.2 = 0
  · rw [if_pos h1, if_pos h1, wire_List_eq l _ _ k (by omega) (by omega), Option.bind_some]
    by_cases h2 : (listAt l (intAt (B l) 0).2.1 512).2.2 = 0
    · rw [if_pos h2, if_pos h2, B_size]
      obtain ⟨h3, h4⟩ := listAt_facts h2
      generalize listAt l (intAt (B l) 0).2.1 512 = q at h2 h3 h4 ⊢
      obtain ⟨k, rfl⟩ := nat_pred (show 0 < k by omega)
      by_cases h5 : q.2.1 < (l.length : Int)
      · rw [if_pos h5, if_pos (Or.inl h5), manifest_Decode.j0, if_pos rfl]
      · rw [if_neg h5]
        by_cases h6 : q.1.length % 2 = 1
        · rw [if_pos (Or.inr h6), show (((q.1.length : Int) % 2) == 1) = true from beq_iff_eq.2 (by omega), manifest_Decode.j0, if_pos rfl]
        · rw [if_neg (by rintro (z | z); exact h5 z; exact h6 z), show (((q.1.length : Int) % 2) == 1) = false from beq_eq_false_iff_ne.2 (by omega), manifest_Decode.j0, if_neg (by simp)]
          have := Decode_l0 q.1 h4 (by omega) (intAt (B l) 0).1 (q.1.length / 2) 0 k (by omega) (by omega) (by omega)
          rw [Nat.mul_zero, List.take_zero] at this
          exact this
    · rw [if_neg h2, if_neg h2]
  · rw [if_neg h1, if_neg h1]
instance : DecidableEq S78 := fun x y => decidable_of_iff (x.f0 = y.f0 ∧ x.f1 = y.f1) (by cases x; cases y; simp)
theorem refSum_l0 (s : ByteArray) (hs : s.size ≤ 9223372036854775807) : ∀ (n i k : Nat) (d : Int), s.size - i = n → i ≤ s.size → 0 ≤ d ∧ d < 2147483647 → n < k → storagebarterref02_Sum.l0 k s d i = some (dg d (s.data.toList.drop i)) := by
  intro n
  induction n with
  | zero =>
    intro i k d hn hi hd hk
    obtain ⟨k, rfl⟩ := nat_pred hk
    rw [storagebarterref02_Sum.l0, if_neg (by omega), List.drop_of_length_le (by rw [data_length]; omega)]
    rfl
  | succ n ih =>
    intro i k d hn hi hd hk
    obtain ⟨k, rfl⟩ := nat_pred hk
    have hlt : i < s.size := by omega
    rw [storagebarterref02_Sum.l0, if_pos (by omega), if_pos (by omega), sum_step s d i hd hlt, w64 (by omega), show ((i : Int) + 1) = ((i + 1 : Nat) : Int) by omega, ih (i + 1) k _ (by omega) (by omega) (by omega) (by omega), List.drop_eq_getElem_cons (show i < s.data.toList.length by rw [data_length]; exact hlt)]
    rfl
theorem refName_eq (s : ByteArray) (hs : s.size ≤ 9223372036854775807) (k : Nat) (hk : s.size < k) : storagebarterref08_Name.f k s = some (dg 1 s.data.toList, (s.size : Int)) := by
  unfold storagebarterref08_Name.f storagebarterref02_Sum.f
  have := refSum_l0 s hs s.size 0 k 1 (by omega) (by omega) (by omega) hk
  rw [show ((0 : Nat) : Int) = 0 from rfl, List.drop_zero] at this
  rw [this]
  rfl
end Go.Proofs.Ytodhkbahjomfhaa.Gcd

namespace Go.Proofs.Ytodhkbahjomfhaa.Gcv
open Go Go.RowKit Go.Proofs.Ytodhkbahjomfhaa.Gm Go.Proofs.Ytodhkbahjomfhaa.Gdm Go.Proofs.Ytodhkbahjomfhaa.Gch Go.Proofs.Ytodhkbahjomfhaa.Gcd Go.Proofs.Ytodhkbahjomfhaa.Q Go.Proofs.YtodhkbahjomfhaaW.PrintWords Go.Proofs.YtodhkbahjomfhaaW.PrintLast Go.Proofs.YtodhkbahjomfhaaW.PrintMore
set_option linter.unusedVariables false
theorem rdS (l : List ByteArray) (i : Nat) (h : i < l.length) : rdOf ByteArray.empty l (i : Int) = l[i] := by simp [rdOf, List.getD, h]
/-- What 'Of' of the reference answers for good chunks. -/
def OfR (a : Int) (cs : List ByteArray) (r : Int × List S78 × Int) : Prop := r = (0, [], 8) ∨ r = (a, cs.map nameS, 0)
theorem refOf_l2 (cs : List ByteArray) (hl : cs.length ≤ 100) (a : Int) (i : Nat) (hi : i < cs.length) (K : Nat) (hn : ∀ k, K ≤ k → ∃ r, storagebarterref08_Of.l1 k cs (cs.length : Int) ((i + 1 : Nat) : Int) a (cs.map nameS) = some r ∧ OfR a cs r) :
    ∀ (d j k : Nat), i - j = d → j ≤ i → K + d < k → ∃ r, storagebarterref08_Of.l2 k cs (i : Int) (cs.length : Int) (i : Int) (i : Int) (j : Int) a (cs.map nameS) = some r ∧ OfR a cs r := by
  intro d
  induction d with
  | zero =>
    intro j k hd hj hk
    obtain ⟨k, rfl⟩ := nat_pred (show 0 < k by omega)
    rw [storagebarterref08_Of.l2, if_neg (by omega), w64 (x := (i : Int) + 1) (by omega), show ((i : Int) + 1) = ((i + 1 : Nat) : Int) by omega]
    exact hn k (by omega)
  | succ d ih =>
    intro j k hd hj hk
    obtain ⟨k, rfl⟩ := nat_pred (show 0 < k by omega)
    have h0 := ih (j + 1) k (by omega) (by omega) (by omega)
    have hml : (cs.map nameS).length = cs.length := List.length_map _
    rw [storagebarterref08_Of.l2, if_pos (by omega), if_pos (by omega), if_pos (by omega), if_pos (by omega), if_pos (by omega), w64 (x := (j : Int) + 1) (by omega), show ((j : Int) + 1) = ((j + 1 : Nat) : Int) by omega, if_pos (show (i : Int) < (cs.length : Int) by omega), if_pos (show (j : Int) < (cs.length : Int) by omega)]
    split
    · split
      · exact h0
      · exact ⟨_, rfl, .inl rfl⟩
    · exact h0
theorem refOf_l1 (cs : List ByteArray) (hl : cs.length ≤ 100) (a : Int) : ∀ (d i k : Nat), cs.length - i = d → i ≤ cs.length → 102 * d < k → ∃ r, storagebarterref08_Of.l1 k cs (cs.length : Int) (i : Int) a (cs.map nameS) = some r ∧ OfR a cs r := by
  intro d
  induction d with
  | zero =>
    intro i k hd hi hk
    obtain ⟨k, rfl⟩ := nat_pred (show 0 < k by omega)
    rw [storagebarterref08_Of.l1, if_neg (by omega)]
    exact ⟨_, rfl, .inr rfl⟩
  | succ d ih =>
    intro i k hd hi hk
    obtain ⟨k, rfl⟩ := nat_pred (show 0 < k by omega)
    have hil : i < cs.length := by omega
    rw [storagebarterref08_Of.l1, if_pos (by omega), if_pos (by omega), if_pos (by omega), Int.toNat_natCast, List.length_take, Nat.min_eq_left (by omega)]
    exact refOf_l2 cs hl a i hil (102 * d + 1) (fun k' hk' => ih (i + 1) k' (by omega) (by omega) (by omega)) i 0 k (by omega) (by omega) (by omega)
theorem refOf_l0 (cs : List ByteArray) (hl : cs.length ≤ 100) (hc : ∀ c ∈ cs, 1 ≤ c.size ∧ c.size ≤ 256) (a : Int) : ∀ (d i k : Nat), cs.length - i = d → i ≤ cs.length → 11000 + d < k → ∃ r, storagebarterref08_Of.l0 k cs cs (cs.length : Int) (i : Int) a ((cs.take i).map nameS) = some r ∧ OfR a cs r := by
  intro d
  induction d with
  | zero =>
    intro i k hd hi hk
    obtain ⟨k, rfl⟩ := nat_pred (show 0 < k by omega)
    rw [storagebarterref08_Of.l0, if_neg (by omega), List.take_of_length_le (by omega)]
    exact refOf_l1 cs hl a cs.length 0 k (by omega) (by omega) (by omega)
  | succ d ih =>
    intro i k hd hi hk
    obtain ⟨k, rfl⟩ := nat_pred (show 0 < k by omega)
    have hil : i < cs.length := by omega
    have h0 := ih (i + 1) k (by omega) (by omega) (by omega)
    have h1 := hc _ (List.getElem_mem hil)
    have hml : ((cs.take i).map nameS).length = i := by rw [List.length_map, List.length_take]; omega
    rw [List.take_succ_eq_append_getElem hil, List.map_append, List.map_singleton, nameS_eq _ (by omega)] at h0
    rw [storagebarterref08_Of.l0, if_pos (by omega), if_pos (by omega), if_pos (by omega), rdS cs i hil, if_neg (by omega), if_neg (by omega), refName_eq _ (by omega) k (by omega), Option.bind_some, if_pos (by omega), w64 (x := (i : Int) + 1) (by omega), show ((i : Int) + 1) = ((i + 1 : Nat) : Int) by omega]
    exact h0
theorem refOf_ok (cs : List ByteArray) (hl : cs.length ≤ 100) (hc : ∀ c ∈ cs, 1 ≤ c.size ∧ c.size ≤ 256) (a : Int) (ha : 1 ≤ a ∧ a < 2147483647) (k : Nat) (hk : 11200 < k) : ∃ r, storagebarterref08_Of.f k a cs = some r ∧ OfR a cs r := by
  unfold storagebarterref08_Of.f
  obtain ⟨k, rfl⟩ := nat_pred (show 0 < k by omega)
  rw [if_neg (by omega), decide_eq_false (by omega), storagebarterref08_Of.j0, if_neg (by simp), if_neg (by omega)]
  have := refOf_l0 cs hl hc a cs.length 0 k (by omega) (by omega) (by omega)
  rw [List.take_zero] at this
  exact this
/-- A version of chunks: none, or a right one of at most sixty names. -/
theorem Version_ok (L : List Int) (hL : L.length ≤ 1000000) (at_ : Int) (h0 : 0 ≤ at_) (k : Nat) (hk : 11200 < k) : ∃ a ns at', storagebartermake_Version.f k L at_ = some (a, ns, at') ∧ 0 ≤ at' ∧ (a = 0 ∨ chk a ns = 0 ∧ ns.length ≤ 60) := by
  unfold storagebartermake_Version.f
  obtain ⟨t, a1, e1, p1, q1, h1⟩ := next_ok L at_ 9 (by omega) (by omega) h0 hL
  rw [e1, Option.bind_some]
  obtain ⟨cs, a2, e2, h2, hc1, hc2⟩ := Chunks_ok L hL a1 h1 k (by omega)
  rw [e2, Option.bind_some]
  dsimp only
  rw [w64 (x := 1 + t) (by omega)]
  have hc3 : ∀ c ∈ cs, 1 ≤ c.size ∧ c.size ≤ 256 := fun c hc => by have := hc2 c hc; omega
  obtain ⟨r, e3, hr⟩ := refOf_ok cs (by omega) hc3 (1 + t) (by omega) k hk
  rw [e3, Option.bind_some]
  refine ⟨_, _, _, rfl, h2, ?_⟩
  rcases hr with rfl | rfl
  · exact .inl rfl
  · exact .inr ⟨chk_ok (by simp only; omega) (by simp only [List.length_map]; omega) (names_proper cs hc3), by simp only [List.length_map]; omega⟩
end Go.Proofs.Ytodhkbahjomfhaa.Gcv

namespace Go.Proofs.Ytodhkbahjomfhaa.Gcr
open Go Go.RowKit Go.Proofs.Ytodhkbahjomfhaa.Gm Go.Proofs.Ytodhkbahjomfhaa.Gdm Go.Proofs.Ytodhkbahjomfhaa.Gch Go.Proofs.Ytodhkbahjomfhaa.Q Go.Proofs.Ytodhkbahjomfhaa.Gput Go.Proofs.Ytodhkbahjomfhaa.Gputl Go.Proofs.YtodhkbahjomfhaaW.PrintWords Go.Proofs.YtodhkbahjomfhaaW.PrintLast Go.Proofs.YtodhkbahjomfhaaW.PrintMore
set_option linter.unusedVariables false
def sA : ByteArray := ⟨#[97, 98]⟩
def sC : ByteArray := ⟨#[99]⟩
theorem sA_size : sA.size = 2 := rfl
theorem sC_size : sC.size = 1 := rfl
theorem nA : nm sA = (dg 1 [97, 98], 2) := nm_eq sA (by rw [sA_size]; omega)
theorem nC : nm sC = (dg 1 [99], 1) := nm_eq sC (by rw [sC_size]; omega)
theorem nAC : nm sA ≠ nm sC := by rw [nA, nC]; intro h; exact absurd (Prod.mk.inj h).2 (by omega)
theorem putI_1 : putI 1 = [2] := by
  unfold putI
  rw [show zig 1 = 2 by decide, grp_last (by omega)]
  rfl
theorem putI_0 : putI 0 = [0] := by
  unfold putI
  rw [show zig 0 = 0 by decide, grp_last (by omega)]
  rfl
theorem encode_one (k : Nat) (hk : 300 < k) : manifest_Encode.f k 1 [] = some (B [2, 0], 0) := by
  unfold manifest_Encode.f
  rw [Check_ok 1 (by omega) [] (by simp) (by simp) k (by omega), Option.bind_some, if_pos rfl]
  obtain ⟨k, rfl⟩ := nat_pred hk
  rw [manifest_Encode.l0, if_neg (by simp), show (⟨#[]⟩ : ByteArray) = B [] from rfl, wire_PutInt_eq [] 1 (by simp) (by omega), Option.bind_some]
  unfold wire_PutList.f
  rw [if_pos ⟨by rw [B_size, putI_1]; simp, by simp⟩, Option.bind_some, putI_1]
  unfold putL
  simp only [List.length_nil, Int.natCast_zero, putI_0]
  rfl
theorem sane_ok (k : Nat) (hk : 300 < k) : storagebarterlaw08_sane.f k = some true := by
  have hb : ∀ c ∈ [sA, sC, sA], 1 ≤ c.size ∧ c.size ≤ 256 := by
    intro c hc
    simp only [List.mem_cons, List.not_mem_nil, or_false] at hc
    rcases hc with rfl | rfl | rfl
    · rw [sA_size]; omega
    · rw [sC_size]; omega
    · rw [sA_size]; omega
  have hg : ofGo [] [sA, sC, sA] = false := by
    rw [ofGo, lookS_nil]
    simp only
    rw [ofGo, lookS_snoc, if_neg (by exact nAC), lookS_nil]
    simp only
    rw [ofGo, lookS_snoc, if_neg (fun h => nAC h.symm), lookS_snoc, if_pos rfl]
    simp only [if_true]
    rw [ofGo]
  have h1 := Of_ok 1 (by omega) [] (by simp) (by simp)
  rw [ofGo, if_neg (by simp)] at h1
  have h2 := Of_ok 2 (by omega) [sA, sC, sA] (by simp) hb
  rw [hg, if_neg (by simp)] at h2
  have hp : ∀ n ∈ ([sA, sC, sA] : List ByteArray).map nameS, Proper n := names_proper _ hb
  have hc : reC [] [sC, sA] [] = [] := by
    rw [reC, lookS_nil]
    simp only
    rw [reC, lookS_snoc, if_neg (fun h => nAC h.symm), lookS_nil]
    simp only
    rw [reC]
  have lA : lookS [sC, sA] (nm sA).1 (nm sA).2 = some sA := by
    rw [show [sC, sA] = [sC] ++ [sA] from rfl, lookS_snoc, if_pos rfl]
  have lC : lookS [sC, sA] (nm sC).1 (nm sC).2 = some sC := by
    rw [show [sC, sA] = [sC] ++ [sA] from rfl, lookS_snoc, if_neg (by exact nAC), show [sC] = [] ++ [sC] from rfl, lookS_snoc, if_pos rfl]
  have h3 := Restore_ok 2 (by omega) (([sA, sC, sA] : List ByteArray).map nameS) (by simp) hp [sC, sA] (by simp) (by
    intro s hs
    simp only [List.mem_cons, List.not_mem_nil, or_false] at hs
    rcases hs with rfl | rfl
    · rw [sC_size]; omega
    · rw [sA_size]; omega)
  have h4 : reGo [sC, sA] [] [] (([sA, sC, sA] : List ByteArray).map nameS) = (B [97, 98, 99, 97, 98], 0) := by
    simp only [List.map_cons, List.map_nil, nameS]
    rw [reGo]
    simp only [lA, List.not_mem_nil, if_false]
    rw [reGo]
    simp only [lC, List.not_mem_nil, if_false]
    rw [reGo]
    simp only [lA, List.not_mem_nil, if_false]
    rw [reGo]
    rfl
  rw [hc, h4] at h3
  have h5 := Size_ok 2 (by omega) (([sA, sC, sA] : List ByteArray).map nameS) (by simp) hp k (by omega)
  have h6 : sumN (([sA, sC, sA] : List ByteArray).map nameS) = 5 := by
    unfold sumN
    simp only [List.map_cons, List.map_nil, nameS, nA, nC, List.sum_cons, List.sum_nil]
    omega
  rw [h6] at h5
  unfold storagebarterlaw08_sane.f
  rw [h1, Option.bind_some]
  dsimp only
  rw [List.map_nil, encode_one k hk, Option.bind_some]
  show (manifest_Of.f 2 [sA, sC, sA]).bind _ = _
  rw [h2, Option.bind_some]
  dsimp only
  show (manifest_Restore.f 2 _ [sC, sA]).bind _ = _
  rw [h3, Option.bind_some, h5, Option.bind_some]
  dsimp only
  rw [if_pos rfl, if_pos rfl, if_pos rfl, if_pos rfl, if_pos rfl, if_pos (by rw [B_toList]), if_pos (by rw [B_toList])]
  rfl
end Go.Proofs.Ytodhkbahjomfhaa.Gcr

namespace Go.Proofs.Ytodhkbahjomfhaa.Pure
open Go Go.RowKit Go.Proofs.Ytodhkbahjomfhaa.Gm Go.Proofs.Ytodhkbahjomfhaa.Gdm Go.Proofs.Ytodhkbahjomfhaa.Gch Go.Proofs.Ytodhkbahjomfhaa.Gcd Go.Proofs.Ytodhkbahjomfhaa.Gcv Go.Proofs.Ytodhkbahjomfhaa.Gcr Go.Proofs.Ytodhkbahjomfhaa.Gbk Go.Proofs.Ytodhkbahjomfhaa.Q Go.Proofs.YtodhkbahjomfhaaW.PrintWords Go.Proofs.YtodhkbahjomfhaaW.PrintLast Go.Proofs.YtodhkbahjomfhaaW.PrintMore
open Go.Proofs.Ytodhkbahjomfhaa.Gwa (intAt)
open Go.Proofs.Ytodhkbahjomfhaa.Gwb (intAt_put)
open Go.Proofs.Ytodhkbahjomfhaa.Gwd (listAt listAt_put)
set_option linter.unusedVariables false
theorem equal_l0 (x y : List S78) (hl : x.length = y.length) (hx : x.length ≤ 1000000) : ∀ (d i k : Nat), x.length - i = d → i ≤ x.length → d < k → api_Name_83.l0 k x y (x.length : Int) (i : Int) = some (decide (x.drop i = y.drop i)) := by
  intro d
  induction d with
  | zero =>
    intro i k hd hi hk
    obtain ⟨k, rfl⟩ := nat_pred hk
    rw [api_Name_83.l0, if_neg (by omega), List.drop_of_length_le (by omega), List.drop_of_length_le (by omega)]
    simp
  | succ d ih =>
    intro i k hd hi hk
    obtain ⟨k, rfl⟩ := nat_pred hk
    have h1 : i < x.length := by omega
    have h2 : i < y.length := by omega
    rw [api_Name_83.l0, if_pos (by omega), if_pos (by omega), if_pos (by omega), if_pos (by omega), rdN x i h1, rdN y i h2, List.drop_eq_getElem_cons h1, List.drop_eq_getElem_cons h2]
    by_cases he : x[i] = y[i]
    · rw [if_neg (by rw [he]; simp), w64 (x := (i : Int) + 1) (by omega), show ((i : Int) + 1) = ((i + 1 : Nat) : Int) by omega, ih (i + 1) k (by omega) (by omega) (by omega)]
      simp only [List.cons.injEq, he, true_and]
    · rw [if_pos]
      · simp only [List.cons.injEq, he, false_and, decide_false]
      · by_cases h0 : x[i].f0 = y[i].f0
        · by_cases h3 : x[i].f1 = y[i].f1
          · exact absurd (by cases hxx : x[i]; cases hyy : y[i]; rw [hxx, hyy] at h0 h3; simp only at h0 h3; rw [h0, h3]) he
          · simp [h3]
        · simp [h0]
theorem Same_eq (a b : Int) (x y : List S78) (k : Nat) (hx : x.length ≤ 1000000) (hk : x.length < k) : manifest_Same.f k a x b y = some (decide (a = b ∧ x = y)) := by
  unfold manifest_Same.f
  by_cases h : a = b
  · have he : api_Name_83.f k x y = some (decide (x = y)) := by
      unfold api_Name_83.f
      by_cases h2 : (x.length : Int) = (y.length : Int)
      · rw [if_pos h2]
        have := equal_l0 x y (by omega) hx x.length 0 k (by omega) (by omega) hk
        rw [List.drop_zero, List.drop_zero] at this
        exact this
      · rw [if_neg h2, decide_eq_false (fun e => h2 (by rw [e]))]
    rw [if_pos h, he, Option.bind_some]
    congr 1
    exact decide_eq_decide.2 ⟨fun z => ⟨h, z⟩, fun z => z.2⟩
  · rw [if_neg h, decide_eq_false (fun z => h z.1)]
theorem dec_enc (a : Int) (ns : List S78) (hc : chk a ns = 0) : dec (putI a ++ putL (flat ns)) = (a, ns, 0) := by
  obtain ⟨ha, hl, hp⟩ := chk_zero hc
  have h1 := intAt_put [] (putL (flat ns)) a (by omega)
  rw [List.nil_append] at h1
  have h2 := listAt_put (putI a) [] (flat ns) 512 (flat_wf hp) (by rw [flat_len]; omega) (by rw [flat_len]; omega)
  rw [List.append_nil] at h2
  have h1' : intAt (B (putI a ++ putL (flat ns))) 0 = (a, ((putI a).length : Int), 0) := by simpa using h1
  unfold dec
  rw [h1']
  dsimp only
  rw [if_pos rfl, h2]
  dsimp only
  rw [if_pos rfl, if_neg (by rw [List.length_append]; rintro (z | z); omega; rw [flat_len] at z; omega), pairs_flat, if_pos hc]
theorem enc_len (a : Int) (ns : List S78) (hc : chk a ns = 0) (hn : ns.length ≤ 60) : (putI a ++ putL (flat ns)).length ≤ 5000 := by
  obtain ⟨ha, hl, hp⟩ := chk_zero hc
  have hw2 := putI_len (n := a) (by omega)
  have h1 : ∀ l : List Int, (∀ x ∈ l, (Lit.int .i64 x).wf = true) → (l.flatMap putI).length ≤ 10 * l.length := by
    intro l
    induction l with
    | nil => intro _; simp
    | cons x l ih =>
      intro h
      have := ih (fun y hy => h y (List.mem_cons_of_mem _ hy))
      have h2 := putI_len (bounds_i64 (h x List.mem_cons_self))
      rw [List.flatMap_cons, List.length_append, List.length_cons]
      omega
  have h2 := h1 (flat ns) (flat_wf hp)
  have h3 := flat_len ns
  have h4 := putI_len (n := ((flat ns).length : Int)) (by omega)
  unfold putL
  rw [List.length_append, List.length_append]
  omega
theorem ManifestBack (L M : List Int) : ∃ K a b ns ms at1 at2 s u rs, storagebarterlaw08_sane.f K = some true ∧ ((L.length : Int) ≤ 500 → (M.length : Int) ≤ 500 → Back K L M a b ns ms at1 at2 s u rs) := by
  by_cases hl : (L.length : Int) ≤ 500 ∧ (M.length : Int) ≤ 500
  case neg => exact ⟨20000, 0, 0, [], [], 0, 0, ByteArray.empty, ByteArray.empty, false, sane_ok _ (by omega), fun h1 h2 => absurd ⟨h1, h2⟩ hl⟩
  case pos =>
  obtain ⟨hl1, hl2⟩ := hl
  obtain ⟨a, ns, at1, e1, -, h1⟩ := Version_ok L (by omega) 0 (by omega) 20000 (by omega)
  obtain ⟨b, ms, at2, e2, -, h2⟩ := Version_ok M (by omega) 0 (by omega) 20000 (by omega)
  refine ⟨20000, a, b, ns, ms, at1, at2, B (putI a ++ putL (flat ns)), B (putI b ++ putL (flat ms)), decide (a = b ∧ ns = ms), sane_ok _ (by omega), fun _ _ => ⟨e1, e2, ?_, ?_, ?_, ?_, ?_, ?_⟩⟩
  · intro ha hb
    obtain ⟨hc, hn⟩ := h1.resolve_left ha
    rw [Encode_eq a ns _ (by omega)]
    unfold enc
    rw [if_pos hc]
  · intro ha hb
    obtain ⟨hc, hn⟩ := h2.resolve_left hb
    rw [Encode_eq b ms _ (by omega)]
    unfold enc
    rw [if_pos hc]
  · intro ha hb
    obtain ⟨hc, hn⟩ := h1.resolve_left ha
    have h3 := enc_len a ns hc hn
    rw [Decode_eq _ 20000 (by omega) (by omega), dec_enc a ns hc]
  · intro ha hb
    obtain ⟨hc, hn⟩ := h1.resolve_left ha
    rw [Same_eq _ _ _ _ _ (by omega) (by omega), decide_eq_true ⟨rfl, rfl⟩]
  · intro ha hb
    obtain ⟨hc, hn⟩ := h1.resolve_left ha
    exact Same_eq _ _ _ _ _ (by omega) (by omega)
  · intro ha hb
    obtain ⟨hc, hn⟩ := h1.resolve_left ha
    obtain ⟨hc2, hn2⟩ := h2.resolve_left hb
    by_cases h : a = b ∧ ns = ms
    · obtain ⟨rfl, rfl⟩ := h
      rw [decide_eq_true ⟨rfl, rfl⟩]
      exact beq_self_eq_true _
    · rw [decide_eq_false h, beq_eq_false_iff_ne]
      intro hq
      rw [B_toList, B_toList] at hq
      have h3 := dec_enc a ns hc
      rw [hq, dec_enc b ms hc2] at h3
      simp only [Prod.mk.injEq] at h3
      exact h ⟨h3.1.symm, h3.2.1.symm⟩
end Go.Proofs.Ytodhkbahjomfhaa.Pure

namespace Go.Proofs.Ytodhkbahjomfhaa.manifestBack
open Go.ChangeShapes Go.WideShapes Go.ChangeAt Go.RowKit
open Go.ChangeMaps (open_string shut_string)
set_option linter.unusedVariables false
theorem own : ownKnob Try.prog.godebug = none := by kernel_rfl
theorem laidOut : laidOutB Try.prog = true := by kernel_rfl
def IsRow (k : IntKind) (w : World) (a : Option Addr) (len cap : Nat) (zs : List Int) : Prop :=
  (a = none ∧ len = 0 ∧ cap = 0 ∧ zs = []) ∨
  ∃ x, a = some x ∧ len ≤ cap ∧ cap ≤ maxLen ∧ zs.length = cap ∧ (∀ i, i < zs.length → w.cell? (x.add i) = some (.int k (zs.getD i 0))) ∧ ∀ n ∈ zs, (Lit.int k n).wf = true
set_option maxRecDepth 100000 in
theorem lifted (os : Os) (started : os.Started) (H : Type) (enc : TypeId × Value → H) :
    ReturnsInHanded {} Try.checked os 8 .any (Rows.manifestBackSpec.pre6 enc Try.prog Try.f8 Rows.manifestBackRow.domain false) (Rows.manifestBackSpec.post enc Try.prog Try.f8 false true false false) := by
  refine returnsInHanded_of_change_sized (C := Try.checked) own started (by kernel_rfl) Try.func8
    (ChangeSpec.witness6 (enc := enc) (C := Try.checked) false ⟨#[], #[.slice none 0 0, .slice none 0 0], []⟩ 8 (by kernel_rfl) (by kernel_rfl) (by kernel_rfl) (by kernel_rfl)) ?_
  intro W base args ds gs before hval0 hW hcnd hsz0 _
  have hsz : (DataW.weightsEach Try.prog (Try.f8.params.toList ++ Rows.manifestBackSpec.plain.varTypes Try.prog) (ds ++ gs)).all (· ≤ reachBytes) = true := hsz0
  have hval : ∀ (j : Nat) t v, Try.f8.params[j]? = some t → args[j]? = some v → Value.okWide Try.prog W .any base t v := hval0
  have hW' := hW
  obtain ⟨p, q, hA0, hV, rfl, hfz, hnd⟩ := hW
  have hA : DataW.TrodAll enc Try.prog W 0 (fun _ => true) true Try.f8.params.toList args.toList ds p := hA0
  rw [Try.params8] at hA hval hsz
  obtain ⟨v0, vs0, d0, ds0, p0, q0, hargs, rfl, rfl, h0, r0⟩ := trodAll_cons hA
  obtain ⟨v1, vs1, d1, ds1, p1, q1, rfl, rfl, rfl, h1, r1⟩ := trodAll_cons r0
  obtain ⟨rfl, rfl, rfl⟩ := trodAll_nil r1
  obtain rfl : args = #[v0, v1] := by cases args; simp_all
  obtain ⟨rfl, rfl⟩ := trodVars_none hV
  obtain ⟨A0, len0, cap0, rfl⟩ := okWide_slice Try.underlying22 (hval 0 22 v0 rfl rfl)
  have k0 := h0
  have lt0 : ∀ x ∈ p0, x.block < W.heap.size := by obtain ⟨m, hm⟩ := k0; exact DataW.trod_lt m _ _ _ hm
  have y0 : len0 * 8 ≤ 140737488351232 := Go.Proofs.YtodhkbahjomfhaaW.PrintWords.sized_ints hsz (j := 0) (t := 22) rfl rfl Try.underlying22 Try.underlying3 (by kernel_rfl) (by kernel_rfl) h0
  obtain ⟨z0, w0⟩ : ∃ zs, IsRow .i64 W A0 len0 cap0 zs := by
    obtain ⟨fuel, hf⟩ := h0
    rcases open_ints Try.underlying22 Try.underlying3 (by kernel_rfl) hf with ⟨hcs, _⟩ | ⟨x, l, c, zs, hcs, _, hl, hm, hz, _, hcell, hwz⟩
    · simp [Value.cells] at hcs
      obtain ⟨rfl, rfl, rfl⟩ := hcs
      exact ⟨[], .inl ⟨rfl, rfl, rfl, rfl⟩⟩
    · simp [Value.cells] at hcs
      obtain ⟨rfl, rfl, rfl⟩ := hcs
      exact ⟨zs, .inr ⟨_, rfl, hl, hm, by simpa using hz, hcell, hwz⟩⟩
  obtain ⟨A1, len1, cap1, rfl⟩ := okWide_slice Try.underlying22 (hval 1 22 v1 rfl rfl)
  have k1 := h1
  have lt1 : ∀ x ∈ p1, x.block < W.heap.size := by obtain ⟨m, hm⟩ := k1; exact DataW.trod_lt m _ _ _ hm
  have y1 : len1 * 8 ≤ 140737488351232 := Go.Proofs.YtodhkbahjomfhaaW.PrintWords.sized_ints hsz (j := 1) (t := 22) rfl rfl Try.underlying22 Try.underlying3 (by kernel_rfl) (by kernel_rfl) h1
  obtain ⟨z1, w1⟩ : ∃ zs, IsRow .i64 W A1 len1 cap1 zs := by
    obtain ⟨fuel, hf⟩ := h1
    rcases open_ints Try.underlying22 Try.underlying3 (by kernel_rfl) hf with ⟨hcs, _⟩ | ⟨x, l, c, zs, hcs, _, hl, hm, hz, _, hcell, hwz⟩
    · simp [Value.cells] at hcs
      obtain ⟨rfl, rfl, rfl⟩ := hcs
      exact ⟨[], .inl ⟨rfl, rfl, rfl, rfl⟩⟩
    · simp [Value.cells] at hcs
      obtain ⟨rfl, rfl, rfl⟩ := hcs
      exact ⟨zs, .inr ⟨_, rfl, hl, hm, by simpa using hz, hcell, hwz⟩⟩
  clear hA0 hval0 hsz0 hsz
  obtain ⟨l0, rfl, hr0, hm0, hw0, hc0⟩ := Go.Proofs.YtodhkbahjomfhaaW.PrintWords.ReadsInt.ofRowC w0
  obtain ⟨l1, rfl, hr1, hm1, hw1, hc1⟩ := Go.Proofs.YtodhkbahjomfhaaW.PrintWords.ReadsInt.ofRowC w1
  obtain ⟨K, a, b, ns, ms, at1, at2, s, u, rs, hs, hk⟩ := Pure.ManifestBack l0 l1
  refine (Gbk.calls K A0 cap0 l0 A1 cap1 l1 a b ns ms at1 at2 s u rs W (Go.Proofs.YtodhkbahjomfhaaW.PrintWords.Kd.C_of_reads (d := (0 : Int)) (h1 := fun _ => rfl) hr0) hc0 (Go.Proofs.YtodhkbahjomfhaaW.PrintWords.Kd.C_of_reads (d := (0 : Int)) (h1 := fun _ => rfl) hr1) hc1 hs hk).mono fun e W' ⟨he, bel⟩ => ?_
  subst he
  exact ⟨_, rfl, _, _, _, [], _, [], hW', trodAll_mk1 (shut_bool Try.underlying4 _), (trodAll_cons_mk (Below.trod laidOut (by kernel_rfl) (of_decide_eq_true (by kernel_rfl)) k0 bel lt0) (trodAll_cons_mk (Below.trod laidOut (by kernel_rfl) (of_decide_eq_true (by kernel_rfl)) k1 bel lt1) trodAll_mk0)), rfl, bel.frame _, fun h => by cases h⟩
theorem over : Rows.manifestBackRow.holds Try.pinned (OpenSpec.ofChange Rows.manifestBackSpec) :=
  OpenClaim.holds_of_wide 8 Try.f8 rfl rfl rfl rfl rfl rfl rfl ⟨rfl, rfl, rfl, rfl, rfl⟩ rfl rfl rfl rfl rfl (by kernel_rfl) Try.func8 (by kernel_rfl)
    (of_decide_eq_true (by kernel_rfl)) (by unfold Func.isWrapper; first | (rw [if_pos (by decide +kernel)]; kernel_rfl) | (rw [if_neg (by decide +kernel)]; exact ⟨rfl, rfl⟩))
    (fun os started H enc _ => lifted os started H enc)
theorem proved : Rows.ManifestBackSaid := over
#print axioms proved
end Go.Proofs.Ytodhkbahjomfhaa.manifestBack
namespace Go.Proofs.Ytodhkbahjomfhaa
/-- The row, under a short name, for the claim. -/
theorem manifestBack_holds : Rows.ManifestBackSaid := manifestBack.proved
end Go.Proofs.Ytodhkbahjomfhaa
