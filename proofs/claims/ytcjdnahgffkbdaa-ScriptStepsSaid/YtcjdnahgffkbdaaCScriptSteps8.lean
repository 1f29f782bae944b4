/- ScriptStepsSaid -/
import Derived.Test.YtcjdnahgffkbdaaCScriptSteps4
import Derived.Test.YtcjdnahgffkbdaaCScriptSteps7
import Derived.Test.YtcjdnahgffkbdaaCScriptSteps6
import Derived.Test.YtcjdnahgffkbdaaCScriptSteps5
import Derived.Test.YtcjdnahgffkbdaaCScriptSteps3
import Derived.Test.YtcjdnahgffkbdaaCScriptSteps1
import Derived.Deep.QuietTactic
import Derived.Below
namespace Go.Proofs.Ytcjdnahgffkbdaa.Q
open Go.RowKit Go.Proofs.YtcjdnahgffkbdaaW.PrintWords Go.Proofs.YtcjdnahgffkbdaaW.PrintLast Go.Proofs.YtcjdnahgffkbdaaW.PrintMore Go.Proofs.Ytcjdnahgffkbdaa.Gput Go.Proofs.Ytcjdnahgffkbdaa.Gputl
attribute [local go_sem] max2_int min2_int max_two min_two max_three min_three max_four min_four   -- for this text's walks alone
set_option linter.unusedVariables false
set_option linter.unusedSimpArgs false
def storagebarterref42_Put.l0 : Nat → ByteArray → Int → Int → Int → Int → Int → ByteArray → Int → Int → List (S64) → Option (ByteArray × Int)
 | 0, _, _, _, _, _, _, _, _, _, _ => none
 | k + 1, x0, x7, x139000, x139001, x139002, x139003, x139004, x139005, x139006, x139007 => if x7 < (x139007.length : Int) then (if 0 ≤ x7 then ((storagebarterref01_PutList.f k x0 (([(rd_T64 x139007 x7).f0, (rd_T64 x139007 x7).f1, (rd_T64 x139007 x7).f2, (rd_T64 x139007 x7).f3, (rd_T64 x139007 x7).f4, (rd_T64 x139007 x7).f5, (rd_T64 x139007 x7).f6, (rd_T64 x139007 x7).f7, (rd_T64 x139007 x7).f8, (rd_T64 x139007 x7).f9, (rd_T64 x139007 x7).f10] : List Int))).bind fun t153 => (storagebarterref42_Put.l0 k t153 (wrap64 (x7 + 1)) x139000 x139001 x139002 x139003 x139004 x139005 x139006 x139007)) else (none)) else (some (x0, 0))
def storagebarterref42_Put.f (k : Nat) (a0 : ByteArray) (a1_0 : Int) (a1_1 : Int) (a1_2 : Int) (a1_3 : Int) (a1_4 : ByteArray) (a1_5 : Int) (a1_6 : Int) (l1_7 : List (S64)) : Option (ByteArray × Int) := (storagebarterref42_Check.f a1_0 a1_1 a1_2 a1_3 a1_4 a1_5 a1_6 l1_7).bind fun t139 => (if t139 = 0 then ((storagebarterref01_PutInt.f k a0 a1_0).bind fun t140 => ((storagebarterref01_PutInt.f k t140 a1_1).bind fun t141 => ((storagebarterref01_PutInt.f k t141 a1_2).bind fun t142 => ((storagebarterref01_PutInt.f k t142 a1_3).bind fun t143 => ((storagebarterref01_PutText.f k t143 a1_4).bind fun t144 => ((storagebarterref01_PutInt.f k t144 a1_5).bind fun t145 => ((storagebarterref01_PutInt.f k t145 a1_6).bind fun t146 => ((storagebarterref01_PutInt.f k t146 (l1_7.length : Int)).bind fun t147 => (storagebarterref42_Put.l0 k t147 0 a1_0 a1_1 a1_2 a1_3 a1_4 a1_5 a1_6 l1_7))))))))) else (some ((⟨#[]⟩ : ByteArray), t139)))
theorem storagebarterref42_Put.mono_l : ∀ k, (∀ y0 y1 y2 y3 y4 y5 y6 y7 y8 y9, LeO (storagebarterref42_Put.l0 k y0 y1 y2 y3 y4 y5 y6 y7 y8 y9) (storagebarterref42_Put.l0 (k + 1) y0 y1 y2 y3 y4 y5 y6 y7 y8 y9))
 | 0 => fun _ _ _ _ _ _ _ _ _ _ r h => by simp [storagebarterref42_Put.l0] at h
 | k + 1 => by
  have ih0 := storagebarterref42_Put.mono_l k
  ·intro y0 y1 y2 y3 y4 y5 y6 y7 y8 y9
   unfold storagebarterref42_Put.l0
   repeat' first
   | (with_reducible exact ih0 _ _ _ _ _ _ _ _ _ _)
   | (with_reducible exact storagebarterref01_PutInt.mono _ _ _)
   | (with_reducible exact storagebarterref01_PutList.mono _ _ _)
   | (with_reducible exact storagebarterref01_PutText.mono _ _ _)
   | (with_reducible exact LeO.refl _)
   | (with_reducible exact LeO.none _)
   | (with_reducible refine LeO.ite ?_ ?_)
   | (with_reducible refine LeO.bind ?_ (fun _ => ?_))
   | exact ih0 _ _ _ _ _ _ _ _ _ _
   | exact storagebarterref01_PutInt.mono _ _ _
   | exact storagebarterref01_PutList.mono _ _ _
   | exact storagebarterref01_PutText.mono _ _ _
   | exact LeO.none _
   | refine LeO.ite ?_ ?_
   | refine LeO.bind ?_ (fun _ => ?_)
theorem storagebarterref42_Put.mono : ∀ a0 a1 a2 a3 a4 a5 a6 a7 a8 k, LeO (storagebarterref42_Put.f k a0 a1 a2 a3 a4 a5 a6 a7 a8) (storagebarterref42_Put.f (k + 1) a0 a1 a2 a3 a4 a5 a6 a7 a8) := by
 intro a0 a1 a2 a3 a4 a5 a6 a7 a8 k
 have ih0 := storagebarterref42_Put.mono_l k
 unfold storagebarterref42_Put.f
 repeat' first
  | (with_reducible exact ih0 _ _ _ _ _ _ _ _ _ _)
  | (with_reducible exact storagebarterref01_PutInt.mono _ _ _)
  | (with_reducible exact storagebarterref01_PutList.mono _ _ _)
  | (with_reducible exact storagebarterref01_PutText.mono _ _ _)
  | (with_reducible exact LeO.refl _)
  | (with_reducible exact LeO.none _)
  | (with_reducible refine LeO.ite ?_ ?_)
  | (with_reducible refine LeO.bind ?_ (fun _ => ?_))
  | exact ih0 _ _ _ _ _ _ _ _ _ _
  | exact storagebarterref01_PutInt.mono _ _ _
  | exact storagebarterref01_PutList.mono _ _ _
  | exact storagebarterref01_PutText.mono _ _ _
  | exact LeO.none _
  | refine LeO.ite ?_ ?_
  | refine LeO.bind ?_ (fun _ => ?_)
def storagebarterref42_Put.T4 : Bool × List (List Nat × List Nat) := (true, [([], []), ([], []), ([1], [1]), ([0, 2], [0, 2]), ([], []), ([4], [4]), ([3, 5, 3], [3, 5]), ([], []), ([7], [7]), ([6, 8, 6], [6, 8]), ([], []), ([10], [10]), ([9, 11, 9], [9, 11]), ([12, 12, 0, 1, 2, 3, 4, 5, 6, 7, 8, 9, 10, 11, 12], [0, 12])])
def storagebarterref42_Put.B4 : List Nat := [0, 0, 2, 7, 0, 16, 63, 0, 128, 511, 0, 1024, 4095, 8191]
theorem storagebarterref42_Put.tab4 : rtab .any (opsOf Try.f21 4) = storagebarterref42_Put.T4 := by kernel_rfl
theorem storagebarterref42_Put.bits4 : waitsOk storagebarterref42_Put.T4.2 storagebarterref42_Put.B4 = true := by kernel_rfl
def storagebarterref42_Put.T5 : Bool × List (List Nat × List Nat) := (true, [([], []), ([], []), ([1], [1]), ([0, 2], [0, 2]), ([], []), ([4], [4]), ([5], [5]), ([3, 6, 3], [3, 6]), ([], []), ([8], [8]), ([9], [9]), ([7, 10, 7], [7, 10]), ([11, 11, 0, 1, 2, 3, 4, 5, 6, 7, 8, 9, 10, 11], [0, 11])])
def storagebarterref42_Put.B5 : List Nat := [0, 0, 2, 7, 0, 16, 48, 127, 0, 256, 768, 2047, 4095]
theorem storagebarterref42_Put.tab5 : rtab .any (opsOf Try.f21 5) = storagebarterref42_Put.T5 := by kernel_rfl
theorem storagebarterref42_Put.bits5 : waitsOk storagebarterref42_Put.T5.2 storagebarterref42_Put.B5 = true := by kernel_rfl
set_option maxHeartbeats 8000000 in
set_option maxRecDepth 100000 in
theorem storagebarterref42_Put.calls (k : Nat) (a0 : ByteArray) (a1_0 : Int) (a1_1 : Int) (a1_2 : Int) (a1_3 : Int) (a1_4 : ByteArray) (a1_5 : Int) (a1_6 : Int) (A1_7 : Option Addr) (c1_7 : Nat) (l1_7 : List (S64)) (r1 : ByteArray) (r2 : Int) (w : World) (hr1_7 : Kd.C k64 w A1_7 l1_7.length l1_7) (hc1_7 : l1_7.length ≤ c1_7) (h : storagebarterref42_Put.f k a0 a1_0 a1_1 a1_2 a1_3 a1_4 a1_5 a1_6 l1_7 = some (r1, r2)) :
 Calls Try.prog 21 #[.string a0, .agg #[.int .i64 a1_0, .int .i64 a1_1, .int .i64 a1_2, .int .i64 a1_3, .string a1_4, .int .i64 a1_5, .int .i64 a1_6, .slice A1_7 l1_7.length c1_7]] w fun e w' => e = .returned (.tuple #[.string r1, .int .i64 r2]) ∧ Below w.heap.size w w' := by
 have hu28 := Try.underlying28
 have hu64 := Try.underlying64
 have HR1_7 := Aside0.mk hr1_7
 have HC1_7 := Aside0.mk hc1_7
 clear hr1_7 hc1_7
 have HB := Aside0.mk (Below.refl w.heap.size w)
 have H : ((storagebarterref42_Check.f a1_0 a1_1 a1_2 a1_3 a1_4 a1_5 a1_6 l1_7).bind fun t139 => (if t139 = 0 then ((storagebarterref01_PutInt.f k a0 a1_0).bind fun t140 => ((storagebarterref01_PutInt.f k t140 a1_1).bind fun t141 => ((storagebarterref01_PutInt.f k t141 a1_2).bind fun t142 => ((storagebarterref01_PutInt.f k t142 a1_3).bind fun t143 => ((storagebarterref01_PutText.f k t143 a1_4).bind fun t144 => ((storagebarterref01_PutInt.f k t144 a1_5).bind fun t145 => ((storagebarterref01_PutInt.f k t145 a1_6).bind fun t146 => ((storagebarterref01_PutInt.f k t146 (l1_7.length : Int)).bind fun t147 => (storagebarterref42_Put.l0 k t147 0 a1_0 a1_1 a1_2 a1_3 a1_4 a1_5 a1_6 l1_7))))))))) else (some ((⟨#[]⟩ : ByteArray), t139)))) = some (r1, r2) := h
 clear h
 replace H := Option.bind_eq_some_iff.mp H
 obtain ⟨t139, A30, H⟩ := H
 replace H : (if t139 = 0 then ((storagebarterref01_PutInt.f k a0 a1_0).bind fun t140 => ((storagebarterref01_PutInt.f k t140 a1_1).bind fun t141 => ((storagebarterref01_PutInt.f k t141 a1_2).bind fun t142 => ((storagebarterref01_PutInt.f k t142 a1_3).bind fun t143 => ((storagebarterref01_PutText.f k t143 a1_4).bind fun t144 => ((storagebarterref01_PutInt.f k t144 a1_5).bind fun t145 => ((storagebarterref01_PutInt.f k t145 a1_6).bind fun t146 => ((storagebarterref01_PutInt.f k t146 (l1_7.length : Int)).bind fun t147 => (storagebarterref42_Put.l0 k t147 0 a1_0 a1_1 a1_2 a1_3 a1_4 a1_5 a1_6 l1_7))))))))) else (some ((⟨#[]⟩ : ByteArray), t139))) = some (r1, r2) := H
 have A3 := Aside0.mk A30
 clear A30
 by_cases c4 : t139 = 0
 ·rw [if_pos c4] at H
  have c4b0 : (t139 == 0) = true := beq_iff_eq.mpr c4
  have c4b1 : (t139 != 0) = false := bne_eq_false_iff_eq.mpr c4
  clear c4
  replace H := Option.bind_eq_some_iff.mp H
  obtain ⟨t140, A50, H⟩ := H
  replace H : ((storagebarterref01_PutInt.f k t140 a1_1).bind fun t141 => ((storagebarterref01_PutInt.f k t141 a1_2).bind fun t142 => ((storagebarterref01_PutInt.f k t142 a1_3).bind fun t143 => ((storagebarterref01_PutText.f k t143 a1_4).bind fun t144 => ((storagebarterref01_PutInt.f k t144 a1_5).bind fun t145 => ((storagebarterref01_PutInt.f k t145 a1_6).bind fun t146 => ((storagebarterref01_PutInt.f k t146 (l1_7.length : Int)).bind fun t147 => (storagebarterref42_Put.l0 k t147 0 a1_0 a1_1 a1_2 a1_3 a1_4 a1_5 a1_6 l1_7)))))))) = some (r1, r2) := H
  have A5 := Aside0.mk A50
  clear A50
  replace H := Option.bind_eq_some_iff.mp H
  obtain ⟨t141, A60, H⟩ := H
  replace H : ((storagebarterref01_PutInt.f k t141 a1_2).bind fun t142 => ((storagebarterref01_PutInt.f k t142 a1_3).bind fun t143 => ((storagebarterref01_PutText.f k t143 a1_4).bind fun t144 => ((storagebarterref01_PutInt.f k t144 a1_5).bind fun t145 => ((storagebarterref01_PutInt.f k t145 a1_6).bind fun t146 => ((storagebarterref01_PutInt.f k t146 (l1_7.length : Int)).bind fun t147 => (storagebarterref42_Put.l0 k t147 0 a1_0 a1_1 a1_2 a1_3 a1_4 a1_5 a1_6 l1_7))))))) = some (r1, r2) := H
  have A6 := Aside0.mk A60
  clear A60
  replace H := Option.bind_eq_some_iff.mp H
  obtain ⟨t142, A70, H⟩ := H
  replace H : ((storagebarterref01_PutInt.f k t142 a1_3).bind fun t143 => ((storagebarterref01_PutText.f k t143 a1_4).bind fun t144 => ((storagebarterref01_PutInt.f k t144 a1_5).bind fun t145 => ((storagebarterref01_PutInt.f k t145 a1_6).bind fun t146 => ((storagebarterref01_PutInt.f k t146 (l1_7.length : Int)).bind fun t147 => (storagebarterref42_Put.l0 k t147 0 a1_0 a1_1 a1_2 a1_3 a1_4 a1_5 a1_6 l1_7)))))) = some (r1, r2) := H
  have A7 := Aside0.mk A70
  clear A70
  replace H := Option.bind_eq_some_iff.mp H
  obtain ⟨t143, A80, H⟩ := H
  replace H : ((storagebarterref01_PutText.f k t143 a1_4).bind fun t144 => ((storagebarterref01_PutInt.f k t144 a1_5).bind fun t145 => ((storagebarterref01_PutInt.f k t145 a1_6).bind fun t146 => ((storagebarterref01_PutInt.f k t146 (l1_7.length : Int)).bind fun t147 => (storagebarterref42_Put.l0 k t147 0 a1_0 a1_1 a1_2 a1_3 a1_4 a1_5 a1_6 l1_7))))) = some (r1, r2) := H
  have A8 := Aside0.mk A80
  clear A80
  replace H := Option.bind_eq_some_iff.mp H
  obtain ⟨t144, A90, H⟩ := H
  replace H : ((storagebarterref01_PutInt.f k t144 a1_5).bind fun t145 => ((storagebarterref01_PutInt.f k t145 a1_6).bind fun t146 => ((storagebarterref01_PutInt.f k t146 (l1_7.length : Int)).bind fun t147 => (storagebarterref42_Put.l0 k t147 0 a1_0 a1_1 a1_2 a1_3 a1_4 a1_5 a1_6 l1_7)))) = some (r1, r2) := H
  have A9 := Aside0.mk A90
  clear A90
  replace H := Option.bind_eq_some_iff.mp H
  obtain ⟨t145, A100, H⟩ := H
  replace H : ((storagebarterref01_PutInt.f k t145 a1_6).bind fun t146 => ((storagebarterref01_PutInt.f k t146 (l1_7.length : Int)).bind fun t147 => (storagebarterref42_Put.l0 k t147 0 a1_0 a1_1 a1_2 a1_3 a1_4 a1_5 a1_6 l1_7))) = some (r1, r2) := H
  have A10 := Aside0.mk A100
  clear A100
  replace H := Option.bind_eq_some_iff.mp H
  obtain ⟨t146, A110, H⟩ := H
  replace H : ((storagebarterref01_PutInt.f k t146 (l1_7.length : Int)).bind fun t147 => (storagebarterref42_Put.l0 k t147 0 a1_0 a1_1 a1_2 a1_3 a1_4 a1_5 a1_6 l1_7)) = some (r1, r2) := H
  have A11 := Aside0.mk A110
  clear A110
  replace H := Option.bind_eq_some_iff.mp H
  obtain ⟨t147, A120, H⟩ := H
  replace H : (storagebarterref42_Put.l0 k t147 0 a1_0 a1_1 a1_2 a1_3 a1_4 a1_5 a1_6 l1_7) = some (r1, r2) := H
  have A12 := Aside0.mk A120
  clear A120
  have H' := Aside0.mk H
  clear H
  go_enter Try.func21, Try.ntmps21
  try go_wp2_with (first | ((with_reducible refine gate_dst (N := 3) rfl ?_); refine box_event ?hg (N := 3) ?hd (cs := #[.int .i64 a1_0, .int .i64 a1_1, .int .i64 a1_2, .int .i64 a1_3, .string a1_4, .int .i64 a1_5, .int .i64 a1_6, .slice A1_7 l1_7.length c1_7]) (t := 28) ?hr ?_; (case hd => rfl); (case hg => rfl); (case hr => first | (go_simp; done) | (go_simp; rfl)); intro gb138 hg w13 hbox hb; have n0_ := Aside0.mk (below_step (by repeat (first | (with_reducible first | exact HB.out | apply below_alloc | apply pw_below_drewN | apply below_drew1) | exact HB.out)) hb); have n1_ := Aside0.mk (hbox); have n2_ := Aside0.mk ((by rw [hg]; exact (below_size (by repeat (first | (with_reducible first | exact HB.out | apply below_alloc | apply pw_below_drewN | apply below_drew1) | exact HB.out))) : w.heap.size ≤ gb138)); have n3_ := Aside0.mk ((by rw [hg]; exact (below_size (by repeat (first | (with_reducible first | exact HB.out | apply below_alloc | apply pw_below_drewN | apply below_drew1) | exact HB.out))) : w.heap.size ≤ gb138)); clear HB; have HB := n0_; have BK138 := n1_; have GW138 := n2_; have GE138 := n3_; clear n0_ n1_ n2_ n3_; clear hb hbox hg; have hcz14_0 : w13.cell? ⟨gb138, 0, none⟩ = some (.int .i64 a1_0) := (blk_cell BK138.out 0).trans rfl; have hcz14_1 : w13.cell? ⟨gb138, 1, none⟩ = some (.int .i64 a1_1) := (blk_cell BK138.out 1).trans rfl; have hcz14_2 : w13.cell? ⟨gb138, 2, none⟩ = some (.int .i64 a1_2) := (blk_cell BK138.out 2).trans rfl; have hcz14_3 : w13.cell? ⟨gb138, 3, none⟩ = some (.int .i64 a1_3) := (blk_cell BK138.out 3).trans rfl; have hcz14_4 : w13.cell? ⟨gb138, 4, none⟩ = some (.string a1_4) := (blk_cell BK138.out 4).trans rfl; have hcz14_5 : w13.cell? ⟨gb138, 5, none⟩ = some (.int .i64 a1_5) := (blk_cell BK138.out 5).trans rfl; have hcz14_6 : w13.cell? ⟨gb138, 6, none⟩ = some (.int .i64 a1_6) := (blk_cell BK138.out 6).trans rfl; have hcz14_7 : w13.cell? ⟨gb138, 7, none⟩ = some (.slice A1_7 l1_7.length c1_7) := (blk_cell BK138.out 7).trans rfl; have hfz14_0 := blk_frozen BK138.out 0; have hfz14_1 := blk_frozen BK138.out 1; have hfz14_2 := blk_frozen BK138.out 2; have hfz14_3 := blk_frozen BK138.out 3; have hfz14_4 := blk_frozen BK138.out 4; have hfz14_5 := blk_frozen BK138.out 5; have hfz14_6 := blk_frozen BK138.out 6; have hfz14_7 := blk_frozen BK138.out 7) | ((with_reducible refine gate_callee (f := 23) rfl ?_); refine goesL_ (some 10) rfl rfl Try.func23 (by kernel_rfl) rfl #[.agg #[.int .i64 a1_0, .int .i64 a1_1, .int .i64 a1_2, .int .i64 a1_3, .string a1_4, .int .i64 a1_5, .int .i64 a1_6, .slice A1_7 l1_7.length c1_7]] rfl (by (try simp only [List.map_toArray, List.map_cons, List.map_nil]); first | done | rfl | (simp only [List.length_drop, List.length_take]; rfl)) ?_; (with_reducible refine (storagebarterref42_Check.calls a1_0 a1_1 a1_2 a1_3 a1_4 a1_5 a1_6 _ _ l1_7 t139 _ ?side1 ?side2 A3.out).mono ?_); (case side1 => repeat (first | exact (Kd.C_below HR1_7.out HB.out) | (with_reducible refine Kd.C_alloc ?_ _) | (with_reducible refine Kd.C_drewN ?_ _) | (with_reducible refine Kd.C_drew ?_))); (case side2 => exact HC1_7.out); rintro e w15 ⟨rfl, hb⟩; refine ⟨_, rfl, ?_⟩; have n0_ := Aside0.mk (blk_below (g := gb138) (o := .cells #[.int .i64 a1_0, .int .i64 a1_1, .int .i64 a1_2, .int .i64 a1_3, .string a1_4, .int .i64 a1_5, .int .i64 a1_6, .slice A1_7 l1_7.length c1_7] 28 (0, 0)) (by (with_reducible repeat (first | refine blk_drewN ?_ _ | refine blk_drew ?_ | refine blk_alloc ?_ _)); exact BK138.out) hb); have n1_ := Aside0.mk (below_step (by repeat (first | (with_reducible first | exact HB.out | apply below_alloc | apply pw_below_drewN | apply below_drew1 | refine below_set ?_ GE138.out) | exact HB.out)) hb); clear BK138; clear HB; have BK138 := n0_; have HB := n1_; clear n0_ n1_; (try clear hb); (try clear hb2); (try clear hk); (try clear hi)))
  have n0_ := Aside0.mk (blk_drew BK138.out)
  have n1_ := Aside0.mk (below_drew1 HB.out)
  clear BK138
  clear HB
  have BK138 := n0_
  have HB := n1_
  clear n0_ n1_
  refine start_ (n := 14) (S := fun w' => w'.cell? ⟨gb138, 0, none⟩ = some (.int .i64 a1_0) ∧ w'.cell? ⟨gb138, 1, none⟩ = some (.int .i64 a1_1) ∧ w'.cell? ⟨gb138, 2, none⟩ = some (.int .i64 a1_2) ∧ w'.cell? ⟨gb138, 3, none⟩ = some (.int .i64 a1_3) ∧ w'.cell? ⟨gb138, 4, none⟩ = some (.string a1_4) ∧ w'.cell? ⟨gb138, 5, none⟩ = some (.int .i64 a1_5) ∧ w'.cell? ⟨gb138, 6, none⟩ = some (.int .i64 a1_6) ∧ w'.cell? ⟨gb138, 7, none⟩ = some (.slice A1_7 l1_7.length c1_7)) (ds := []) #[false, false, false, false, false, false, false, false, false, false, false, false, false, false] (by kernel_rfl) rfl rfl ⟨(blk_cell BK138.out 0).trans rfl, (blk_cell BK138.out 1).trans rfl, (blk_cell BK138.out 2).trans rfl, (blk_cell BK138.out 3).trans rfl, (blk_cell BK138.out 4).trans rfl, (blk_cell BK138.out 5).trans rfl, (blk_cell BK138.out 6).trans rfl, (blk_cell BK138.out 7).trans rfl⟩ (fun hHeld => ?_); refine with_tabW storagebarterref42_Put.tab4 storagebarterref42_Put.bits4 (fun HT_ HW_ => ?_)
  generalize w15.drew = w16 at BK138 HB hHeld ⊢
  refine pure_ (i := 0) (N := some 14) (v := ?_) (a' := ?_) #[true, false, false, false, false, false, false, false, false, false, false, false, false, false] rfl rfl (any_of HT_.out (by kernel_rfl)) (fun _ _ _ h => h) (Or.inl ⟨by rfl, ?_⟩) ?_ ?_
  rotate_left
  ·intro w'
   go_simp
   with_reducible rfl
  rotate_left
  ·simp only [Act.put, List.setIfInBounds_toArray, List.set_cons_zero, List.set_cons_succ, i64_w, i32_w]
   rfl
  refine pure_ (i := 1) (N := some 15) (v := ?_) (a' := ?_) #[true, true, false, false, false, false, false, false, false, false, false, false, false, false] rfl rfl (any_of HT_.out (by kernel_rfl)) (fun _ _ _ h => h) (Or.inl ⟨by rfl, ?_⟩) ?_ ?_
  rotate_left
  ·intro w'
   go_simp
   with_reducible rfl
  rotate_left
  ·simp only [Act.put, List.setIfInBounds_toArray, List.set_cons_zero, List.set_cons_succ, i64_w, i32_w]
   rfl
  refine pure_ (i := 4) (N := some 18) (v := ?_) (a' := ?_) #[true, true, false, false, true, false, false, false, false, false, false, false, false, false] rfl rfl (any_of HT_.out (by kernel_rfl)) (fun _ _ _ h => h) (Or.inl ⟨by rfl, ?_⟩) ?_ ?_
  rotate_left
  ·intro w'
   go_simp
   with_reducible rfl
  rotate_left
  ·simp only [Act.put, List.setIfInBounds_toArray, List.set_cons_zero, List.set_cons_succ, i64_w, i32_w]
   rfl
  refine pure_ (i := 7) (N := some 21) (v := ?_) (a' := ?_) #[true, true, false, false, true, false, false, true, false, false, false, false, false, false] rfl rfl (any_of HT_.out (by kernel_rfl)) (fun _ _ _ h => h) (Or.inl ⟨by rfl, ?_⟩) ?_ ?_
  rotate_left
  ·intro w'
   go_simp
   with_reducible rfl
  rotate_left
  ·simp only [Act.put, List.setIfInBounds_toArray, List.set_cons_zero, List.set_cons_succ, i64_w, i32_w]
   rfl
  refine pure_ (i := 10) (N := some 24) (v := ?_) (a' := ?_) #[true, true, false, false, true, false, false, true, false, false, true, false, false, false] rfl rfl (any_of HT_.out (by kernel_rfl)) (fun _ _ _ h => h) (Or.inl ⟨by rfl, ?_⟩) ?_ ?_
  rotate_left
  ·intro w'
   go_simp
   with_reducible rfl
  rotate_left
  ·simp only [Act.put, List.setIfInBounds_toArray, List.set_cons_zero, List.set_cons_succ, i64_w, i32_w]
   rfl
  refine take_ (i := 2) (N := some 16) (v := ?_) (a' := ?_) #[true, true, true, false, true, false, false, true, false, false, true, false, false, false] rfl rfl (take_ofW HT_.out HW_.out (by kernel_rfl)) (fun _ _ _ h => h) (Or.inl ⟨by rfl, ?_⟩) hHeld ?_ ?_
  rotate_left
  ·rintro w' ⟨s0, s1, s2, s3, s4, s5, s6, s7⟩
   go_simp
   with_reducible rfl
  rotate_left
  ·simp only [Act.put, List.setIfInBounds_toArray, List.set_cons_zero, List.set_cons_succ, i64_w, i32_w]
   rfl
  refine take_ (i := 5) (N := some 19) (v := ?_) (a' := ?_) #[true, true, true, false, true, true, false, true, false, false, true, false, false, false] rfl rfl (take_ofW HT_.out HW_.out (by kernel_rfl)) (fun _ _ _ h => h) (Or.inl ⟨by rfl, ?_⟩) hHeld ?_ ?_
  rotate_left
  ·rintro w' ⟨s0, s1, s2, s3, s4, s5, s6, s7⟩
   go_simp
   with_reducible rfl
  rotate_left
  ·simp only [Act.put, List.setIfInBounds_toArray, List.set_cons_zero, List.set_cons_succ, i64_w, i32_w]
   rfl
  refine take_ (i := 8) (N := some 22) (v := ?_) (a' := ?_) #[true, true, true, false, true, true, false, true, true, false, true, false, false, false] rfl rfl (take_ofW HT_.out HW_.out (by kernel_rfl)) (fun _ _ _ h => h) (Or.inl ⟨by rfl, ?_⟩) hHeld ?_ ?_
  rotate_left
  ·rintro w' ⟨s0, s1, s2, s3, s4, s5, s6, s7⟩
   go_simp
   with_reducible rfl
  rotate_left
  ·simp only [Act.put, List.setIfInBounds_toArray, List.set_cons_zero, List.set_cons_succ, i64_w, i32_w]
   rfl
  refine take_ (i := 11) (N := some 25) (v := ?_) (a' := ?_) #[true, true, true, false, true, true, false, true, true, false, true, true, false, false] rfl rfl (take_ofW HT_.out HW_.out (by kernel_rfl)) (fun _ _ _ h => h) (Or.inl ⟨by rfl, ?_⟩) hHeld ?_ ?_
  rotate_left
  ·rintro w' ⟨s0, s1, s2, s3, s4, s5, s6, s7⟩
   go_simp
   with_reducible rfl
  rotate_left
  ·simp only [Act.put, List.setIfInBounds_toArray, List.set_cons_zero, List.set_cons_succ, i64_w, i32_w]
   rfl
  refine one_ (i := 3) (N := some 17) #[true, true, true, true, true, true, false, true, true, false, true, true, false, false] rfl rfl (one_of HT_.out (by kernel_rfl)) (by decide) (fun K hK => ?_)
  refine goes_ Try.func25 (by kernel_rfl) rfl #[.string a0, .int .i64 a1_0] (by rfl) rfl rfl (by (try simp only [List.map_toArray, List.map_cons, List.map_nil]); first | done | rfl | (simp only [List.length_drop, List.length_take]; rfl)) ?_
  with_reducible refine (storagebarterref01_PutInt.calls k a0 a1_0 t140 _ A5.out).mono ?_
  rintro e w17 ⟨rfl, hb⟩
  refine ⟨_, rfl, ?_⟩
  have n0_ := Aside0.mk (blk_below (g := gb138) (o := .cells #[.int .i64 a1_0, .int .i64 a1_1, .int .i64 a1_2, .int .i64 a1_3, .string a1_4, .int .i64 a1_5, .int .i64 a1_6, .slice A1_7 l1_7.length c1_7] 28 (0, 0)) (by (with_reducible repeat (first | refine blk_drewN ?_ _ | refine blk_drew ?_ | refine blk_alloc ?_ _)); exact BK138.out) hb)
  have n1_ := Aside0.mk (below_step (by repeat (first | (with_reducible first | exact HB.out | apply below_alloc | apply pw_below_drewN | apply below_drew1 | refine below_set ?_ GE138.out) | exact HB.out)) hb)
  clear BK138
  clear HB
  have BK138 := n0_
  have HB := n1_
  clear n0_ n1_
  (try clear hb)
  (try clear hb2)
  (try clear hk)
  (try clear hi)
  refine hK.out _ _ ⟨(blk_cell BK138.out 0).trans rfl, (blk_cell BK138.out 1).trans rfl, (blk_cell BK138.out 2).trans rfl, (blk_cell BK138.out 3).trans rfl, (blk_cell BK138.out 4).trans rfl, (blk_cell BK138.out 5).trans rfl, (blk_cell BK138.out 6).trans rfl, (blk_cell BK138.out 7).trans rfl⟩ (fun hHeld => ?_)
  clear hK K
  refine norm_ (a' := ?_) ?_ ?_
  rotate_left
  ·show Act.put _ (some 17) _ = _
   simp only [Act.put, List.setIfInBounds_toArray, List.set_cons_zero, List.set_cons_succ, i64_w, i32_w]
   rfl
  refine one_ (i := 6) (N := some 20) #[true, true, true, true, true, true, true, true, true, false, true, true, false, false] rfl rfl (one_of HT_.out (by kernel_rfl)) (by decide) (fun K hK => ?_)
  refine goes_ Try.func25 (by kernel_rfl) rfl #[.string t140, .int .i64 a1_1] (by rfl) rfl rfl (by (try simp only [List.map_toArray, List.map_cons, List.map_nil]); first | done | rfl | (simp only [List.length_drop, List.length_take]; rfl)) ?_
  with_reducible refine (storagebarterref01_PutInt.calls k t140 a1_1 t141 _ A6.out).mono ?_
  rintro e w18 ⟨rfl, hb⟩
  refine ⟨_, rfl, ?_⟩
  have n0_ := Aside0.mk (blk_below (g := gb138) (o := .cells #[.int .i64 a1_0, .int .i64 a1_1, .int .i64 a1_2, .int .i64 a1_3, .string a1_4, .int .i64 a1_5, .int .i64 a1_6, .slice A1_7 l1_7.length c1_7] 28 (0, 0)) (by (with_reducible repeat (first | refine blk_drewN ?_ _ | refine blk_drew ?_ | refine blk_alloc ?_ _)); exact BK138.out) hb)
  have n1_ := Aside0.mk (below_step (by repeat (first | (with_reducible first | exact HB.out | apply below_alloc | apply pw_below_drewN | apply below_drew1 | refine below_set ?_ GE138.out) | exact HB.out)) hb)
  clear BK138
  clear HB
  have BK138 := n0_
  have HB := n1_
  clear n0_ n1_
  (try clear hb)
  (try clear hb2)
  (try clear hk)
  (try clear hi)
  refine hK.out _ _ ⟨(blk_cell BK138.out 0).trans rfl, (blk_cell BK138.out 1).trans rfl, (blk_cell BK138.out 2).trans rfl, (blk_cell BK138.out 3).trans rfl, (blk_cell BK138.out 4).trans rfl, (blk_cell BK138.out 5).trans rfl, (blk_cell BK138.out 6).trans rfl, (blk_cell BK138.out 7).trans rfl⟩ (fun hHeld => ?_)
  clear hK K
  refine norm_ (a' := ?_) ?_ ?_
  rotate_left
  ·show Act.put _ (some 20) _ = _
   simp only [Act.put, List.setIfInBounds_toArray, List.set_cons_zero, List.set_cons_succ, i64_w, i32_w]
   rfl
  refine one_ (i := 9) (N := some 23) #[true, true, true, true, true, true, true, true, true, true, true, true, false, false] rfl rfl (one_of HT_.out (by kernel_rfl)) (by decide) (fun K hK => ?_)
  refine goes_ Try.func25 (by kernel_rfl) rfl #[.string t141, .int .i64 a1_2] (by rfl) rfl rfl (by (try simp only [List.map_toArray, List.map_cons, List.map_nil]); first | done | rfl | (simp only [List.length_drop, List.length_take]; rfl)) ?_
  with_reducible refine (storagebarterref01_PutInt.calls k t141 a1_2 t142 _ A7.out).mono ?_
  rintro e w19 ⟨rfl, hb⟩
  refine ⟨_, rfl, ?_⟩
  have n0_ := Aside0.mk (blk_below (g := gb138) (o := .cells #[.int .i64 a1_0, .int .i64 a1_1, .int .i64 a1_2, .int .i64 a1_3, .string a1_4, .int .i64 a1_5, .int .i64 a1_6, .slice A1_7 l1_7.length c1_7] 28 (0, 0)) (by (with_reducible repeat (first | refine blk_drewN ?_ _ | refine blk_drew ?_ | refine blk_alloc ?_ _)); exact BK138.out) hb)
  have n1_ := Aside0.mk (below_step (by repeat (first | (with_reducible first | exact HB.out | apply below_alloc | apply pw_below_drewN | apply below_drew1 | refine below_set ?_ GE138.out) | exact HB.out)) hb)
  clear BK138
  clear HB
  have BK138 := n0_
  have HB := n1_
  clear n0_ n1_
  (try clear hb)
  (try clear hb2)
  (try clear hk)
  (try clear hi)
  refine hK.out _ _ ⟨(blk_cell BK138.out 0).trans rfl, (blk_cell BK138.out 1).trans rfl, (blk_cell BK138.out 2).trans rfl, (blk_cell BK138.out 3).trans rfl, (blk_cell BK138.out 4).trans rfl, (blk_cell BK138.out 5).trans rfl, (blk_cell BK138.out 6).trans rfl, (blk_cell BK138.out 7).trans rfl⟩ (fun hHeld => ?_)
  clear hK K
  refine norm_ (a' := ?_) ?_ ?_
  rotate_left
  ·show Act.put _ (some 23) _ = _
   simp only [Act.put, List.setIfInBounds_toArray, List.set_cons_zero, List.set_cons_succ, i64_w, i32_w]
   rfl
  refine one_ (i := 12) (N := some 26) #[true, true, true, true, true, true, true, true, true, true, true, true, true, false] rfl rfl (one_of HT_.out (by kernel_rfl)) (by decide) (fun K hK => ?_)
  refine goes_ Try.func25 (by kernel_rfl) rfl #[.string t142, .int .i64 a1_3] (by rfl) rfl rfl (by (try simp only [List.map_toArray, List.map_cons, List.map_nil]); first | done | rfl | (simp only [List.length_drop, List.length_take]; rfl)) ?_
  with_reducible refine (storagebarterref01_PutInt.calls k t142 a1_3 t143 _ A8.out).mono ?_
  rintro e w20 ⟨rfl, hb⟩
  refine ⟨_, rfl, ?_⟩
  have n0_ := Aside0.mk (blk_below (g := gb138) (o := .cells #[.int .i64 a1_0, .int .i64 a1_1, .int .i64 a1_2, .int .i64 a1_3, .string a1_4, .int .i64 a1_5, .int .i64 a1_6, .slice A1_7 l1_7.length c1_7] 28 (0, 0)) (by (with_reducible repeat (first | refine blk_drewN ?_ _ | refine blk_drew ?_ | refine blk_alloc ?_ _)); exact BK138.out) hb)
  have n1_ := Aside0.mk (below_step (by repeat (first | (with_reducible first | exact HB.out | apply below_alloc | apply pw_below_drewN | apply below_drew1 | refine below_set ?_ GE138.out) | exact HB.out)) hb)
  clear BK138
  clear HB
  have BK138 := n0_
  have HB := n1_
  clear n0_ n1_
  (try clear hb)
  (try clear hb2)
  (try clear hk)
  (try clear hi)
  refine hK.out _ _ ⟨(blk_cell BK138.out 0).trans rfl, (blk_cell BK138.out 1).trans rfl, (blk_cell BK138.out 2).trans rfl, (blk_cell BK138.out 3).trans rfl, (blk_cell BK138.out 4).trans rfl, (blk_cell BK138.out 5).trans rfl, (blk_cell BK138.out 6).trans rfl, (blk_cell BK138.out 7).trans rfl⟩ (fun hHeld => ?_)
  clear hK K
  refine norm_ (a' := ?_) ?_ ?_
  rotate_left
  ·show Act.put _ (some 26) _ = _
   simp only [Act.put, List.setIfInBounds_toArray, List.set_cons_zero, List.set_cons_succ, i64_w, i32_w]
   rfl
  refine pure_ (i := 13) (N := some 0) (v := ?_) (a' := ?_) #[true, true, true, true, true, true, true, true, true, true, true, true, true, true] rfl rfl (any_of HT_.out (by kernel_rfl)) (fun _ _ _ h => h) (Or.inl ⟨by rfl, ?_⟩) ?_ ?_
  rotate_left
  ·intro w'
   go_simp
   with_reducible rfl
  rotate_left
  ·simp only [Act.put, List.setIfInBounds_toArray, List.set_cons_zero, List.set_cons_succ, i64_w, i32_w]
   rfl
  refine done_ (done_of HT_.out (by kernel_rfl)) ?_
  try go_wp2
  have n0_ := Aside0.mk (blk_drew BK138.out)
  have n1_ := Aside0.mk (below_drew1 HB.out)
  clear BK138
  clear HB
  have BK138 := n0_
  have HB := n1_
  clear n0_ n1_
  refine start_ (n := 13) (S := fun w' => w'.cell? ⟨gb138, 0, none⟩ = some (.int .i64 a1_0) ∧ w'.cell? ⟨gb138, 1, none⟩ = some (.int .i64 a1_1) ∧ w'.cell? ⟨gb138, 2, none⟩ = some (.int .i64 a1_2) ∧ w'.cell? ⟨gb138, 3, none⟩ = some (.int .i64 a1_3) ∧ w'.cell? ⟨gb138, 4, none⟩ = some (.string a1_4) ∧ w'.cell? ⟨gb138, 5, none⟩ = some (.int .i64 a1_5) ∧ w'.cell? ⟨gb138, 6, none⟩ = some (.int .i64 a1_6) ∧ w'.cell? ⟨gb138, 7, none⟩ = some (.slice A1_7 l1_7.length c1_7)) (ds := []) #[false, false, false, false, false, false, false, false, false, false, false, false, false] (by kernel_rfl) rfl rfl ⟨(blk_cell BK138.out 0).trans rfl, (blk_cell BK138.out 1).trans rfl, (blk_cell BK138.out 2).trans rfl, (blk_cell BK138.out 3).trans rfl, (blk_cell BK138.out 4).trans rfl, (blk_cell BK138.out 5).trans rfl, (blk_cell BK138.out 6).trans rfl, (blk_cell BK138.out 7).trans rfl⟩ (fun hHeld => ?_); refine with_tabW storagebarterref42_Put.tab5 storagebarterref42_Put.bits5 (fun HT_ HW_ => ?_)
  generalize w20.drew = w21 at BK138 HB hHeld ⊢
  refine pure_ (i := 0) (N := some 27) (v := ?_) (a' := ?_) #[true, false, false, false, false, false, false, false, false, false, false, false, false] rfl rfl (any_of HT_.out (by kernel_rfl)) (fun _ _ _ h => h) (Or.inl ⟨by rfl, ?_⟩) ?_ ?_
  rotate_left
  ·intro w'
   go_simp
   with_reducible rfl
  rotate_left
  ·simp only [Act.put, List.setIfInBounds_toArray, List.set_cons_zero, List.set_cons_succ, i64_w, i32_w]
   rfl
  refine pure_ (i := 1) (N := some 28) (v := ?_) (a' := ?_) #[true, true, false, false, false, false, false, false, false, false, false, false, false] rfl rfl (any_of HT_.out (by kernel_rfl)) (fun _ _ _ h => h) (Or.inl ⟨by rfl, ?_⟩) ?_ ?_
  rotate_left
  ·intro w'
   go_simp
   with_reducible rfl
  rotate_left
  ·simp only [Act.put, List.setIfInBounds_toArray, List.set_cons_zero, List.set_cons_succ, i64_w, i32_w]
   rfl
  refine pure_ (i := 4) (N := some 31) (v := ?_) (a' := ?_) #[true, true, false, false, true, false, false, false, false, false, false, false, false] rfl rfl (any_of HT_.out (by kernel_rfl)) (fun _ _ _ h => h) (Or.inl ⟨by rfl, ?_⟩) ?_ ?_
  rotate_left
  ·intro w'
   go_simp
   with_reducible rfl
  rotate_left
  ·simp only [Act.put, List.setIfInBounds_toArray, List.set_cons_zero, List.set_cons_succ, i64_w, i32_w]
   rfl
  refine pure_ (i := 5) (N := some 32) (v := ?_) (a' := ?_) #[true, true, false, false, true, true, false, false, false, false, false, false, false] rfl rfl (any_of HT_.out (by kernel_rfl)) (fun _ _ _ h => h) (Or.inl ⟨by rfl, ?_⟩) ?_ ?_
  rotate_left
  ·intro w'
   go_simp
   with_reducible rfl
  rotate_left
  ·simp only [Act.put, List.setIfInBounds_toArray, List.set_cons_zero, List.set_cons_succ, i64_w, i32_w]
   rfl
  refine pure_ (i := 8) (N := some 35) (v := ?_) (a' := ?_) #[true, true, false, false, true, true, false, false, true, false, false, false, false] rfl rfl (any_of HT_.out (by kernel_rfl)) (fun _ _ _ h => h) (Or.inl ⟨by rfl, ?_⟩) ?_ ?_
  rotate_left
  ·intro w'
   go_simp
   with_reducible rfl
  rotate_left
  ·simp only [Act.put, List.setIfInBounds_toArray, List.set_cons_zero, List.set_cons_succ, i64_w, i32_w]
   rfl
  refine pure_ (i := 9) (N := some 36) (v := ?_) (a' := ?_) #[true, true, false, false, true, true, false, false, true, true, false, false, false] rfl rfl (any_of HT_.out (by kernel_rfl)) (fun _ _ _ h => h) (Or.inl ⟨by rfl, ?_⟩) ?_ ?_
  rotate_left
  ·intro w'
   go_simp
   with_reducible rfl
  rotate_left
  ·simp only [Act.put, List.setIfInBounds_toArray, List.set_cons_zero, List.set_cons_succ, i64_w, i32_w]
   rfl
  refine take_ (i := 2) (N := some 29) (v := ?_) (a' := ?_) #[true, true, true, false, true, true, false, false, true, true, false, false, false] rfl rfl (take_ofW HT_.out HW_.out (by kernel_rfl)) (fun _ _ _ h => h) (Or.inl ⟨by rfl, ?_⟩) hHeld ?_ ?_
  rotate_left
  ·rintro w' ⟨s0, s1, s2, s3, s4, s5, s6, s7⟩
   go_simp
   with_reducible rfl
  rotate_left
  ·simp only [Act.put, List.setIfInBounds_toArray, List.set_cons_zero, List.set_cons_succ, i64_w, i32_w]
   rfl
  refine take_ (i := 6) (N := some 33) (v := ?_) (a' := ?_) #[true, true, true, false, true, true, true, false, true, true, false, false, false] rfl rfl (take_ofW HT_.out HW_.out (by kernel_rfl)) (fun _ _ _ h => h) (Or.inl ⟨by rfl, ?_⟩) hHeld ?_ ?_
  rotate_left
  ·rintro w' ⟨s0, s1, s2, s3, s4, s5, s6, s7⟩
   go_simp
   with_reducible rfl
  rotate_left
  ·simp only [Act.put, List.setIfInBounds_toArray, List.set_cons_zero, List.set_cons_succ, i64_w, i32_w]
   rfl
  refine take_ (i := 10) (N := some 37) (v := ?_) (a' := ?_) #[true, true, true, false, true, true, true, false, true, true, true, false, false] rfl rfl (take_ofW HT_.out HW_.out (by kernel_rfl)) (fun _ _ _ h => h) (Or.inl ⟨by rfl, ?_⟩) hHeld ?_ ?_
  rotate_left
  ·rintro w' ⟨s0, s1, s2, s3, s4, s5, s6, s7⟩
   go_simp
   with_reducible rfl
  rotate_left
  ·simp only [Act.put, List.setIfInBounds_toArray, List.set_cons_zero, List.set_cons_succ, i64_w, i32_w]
   rfl
  refine one_ (i := 3) (N := some 30) #[true, true, true, true, true, true, true, false, true, true, true, false, false] rfl rfl (one_of HT_.out (by kernel_rfl)) (by decide) (fun K hK => ?_)
  refine goes_ Try.func40 (by kernel_rfl) rfl #[.string t143, .string a1_4] (by rfl) rfl rfl (by (try simp only [List.map_toArray, List.map_cons, List.map_nil]); first | done | rfl | (simp only [List.length_drop, List.length_take]; rfl)) ?_
  with_reducible refine (storagebarterref01_PutText.calls k t143 a1_4 t144 _ A9.out).mono ?_
  rintro e w22 ⟨rfl, hb⟩
  refine ⟨_, rfl, ?_⟩
  have n0_ := Aside0.mk (blk_below (g := gb138) (o := .cells #[.int .i64 a1_0, .int .i64 a1_1, .int .i64 a1_2, .int .i64 a1_3, .string a1_4, .int .i64 a1_5, .int .i64 a1_6, .slice A1_7 l1_7.length c1_7] 28 (0, 0)) (by (with_reducible repeat (first | refine blk_drewN ?_ _ | refine blk_drew ?_ | refine blk_alloc ?_ _)); exact BK138.out) hb)
  have n1_ := Aside0.mk (below_step (by repeat (first | (with_reducible first | exact HB.out | apply below_alloc | apply pw_below_drewN | apply below_drew1 | refine below_set ?_ GE138.out) | exact HB.out)) hb)
  clear BK138
  clear HB
  have BK138 := n0_
  have HB := n1_
  clear n0_ n1_
  (try clear hb)
  (try clear hb2)
  (try clear hk)
  (try clear hi)
  refine hK.out _ _ ⟨(blk_cell BK138.out 0).trans rfl, (blk_cell BK138.out 1).trans rfl, (blk_cell BK138.out 2).trans rfl, (blk_cell BK138.out 3).trans rfl, (blk_cell BK138.out 4).trans rfl, (blk_cell BK138.out 5).trans rfl, (blk_cell BK138.out 6).trans rfl, (blk_cell BK138.out 7).trans rfl⟩ (fun hHeld => ?_)
  clear hK K
  refine norm_ (a' := ?_) ?_ ?_
  rotate_left
  ·show Act.put _ (some 30) _ = _
   simp only [Act.put, List.setIfInBounds_toArray, List.set_cons_zero, List.set_cons_succ, i64_w, i32_w]
   rfl
  refine one_ (i := 7) (N := some 34) #[true, true, true, true, true, true, true, true, true, true, true, false, false] rfl rfl (one_of HT_.out (by kernel_rfl)) (by decide) (fun K hK => ?_)
  refine goes_ Try.func25 (by kernel_rfl) rfl #[.string t144, .int .i64 a1_5] (by rfl) rfl rfl (by (try simp only [List.map_toArray, List.map_cons, List.map_nil]); first | done | rfl | (simp only [List.length_drop, List.length_take]; rfl)) ?_
  with_reducible refine (storagebarterref01_PutInt.calls k t144 a1_5 t145 _ A10.out).mono ?_
  rintro e w23 ⟨rfl, hb⟩
  refine ⟨_, rfl, ?_⟩
  have n0_ := Aside0.mk (blk_below (g := gb138) (o := .cells #[.int .i64 a1_0, .int .i64 a1_1, .int .i64 a1_2, .int .i64 a1_3, .string a1_4, .int .i64 a1_5, .int .i64 a1_6, .slice A1_7 l1_7.length c1_7] 28 (0, 0)) (by (with_reducible repeat (first | refine blk_drewN ?_ _ | refine blk_drew ?_ | refine blk_alloc ?_ _)); exact BK138.out) hb)
  have n1_ := Aside0.mk (below_step (by repeat (first | (with_reducible first | exact HB.out | apply below_alloc | apply pw_below_drewN | apply below_drew1 | refine below_set ?_ GE138.out) | exact HB.out)) hb)
  clear BK138
  clear HB
  have BK138 := n0_
  have HB := n1_
  clear n0_ n1_
  (try clear hb)
  (try clear hb2)
  (try clear hk)
  (try clear hi)
  refine hK.out _ _ ⟨(blk_cell BK138.out 0).trans rfl, (blk_cell BK138.out 1).trans rfl, (blk_cell BK138.out 2).trans rfl, (blk_cell BK138.out 3).trans rfl, (blk_cell BK138.out 4).trans rfl, (blk_cell BK138.out 5).trans rfl, (blk_cell BK138.out 6).trans rfl, (blk_cell BK138.out 7).trans rfl⟩ (fun hHeld => ?_)
  clear hK K
  refine norm_ (a' := ?_) ?_ ?_
  rotate_left
  ·show Act.put _ (some 34) _ = _
   simp only [Act.put, List.setIfInBounds_toArray, List.set_cons_zero, List.set_cons_succ, i64_w, i32_w]
   rfl
  refine one_ (i := 11) (N := some 38) #[true, true, true, true, true, true, true, true, true, true, true, true, false] rfl rfl (one_of HT_.out (by kernel_rfl)) (by decide) (fun K hK => ?_)
  refine goes_ Try.func25 (by kernel_rfl) rfl #[.string t145, .int .i64 a1_6] (by rfl) rfl rfl (by (try simp only [List.map_toArray, List.map_cons, List.map_nil]); first | done | rfl | (simp only [List.length_drop, List.length_take]; rfl)) ?_
  with_reducible refine (storagebarterref01_PutInt.calls k t145 a1_6 t146 _ A11.out).mono ?_
  rintro e w24 ⟨rfl, hb⟩
  refine ⟨_, rfl, ?_⟩
  have n0_ := Aside0.mk (blk_below (g := gb138) (o := .cells #[.int .i64 a1_0, .int .i64 a1_1, .int .i64 a1_2, .int .i64 a1_3, .string a1_4, .int .i64 a1_5, .int .i64 a1_6, .slice A1_7 l1_7.length c1_7] 28 (0, 0)) (by (with_reducible repeat (first | refine blk_drewN ?_ _ | refine blk_drew ?_ | refine blk_alloc ?_ _)); exact BK138.out) hb)
  have n1_ := Aside0.mk (below_step (by repeat (first | (with_reducible first | exact HB.out | apply below_alloc | apply pw_below_drewN | apply below_drew1 | refine below_set ?_ GE138.out) | exact HB.out)) hb)
  clear BK138
  clear HB
  have BK138 := n0_
  have HB := n1_
  clear n0_ n1_
  (try clear hb)
  (try clear hb2)
  (try clear hk)
  (try clear hi)
  refine hK.out _ _ ⟨(blk_cell BK138.out 0).trans rfl, (blk_cell BK138.out 1).trans rfl, (blk_cell BK138.out 2).trans rfl, (blk_cell BK138.out 3).trans rfl, (blk_cell BK138.out 4).trans rfl, (blk_cell BK138.out 5).trans rfl, (blk_cell BK138.out 6).trans rfl, (blk_cell BK138.out 7).trans rfl⟩ (fun hHeld => ?_)
  clear hK K
  refine norm_ (a' := ?_) ?_ ?_
  rotate_left
  ·show Act.put _ (some 38) _ = _
   simp only [Act.put, List.setIfInBounds_toArray, List.set_cons_zero, List.set_cons_succ, i64_w, i32_w]
   rfl
  refine pure_ (i := 12) (N := some 0) (v := ?_) (a' := ?_) #[true, true, true, true, true, true, true, true, true, true, true, true, true] rfl rfl (any_of HT_.out (by kernel_rfl)) (fun _ _ _ h => h) (Or.inl ⟨by rfl, ?_⟩) ?_ ?_
  rotate_left
  ·intro w'
   go_simp
   with_reducible rfl
  rotate_left
  ·simp only [Act.put, List.setIfInBounds_toArray, List.set_cons_zero, List.set_cons_succ, i64_w, i32_w]
   rfl
  refine done_ (done_of HT_.out (by kernel_rfl)) ?_
  have hcz25_0 : w24.cell? ⟨gb138, 0, none⟩ = some (.int .i64 a1_0) := (blk_cell BK138.out 0).trans rfl
  have hcz25_1 : w24.cell? ⟨gb138, 1, none⟩ = some (.int .i64 a1_1) := (blk_cell BK138.out 1).trans rfl
  have hcz25_2 : w24.cell? ⟨gb138, 2, none⟩ = some (.int .i64 a1_2) := (blk_cell BK138.out 2).trans rfl
  have hcz25_3 : w24.cell? ⟨gb138, 3, none⟩ = some (.int .i64 a1_3) := (blk_cell BK138.out 3).trans rfl
  have hcz25_4 : w24.cell? ⟨gb138, 4, none⟩ = some (.string a1_4) := (blk_cell BK138.out 4).trans rfl
  have hcz25_5 : w24.cell? ⟨gb138, 5, none⟩ = some (.int .i64 a1_5) := (blk_cell BK138.out 5).trans rfl
  have hcz25_6 : w24.cell? ⟨gb138, 6, none⟩ = some (.int .i64 a1_6) := (blk_cell BK138.out 6).trans rfl
  have hcz25_7 : w24.cell? ⟨gb138, 7, none⟩ = some (.slice A1_7 l1_7.length c1_7) := (blk_cell BK138.out 7).trans rfl
  have hfz25_0 := blk_frozen BK138.out 0
  have hfz25_1 := blk_frozen BK138.out 1
  have hfz25_2 := blk_frozen BK138.out 2
  have hfz25_3 := blk_frozen BK138.out 3
  have hfz25_4 := blk_frozen BK138.out 4
  have hfz25_5 := blk_frozen BK138.out 5
  have hfz25_6 := blk_frozen BK138.out 6
  have hfz25_7 := blk_frozen BK138.out 7
  try go_wp2_with (first | ((with_reducible refine gate_callee (f := 25) rfl ?_); refine goesL_ (some 44) rfl rfl Try.func25 (by kernel_rfl) rfl #[.string t146, .int .i64 (l1_7.length : Int)] rfl (by (try simp only [List.map_toArray, List.map_cons, List.map_nil]); first | done | rfl | (simp only [List.length_drop, List.length_take]; rfl)) ?_; (with_reducible refine (storagebarterref01_PutInt.calls k t146 (l1_7.length : Int) t147 _ A12.out).mono ?_); rintro e w26 ⟨rfl, hb⟩; refine ⟨_, rfl, ?_⟩; have n0_ := Aside0.mk (blk_below (g := gb138) (o := .cells #[.int .i64 a1_0, .int .i64 a1_1, .int .i64 a1_2, .int .i64 a1_3, .string a1_4, .int .i64 a1_5, .int .i64 a1_6, .slice A1_7 l1_7.length c1_7] 28 (0, 0)) (by (with_reducible repeat (first | refine blk_drewN ?_ _ | refine blk_drew ?_ | refine blk_alloc ?_ _)); exact BK138.out) hb); have n1_ := Aside0.mk (below_step (by repeat (first | (with_reducible first | exact HB.out | apply below_alloc | apply pw_below_drewN | apply below_drew1 | refine below_set ?_ GE138.out) | exact HB.out)) hb); clear BK138; clear HB; have BK138 := n0_; have HB := n1_; clear n0_ n1_; (try clear hb); (try clear hb2); (try clear hk); (try clear hi)))
  go_loopg [0, 7] k (fun kq v0 v7 w' => ∃ (x0_1 : ByteArray) (x7_1 : Int), v0 = .string x0_1 ∧ v7 = .int .i64 x7_1 ∧ Aside0 (storagebarterref42_Put.l0 kq x0_1 x7_1 a1_0 a1_1 a1_2 a1_3 a1_4 a1_5 a1_6 l1_7 = some (r1, r2)) ∧ Aside0 (kq ≤ k) ∧ Aside0 (w'.heap[gb138]? = some (.cells #[.int .i64 a1_0, .int .i64 a1_1, .int .i64 a1_2, .int .i64 a1_3, .string a1_4, .int .i64 a1_5, .int .i64 a1_6, (.slice A1_7 l1_7.length c1_7)] 28 (0, 0))) ∧ Aside0 (Below w.heap.size w w'))
  case atStart => exact ⟨(t147), (0), (by first | rfl | (simp; done) | (simp [*]; done)), (by first | rfl | (simp; done) | (simp [*]; done)), H', ⟨Nat.le_refl _⟩, ⟨by (with_reducible repeat (first | refine blk_drewN ?_ _ | refine blk_drew ?_ | refine blk_alloc ?_ _)); exact BK138.out⟩, ⟨by repeat (first | (with_reducible first | exact HB.out | apply below_alloc | apply pw_below_drewN | apply below_drew1 | refine below_set ?_ GE138.out) | exact HB.out)⟩⟩
  case round =>
   clear H'
   try clear c1
   try clear c2
   try clear p2
   try clear c4
   try clear c4b0
   try clear c4b1
   try clear c21
   try clear c23
   try clear c25
   try clear hcz14_0
   try clear hcz14_1
   try clear hcz14_2
   try clear hcz14_3
   try clear hcz14_4
   try clear hcz14_5
   try clear hcz14_6
   try clear hcz14_7
   try clear hcz25_0
   try clear hcz25_1
   try clear hcz25_2
   try clear hcz25_3
   try clear hcz25_4
   try clear hcz25_5
   try clear hcz25_6
   try clear hcz25_7
   try clear hfz14_0
   try clear hfz14_1
   try clear hfz14_2
   try clear hfz14_3
   try clear hfz14_4
   try clear hfz14_5
   try clear hfz14_6
   try clear hfz14_7
   try clear hfz25_0
   try clear hfz25_1
   try clear hfz25_2
   try clear hfz25_3
   try clear hfz25_4
   try clear hfz25_5
   try clear hfz25_6
   try clear hfz25_7
   obtain ⟨x0_1, x7_1, rfl, rfl, HA, HK1, BK138, HB⟩ := hrel
   cases gk with
   | zero => exact absurd HA.out (by simp [storagebarterref42_Put.l0])
   | succ k1 =>
    have H := HA.out
    clear HA
    simp only [storagebarterref42_Put.l0] at H
    by_cases c27 : x7_1 < (l1_7.length : Int)
    ·rw [if_pos c27] at H
     have c27b0 : decide (x7_1 < (l1_7.length : Int)) = true := decide_eq_true c27
     clear c27
     by_cases c28 : 0 ≤ x7_1
     ·rw [if_pos c28] at H
      have c28b0 : decide (0 ≤ x7_1) = true := decide_eq_true c28
      clear c28
      obtain ⟨y150, hy150⟩ : ∃ y_ : List Int, y_ = (([(rd_T64 l1_7 x7_1).f0, (rd_T64 l1_7 x7_1).f1, (rd_T64 l1_7 x7_1).f2, (rd_T64 l1_7 x7_1).f3, (rd_T64 l1_7 x7_1).f4, (rd_T64 l1_7 x7_1).f5, (rd_T64 l1_7 x7_1).f6, (rd_T64 l1_7 x7_1).f7, (rd_T64 l1_7 x7_1).f8, (rd_T64 l1_7 x7_1).f9, (rd_T64 l1_7 x7_1).f10] : List Int)) := ⟨_, rfl⟩
      replace H : ((storagebarterref01_PutList.f k1 x0_1 y150).bind fun t153 => (storagebarterref42_Put.l0 k1 t153 (wrap64 (x7_1 + 1)) a1_0 a1_1 a1_2 a1_3 a1_4 a1_5 a1_6 l1_7)) = some (r1, r2) := by first | (rw [hy150]; with_reducible exact H) | (have H2_ := (Option.bind_some _ _).symm.trans H; rw [hy150]; with_reducible exact H2_) | (have H2_ := (Option.bind_some _ _).symm.trans H; with_reducible exact H2_) | with_reducible exact H | (rw [hy150]; exact H) | exact H
      have Ny150 := Aside0.mk hy150
      clear hy150
      replace H := Option.bind_eq_some_iff.mp H
      obtain ⟨t153, A290, H⟩ := H
      replace H : (storagebarterref42_Put.l0 k1 t153 (wrap64 (x7_1 + 1)) a1_0 a1_1 a1_2 a1_3 a1_4 a1_5 a1_6 l1_7) = some (r1, r2) := H
      have A29 := Aside0.mk A290
      clear A290
      have H' := Aside0.mk H
      clear H
      have hcz30_0 : wr.cell? ⟨gb138, 0, none⟩ = some (.int .i64 a1_0) := (blk_cell BK138.out 0).trans rfl
      have hcz30_1 : wr.cell? ⟨gb138, 1, none⟩ = some (.int .i64 a1_1) := (blk_cell BK138.out 1).trans rfl
      have hcz30_2 : wr.cell? ⟨gb138, 2, none⟩ = some (.int .i64 a1_2) := (blk_cell BK138.out 2).trans rfl
      have hcz30_3 : wr.cell? ⟨gb138, 3, none⟩ = some (.int .i64 a1_3) := (blk_cell BK138.out 3).trans rfl
      have hcz30_4 : wr.cell? ⟨gb138, 4, none⟩ = some (.string a1_4) := (blk_cell BK138.out 4).trans rfl
      have hcz30_5 : wr.cell? ⟨gb138, 5, none⟩ = some (.int .i64 a1_5) := (blk_cell BK138.out 5).trans rfl
      have hcz30_6 : wr.cell? ⟨gb138, 6, none⟩ = some (.int .i64 a1_6) := (blk_cell BK138.out 6).trans rfl
      have hcz30_7 : wr.cell? ⟨gb138, 7, none⟩ = some (.slice A1_7 l1_7.length c1_7) := (blk_cell BK138.out 7).trans rfl
      have hfz30_0 := blk_frozen BK138.out 0
      have hfz30_1 := blk_frozen BK138.out 1
      have hfz30_2 := blk_frozen BK138.out 2
      have hfz30_3 := blk_frozen BK138.out 3
      have hfz30_4 := blk_frozen BK138.out 4
      have hfz30_5 := blk_frozen BK138.out 5
      have hfz30_6 := blk_frozen BK138.out 6
      have hfz30_7 := blk_frozen BK138.out 7
      have p148 : 0 ≤ (x7_1 : Int) := of_decide_eq_true (by first | (with_reducible assumption) | assumption)
      have q148 : x7_1 < (l1_7.length : Int) := of_decide_eq_true (by first | (with_reducible assumption) | assumption)
      obtain ⟨ad148, e148, hx148_0, hx148_1, hx148_2, hx148_3, hx148_4, hx148_5, hx148_6, hx148_7, hx148_8, hx148_9, hx148_10⟩ := at_T64 HR1_7.out x7_1 p148 q148
      cases e148
      replace hx148_0 := (HB.out.cell (World.block_lt_of_cell? w _ hx148_0)).trans hx148_0
      replace hx148_1 := (HB.out.cell (World.block_lt_of_cell? w _ hx148_1)).trans hx148_1
      replace hx148_2 := (HB.out.cell (World.block_lt_of_cell? w _ hx148_2)).trans hx148_2
      replace hx148_3 := (HB.out.cell (World.block_lt_of_cell? w _ hx148_3)).trans hx148_3
      replace hx148_4 := (HB.out.cell (World.block_lt_of_cell? w _ hx148_4)).trans hx148_4
      replace hx148_5 := (HB.out.cell (World.block_lt_of_cell? w _ hx148_5)).trans hx148_5
      replace hx148_6 := (HB.out.cell (World.block_lt_of_cell? w _ hx148_6)).trans hx148_6
      replace hx148_7 := (HB.out.cell (World.block_lt_of_cell? w _ hx148_7)).trans hx148_7
      replace hx148_8 := (HB.out.cell (World.block_lt_of_cell? w _ hx148_8)).trans hx148_8
      replace hx148_9 := (HB.out.cell (World.block_lt_of_cell? w _ hx148_9)).trans hx148_9
      replace hx148_10 := (HB.out.cell (World.block_lt_of_cell? w _ hx148_10)).trans hx148_10
      replace p148 := eq_true p148
      replace q148 := eq_true q148
      go_wp2_with (first | ((with_reducible refine gate_dst (N := 8) rfl ?_); refine box_event ?hg (N := 8) ?hd (cs := #[.int .i64 0, .int .i64 0, .int .i64 0, .int .i64 0, .int .i64 0, .int .i64 0, .int .i64 0, .int .i64 0, .int .i64 0, .int .i64 0, .int .i64 0]) (t := 64) ?hr ?_; (case hd => rfl); (case hg => rfl); (case hr => first | (go_simp; done) | (go_simp; rfl)); intro gb149 hg w31 hbox hb; have n0_ := Aside0.mk (blk_below (g := gb138) (o := .cells #[.int .i64 a1_0, .int .i64 a1_1, .int .i64 a1_2, .int .i64 a1_3, .string a1_4, .int .i64 a1_5, .int .i64 a1_6, .slice (some ad148) l1_7.length c1_7] 28 (0, 0)) (by (with_reducible repeat (first | refine blk_drewN ?_ _ | refine blk_drew ?_ | refine blk_alloc ?_ _)); exact BK138.out) hb); have n1_ := Aside0.mk (below_step (by repeat (first | (with_reducible first | exact HB.out | apply below_alloc | apply pw_below_drewN | apply below_drew1 | refine below_set ?_ GE138.out) | exact HB.out)) hb); have n2_ := Aside0.mk (hbox); have n3_ := Aside0.mk ((by rw [hg]; exact (below_size (by repeat (first | (with_reducible first | exact HB.out | apply below_alloc | apply pw_below_drewN | apply below_drew1 | refine below_set ?_ GE138.out) | exact HB.out))) : w.heap.size ≤ gb149)); have n4_ := Aside0.mk ((by rw [hg]; exact (below_size (by repeat (first | (with_reducible first | exact HB.out | apply below_alloc | apply pw_below_drewN | apply below_drew1 | refine below_set ?_ GE138.out) | exact HB.out))) : w.heap.size ≤ gb149)); have n5_ := Aside0.mk ((by rw [hg]; exact Nat.ne_of_lt (blk_lt (g := gb138) (o := .cells #[.int .i64 a1_0, .int .i64 a1_1, .int .i64 a1_2, .int .i64 a1_3, .string a1_4, .int .i64 a1_5, .int .i64 a1_6, .slice (some ad148) l1_7.length c1_7] 28 (0, 0)) (by (with_reducible repeat (first | refine blk_drewN ?_ _ | refine blk_drew ?_ | refine blk_alloc ?_ _)); exact BK138.out)) : gb138 ≠ gb149)); have n6_ := Aside0.mk ((by rw [hg]; exact Nat.ne_of_gt (blk_lt (g := gb138) (o := .cells #[.int .i64 a1_0, .int .i64 a1_1, .int .i64 a1_2, .int .i64 a1_3, .string a1_4, .int .i64 a1_5, .int .i64 a1_6, .slice (some ad148) l1_7.length c1_7] 28 (0, 0)) (by (with_reducible repeat (first | refine blk_drewN ?_ _ | refine blk_drew ?_ | refine blk_alloc ?_ _)); exact BK138.out)) : gb149 ≠ gb138)); clear BK138; clear HB; have BK138 := n0_; have HB := n1_; have BK149 := n2_; have GW149 := n3_; have GE149 := n4_; have NB138_149 := n5_; have NB149_138 := n6_; clear n0_ n1_ n2_ n3_ n4_ n5_ n6_; clear hb hbox hg; have hnb32 := NB149_138.out; have hnc32 := NB138_149.out; have hcz33_0 : w31.cell? ⟨gb149, 0, none⟩ = some (.int .i64 0) := (blk_cell BK149.out 0).trans rfl; have hcz33_1 : w31.cell? ⟨gb149, 1, none⟩ = some (.int .i64 0) := (blk_cell BK149.out 1).trans rfl; have hcz33_2 : w31.cell? ⟨gb149, 2, none⟩ = some (.int .i64 0) := (blk_cell BK149.out 2).trans rfl; have hcz33_3 : w31.cell? ⟨gb149, 3, none⟩ = some (.int .i64 0) := (blk_cell BK149.out 3).trans rfl; have hcz33_4 : w31.cell? ⟨gb149, 4, none⟩ = some (.int .i64 0) := (blk_cell BK149.out 4).trans rfl; have hcz33_5 : w31.cell? ⟨gb149, 5, none⟩ = some (.int .i64 0) := (blk_cell BK149.out 5).trans rfl; have hcz33_6 : w31.cell? ⟨gb149, 6, none⟩ = some (.int .i64 0) := (blk_cell BK149.out 6).trans rfl; have hcz33_7 : w31.cell? ⟨gb149, 7, none⟩ = some (.int .i64 0) := (blk_cell BK149.out 7).trans rfl; have hcz33_8 : w31.cell? ⟨gb149, 8, none⟩ = some (.int .i64 0) := (blk_cell BK149.out 8).trans rfl; have hcz33_9 : w31.cell? ⟨gb149, 9, none⟩ = some (.int .i64 0) := (blk_cell BK149.out 9).trans rfl; have hcz33_10 : w31.cell? ⟨gb149, 10, none⟩ = some (.int .i64 0) := (blk_cell BK149.out 10).trans rfl; have hfz33_0 := blk_frozen BK149.out 0; have hfz33_1 := blk_frozen BK149.out 1; have hfz33_2 := blk_frozen BK149.out 2; have hfz33_3 := blk_frozen BK149.out 3; have hfz33_4 := blk_frozen BK149.out 4; have hfz33_5 := blk_frozen BK149.out 5; have hfz33_6 := blk_frozen BK149.out 6; have hfz33_7 := blk_frozen BK149.out 7; have hfz33_8 := blk_frozen BK149.out 8; have hfz33_9 := blk_frozen BK149.out 9; have hfz33_10 := blk_frozen BK149.out 10) | ((with_reducible refine gate_dst (N := 82) rfl ?_); refine Kd.R_lit (Kd.int .i64) _ 3 ?hg (N := 82) ?hd (xs := ([(rd_T64 l1_7 x7_1).f0, (rd_T64 l1_7 x7_1).f1, (rd_T64 l1_7 x7_1).f2, (rd_T64 l1_7 x7_1).f3, (rd_T64 l1_7 x7_1).f4, (rd_T64 l1_7 x7_1).f5, (rd_T64 l1_7 x7_1).f6, (rd_T64 l1_7 x7_1).f7, (rd_T64 l1_7 x7_1).f8, (rd_T64 l1_7 x7_1).f9, (rd_T64 l1_7 x7_1).f10] : List Int)) (inner := [.int .i64 ((rd_T64 l1_7 x7_1).f0), .int .i64 ((rd_T64 l1_7 x7_1).f1), .int .i64 ((rd_T64 l1_7 x7_1).f2), .int .i64 ((rd_T64 l1_7 x7_1).f3), .int .i64 ((rd_T64 l1_7 x7_1).f4), .int .i64 ((rd_T64 l1_7 x7_1).f5), .int .i64 ((rd_T64 l1_7 x7_1).f6), .int .i64 ((rd_T64 l1_7 x7_1).f7), .int .i64 ((rd_T64 l1_7 x7_1).f8), .int .i64 ((rd_T64 l1_7 x7_1).f9), .int .i64 ((rd_T64 l1_7 x7_1).f10)]) (ok := fun _ => True) (okp := fun _ => True) ?hr ?hp (fun _ hk => hk) trivial (Below.refl _ _) (Nat.le_refl _) (by simp) ?_; (case hd => rfl); (case hg => rfl); (case hr => first | (go_simp; done) | (go_simp; rfl)); (case hp => exact (Reps.one (show Kd.M (Kd.int .i64) _ _ _ ((rd_T64 l1_7 x7_1).f0) [.int .i64 ((rd_T64 l1_7 x7_1).f0)] from rfl) (Reps.one (show Kd.M (Kd.int .i64) _ _ _ ((rd_T64 l1_7 x7_1).f1) [.int .i64 ((rd_T64 l1_7 x7_1).f1)] from rfl) (Reps.one (show Kd.M (Kd.int .i64) _ _ _ ((rd_T64 l1_7 x7_1).f2) [.int .i64 ((rd_T64 l1_7 x7_1).f2)] from rfl) (Reps.one (show Kd.M (Kd.int .i64) _ _ _ ((rd_T64 l1_7 x7_1).f3) [.int .i64 ((rd_T64 l1_7 x7_1).f3)] from rfl) (Reps.one (show Kd.M (Kd.int .i64) _ _ _ ((rd_T64 l1_7 x7_1).f4) [.int .i64 ((rd_T64 l1_7 x7_1).f4)] from rfl) (Reps.one (show Kd.M (Kd.int .i64) _ _ _ ((rd_T64 l1_7 x7_1).f5) [.int .i64 ((rd_T64 l1_7 x7_1).f5)] from rfl) (Reps.one (show Kd.M (Kd.int .i64) _ _ _ ((rd_T64 l1_7 x7_1).f6) [.int .i64 ((rd_T64 l1_7 x7_1).f6)] from rfl) (Reps.one (show Kd.M (Kd.int .i64) _ _ _ ((rd_T64 l1_7 x7_1).f7) [.int .i64 ((rd_T64 l1_7 x7_1).f7)] from rfl) (Reps.one (show Kd.M (Kd.int .i64) _ _ _ ((rd_T64 l1_7 x7_1).f8) [.int .i64 ((rd_T64 l1_7 x7_1).f8)] from rfl) (Reps.one (show Kd.M (Kd.int .i64) _ _ _ ((rd_T64 l1_7 x7_1).f9) [.int .i64 ((rd_T64 l1_7 x7_1).f9)] from rfl) (Reps.one (show Kd.M (Kd.int .i64) _ _ _ ((rd_T64 l1_7 x7_1).f10) [.int .i64 ((rd_T64 l1_7 x7_1).f10)] from rfl) (Reps.none _ _))))))))))))); intro v151 w34 ho35 hb hg_ hnew_; clear hg_ hnew_; (first | rw [← Ny150.out] at ho35 | (simp only [Int.reduceToNat] at ho35; rw [← Ny150.out] at ho35)); have n0_ := Aside0.mk (Kd.R_lower ho35 (below_size (by repeat (first | (with_reducible first | exact HB.out | apply below_alloc | apply pw_below_drewN | apply below_drew1 | refine below_set ?_ GE138.out | refine below_set ?_ GE149.out) | exact HB.out)))); have n1_ := Aside0.mk (blk_below (g := gb138) (o := .cells #[.int .i64 a1_0, .int .i64 a1_1, .int .i64 a1_2, .int .i64 a1_3, .string a1_4, .int .i64 a1_5, .int .i64 a1_6, .slice (some ad148) l1_7.length c1_7] 28 (0, 0)) (by (with_reducible repeat (first | refine blk_drewN ?_ _ | refine blk_drew ?_ | refine blk_alloc ?_ _)); refine blk_far ?_ NB138_149.out _; (with_reducible repeat (first | refine blk_drewN ?_ _ | refine blk_drew ?_ | refine blk_alloc ?_ _)); refine blk_far ?_ NB138_149.out _; (with_reducible repeat (first | refine blk_drewN ?_ _ | refine blk_drew ?_ | refine blk_alloc ?_ _)); refine blk_far ?_ NB138_149.out _; (with_reducible repeat (first | refine blk_drewN ?_ _ | refine blk_drew ?_ | refine blk_alloc ?_ _)); refine blk_far ?_ NB138_149.out _; (with_reducible repeat (first | refine blk_drewN ?_ _ | refine blk_drew ?_ | refine blk_alloc ?_ _)); refine blk_far ?_ NB138_149.out _; (with_reducible repeat (first | refine blk_drewN ?_ _ | refine blk_drew ?_ | refine blk_alloc ?_ _)); refine blk_far ?_ NB138_149.out _; (with_reducible repeat (first | refine blk_drewN ?_ _ | refine blk_drew ?_ | refine blk_alloc ?_ _)); refine blk_far ?_ NB138_149.out _; (with_reducible repeat (first | refine blk_drewN ?_ _ | refine blk_drew ?_ | refine blk_alloc ?_ _)); refine blk_far ?_ NB138_149.out _; (with_reducible repeat (first | refine blk_drewN ?_ _ | refine blk_drew ?_ | refine blk_alloc ?_ _)); refine blk_far ?_ NB138_149.out _; (with_reducible repeat (first | refine blk_drewN ?_ _ | refine blk_drew ?_ | refine blk_alloc ?_ _)); refine blk_far ?_ NB138_149.out _; (with_reducible repeat (first | refine blk_drewN ?_ _ | refine blk_drew ?_ | refine blk_alloc ?_ _)); refine blk_far ?_ NB138_149.out _; (with_reducible repeat (first | refine blk_drewN ?_ _ | refine blk_drew ?_ | refine blk_alloc ?_ _)); exact BK138.out) hb); have n2_ := Aside0.mk (blk_below (g := gb149) (o := .cells #[.int .i64 ((rd_T64 l1_7 x7_1).f0), .int .i64 ((rd_T64 l1_7 x7_1).f1), .int .i64 ((rd_T64 l1_7 x7_1).f2), .int .i64 ((rd_T64 l1_7 x7_1).f3), .int .i64 ((rd_T64 l1_7 x7_1).f4), .int .i64 ((rd_T64 l1_7 x7_1).f5), .int .i64 ((rd_T64 l1_7 x7_1).f6), .int .i64 ((rd_T64 l1_7 x7_1).f7), .int .i64 ((rd_T64 l1_7 x7_1).f8), .int .i64 ((rd_T64 l1_7 x7_1).f9), .int .i64 ((rd_T64 l1_7 x7_1).f10)] 64 (0, 0)) (by (with_reducible repeat (first | refine blk_drewN ?_ _ | refine blk_drew ?_ | refine blk_alloc ?_ _)); refine blk_put (cs := #[.int .i64 ((rd_T64 l1_7 x7_1).f0), .int .i64 ((rd_T64 l1_7 x7_1).f1), .int .i64 ((rd_T64 l1_7 x7_1).f2), .int .i64 ((rd_T64 l1_7 x7_1).f3), .int .i64 ((rd_T64 l1_7 x7_1).f4), .int .i64 ((rd_T64 l1_7 x7_1).f5), .int .i64 ((rd_T64 l1_7 x7_1).f6), .int .i64 ((rd_T64 l1_7 x7_1).f7), .int .i64 ((rd_T64 l1_7 x7_1).f8), .int .i64 ((rd_T64 l1_7 x7_1).f9), .int .i64 0]) ?_ 10 _ rfl; (with_reducible repeat (first | refine blk_drewN ?_ _ | refine blk_drew ?_ | refine blk_alloc ?_ _)); refine blk_put (cs := #[.int .i64 ((rd_T64 l1_7 x7_1).f0), .int .i64 ((rd_T64 l1_7 x7_1).f1), .int .i64 ((rd_T64 l1_7 x7_1).f2), .int .i64 ((rd_T64 l1_7 x7_1).f3), .int .i64 ((rd_T64 l1_7 x7_1).f4), .int .i64 ((rd_T64 l1_7 x7_1).f5), .int .i64 ((rd_T64 l1_7 x7_1).f6), .int .i64 ((rd_T64 l1_7 x7_1).f7), .int .i64 ((rd_T64 l1_7 x7_1).f8), .int .i64 0, .int .i64 0]) ?_ 9 _ rfl; (with_reducible repeat (first | refine blk_drewN ?_ _ | refine blk_drew ?_ | refine blk_alloc ?_ _)); refine blk_put (cs := #[.int .i64 ((rd_T64 l1_7 x7_1).f0), .int .i64 ((rd_T64 l1_7 x7_1).f1), .int .i64 ((rd_T64 l1_7 x7_1).f2), .int .i64 ((rd_T64 l1_7 x7_1).f3), .int .i64 ((rd_T64 l1_7 x7_1).f4), .int .i64 ((rd_T64 l1_7 x7_1).f5), .int .i64 ((rd_T64 l1_7 x7_1).f6), .int .i64 ((rd_T64 l1_7 x7_1).f7), .int .i64 0, .int .i64 0, .int .i64 0]) ?_ 8 _ rfl; (with_reducible repeat (first | refine blk_drewN ?_ _ | refine blk_drew ?_ | refine blk_alloc ?_ _)); refine blk_put (cs := #[.int .i64 ((rd_T64 l1_7 x7_1).f0), .int .i64 ((rd_T64 l1_7 x7_1).f1), .int .i64 ((rd_T64 l1_7 x7_1).f2), .int .i64 ((rd_T64 l1_7 x7_1).f3), .int .i64 ((rd_T64 l1_7 x7_1).f4), .int .i64 ((rd_T64 l1_7 x7_1).f5), .int .i64 ((rd_T64 l1_7 x7_1).f6), .int .i64 0, .int .i64 0, .int .i64 0, .int .i64 0]) ?_ 7 _ rfl; (with_reducible repeat (first | refine blk_drewN ?_ _ | refine blk_drew ?_ | refine blk_alloc ?_ _)); refine blk_put (cs := #[.int .i64 ((rd_T64 l1_7 x7_1).f0), .int .i64 ((rd_T64 l1_7 x7_1).f1), .int .i64 ((rd_T64 l1_7 x7_1).f2), .int .i64 ((rd_T64 l1_7 x7_1).f3), .int .i64 ((rd_T64 l1_7 x7_1).f4), .int .i64 ((rd_T64 l1_7 x7_1).f5), .int .i64 0, .int .i64 0, .int .i64 0, .int .i64 0, .int .i64 0]) ?_ 6 _ rfl; (with_reducible repeat (first | refine blk_drewN ?_ _ | refine blk_drew ?_ | refine blk_alloc ?_ _)); refine blk_put (cs := #[.int .i64 ((rd_T64 l1_7 x7_1).f0), .int .i64 ((rd_T64 l1_7 x7_1).f1), .int .i64 ((rd_T64 l1_7 x7_1).f2), .int .i64 ((rd_T64 l1_7 x7_1).f3), .int .i64 ((rd_T64 l1_7 x7_1).f4), .int .i64 0, .int .i64 0, .int .i64 0, .int .i64 0, .int .i64 0, .int .i64 0]) ?_ 5 _ rfl; (with_reducible repeat (first | refine blk_drewN ?_ _ | refine blk_drew ?_ | refine blk_alloc ?_ _)); refine blk_put (cs := #[.int .i64 ((rd_T64 l1_7 x7_1).f0), .int .i64 ((rd_T64 l1_7 x7_1).f1), .int .i64 ((rd_T64 l1_7 x7_1).f2), .int .i64 ((rd_T64 l1_7 x7_1).f3), .int .i64 0, .int .i64 0, .int .i64 0, .int .i64 0, .int .i64 0, .int .i64 0, .int .i64 0]) ?_ 4 _ rfl; (with_reducible repeat (first | refine blk_drewN ?_ _ | refine blk_drew ?_ | refine blk_alloc ?_ _)); refine blk_put (cs := #[.int .i64 ((rd_T64 l1_7 x7_1).f0), .int .i64 ((rd_T64 l1_7 x7_1).f1), .int .i64 ((rd_T64 l1_7 x7_1).f2), .int .i64 0, .int .i64 0, .int .i64 0, .int .i64 0, .int .i64 0, .int .i64 0, .int .i64 0, .int .i64 0]) ?_ 3 _ rfl; (with_reducible repeat (first | refine blk_drewN ?_ _ | refine blk_drew ?_ | refine blk_alloc ?_ _)); refine blk_put (cs := #[.int .i64 ((rd_T64 l1_7 x7_1).f0), .int .i64 ((rd_T64 l1_7 x7_1).f1), .int .i64 0, .int .i64 0, .int .i64 0, .int .i64 0, .int .i64 0, .int .i64 0, .int .i64 0, .int .i64 0, .int .i64 0]) ?_ 2 _ rfl; (with_reducible repeat (first | refine blk_drewN ?_ _ | refine blk_drew ?_ | refine blk_alloc ?_ _)); refine blk_put (cs := #[.int .i64 ((rd_T64 l1_7 x7_1).f0), .int .i64 0, .int .i64 0, .int .i64 0, .int .i64 0, .int .i64 0, .int .i64 0, .int .i64 0, .int .i64 0, .int .i64 0, .int .i64 0]) ?_ 1 _ rfl; (with_reducible repeat (first | refine blk_drewN ?_ _ | refine blk_drew ?_ | refine blk_alloc ?_ _)); refine blk_put (cs := #[.int .i64 0, .int .i64 0, .int .i64 0, .int .i64 0, .int .i64 0, .int .i64 0, .int .i64 0, .int .i64 0, .int .i64 0, .int .i64 0, .int .i64 0]) ?_ 0 _ rfl; (with_reducible repeat (first | refine blk_drewN ?_ _ | refine blk_drew ?_ | refine blk_alloc ?_ _)); exact BK149.out) hb); have n3_ := Aside0.mk (below_step (by repeat (first | (with_reducible first | exact HB.out | apply below_alloc | apply pw_below_drewN | apply below_drew1 | refine below_set ?_ GE138.out | refine below_set ?_ GE149.out) | exact HB.out)) hb); clear BK138; clear BK149; clear HB; have HO152 := n0_; have BK138 := n1_; have BK149 := n2_; have HB := n3_; clear n0_ n1_ n2_ n3_; clear hb ho35; obtain ⟨Ao36, co36, eo36⟩ := Kd.R_slice HO152.out; subst eo36) | ((with_reducible refine gate_callee (f := 41) rfl ?_); refine goesL_ (some 83) rfl rfl Try.func41 (by kernel_rfl) rfl #[.string x0_1, .slice Ao36 y150.length co36] rfl (by (try simp only [List.map_toArray, List.map_cons, List.map_nil]); first | done | rfl | (simp only [List.length_drop, List.length_take]; rfl)) ?_; (with_reducible refine (storagebarterref01_PutList.calls k1 x0_1 _ _ y150 t153 _ ?side1 ?side2 A29.out).mono ?_); (case side1 => repeat (first | exact (Kd.R_reads' HO152.out).2.2 | (with_reducible refine Kd.C_alloc ?_ _) | (with_reducible refine Kd.C_drewN ?_ _) | (with_reducible refine Kd.C_drew ?_))); (case side2 => exact (Kd.R_reads' HO152.out).2.1); rintro e w37 ⟨rfl, hb⟩; refine ⟨_, rfl, ?_⟩; have n0_ := Aside0.mk (Kd.R_below (by (with_reducible repeat (first | apply Kd.R_alloc | apply Kd.R_drewN | apply Kd.R_drew)); exact HO152.out) hb); have n1_ := Aside0.mk (blk_below (g := gb138) (o := .cells #[.int .i64 a1_0, .int .i64 a1_1, .int .i64 a1_2, .int .i64 a1_3, .string a1_4, .int .i64 a1_5, .int .i64 a1_6, .slice (some ad148) l1_7.length c1_7] 28 (0, 0)) (by (with_reducible repeat (first | refine blk_drewN ?_ _ | refine blk_drew ?_ | refine blk_alloc ?_ _)); exact BK138.out) hb); have n2_ := Aside0.mk (blk_below (g := gb149) (o := .cells #[.int .i64 ((rd_T64 l1_7 x7_1).f0), .int .i64 ((rd_T64 l1_7 x7_1).f1), .int .i64 ((rd_T64 l1_7 x7_1).f2), .int .i64 ((rd_T64 l1_7 x7_1).f3), .int .i64 ((rd_T64 l1_7 x7_1).f4), .int .i64 ((rd_T64 l1_7 x7_1).f5), .int .i64 ((rd_T64 l1_7 x7_1).f6), .int .i64 ((rd_T64 l1_7 x7_1).f7), .int .i64 ((rd_T64 l1_7 x7_1).f8), .int .i64 ((rd_T64 l1_7 x7_1).f9), .int .i64 ((rd_T64 l1_7 x7_1).f10)] 64 (0, 0)) (by (with_reducible repeat (first | refine blk_drewN ?_ _ | refine blk_drew ?_ | refine blk_alloc ?_ _)); exact BK149.out) hb); have n3_ := Aside0.mk (below_step (by repeat (first | (with_reducible first | exact HB.out | apply below_alloc | apply pw_below_drewN | apply below_drew1 | refine below_set ?_ GE138.out | refine below_set ?_ GE149.out) | exact HB.out)) hb); clear HO152; clear BK138; clear BK149; clear HB; have HO152 := n0_; have BK138 := n1_; have BK149 := n2_; have HB := n3_; clear n0_ n1_ n2_ n3_; (try clear hb); (try clear hb2); (try clear hk); (try clear hi)))
      go_roundg k1
      case measure => have := HK1.out; omega
      case rel => exact ⟨(t153), (wrap64 (x7_1 + 1)), (by first | rfl | (simp; done) | (simp [*]; done)), (by first | rfl | (simp; done) | (simp [*]; done)), H', ⟨by have := HK1.out; omega⟩, ⟨by (with_reducible repeat (first | refine blk_drewN ?_ _ | refine blk_drew ?_ | refine blk_alloc ?_ _)); exact BK138.out⟩, ⟨by repeat (first | (with_reducible first | exact HB.out | apply below_alloc | apply pw_below_drewN | apply below_drew1 | refine below_set ?_ GE138.out | refine below_set ?_ GE149.out) | exact HB.out)⟩⟩
     ·rw [if_neg c28] at H
      exact absurd H (by simp)
    ·rw [if_neg c27] at H
     have c27b0 : decide (x7_1 < (l1_7.length : Int)) = false := decide_eq_false c27
     clear c27
     simp only [Option.some.injEq, Prod.mk.injEq] at H
     obtain ⟨rfl, rfl⟩ := H
     have hcz38_0 : wr.cell? ⟨gb138, 0, none⟩ = some (.int .i64 a1_0) := (blk_cell BK138.out 0).trans rfl
     have hcz38_1 : wr.cell? ⟨gb138, 1, none⟩ = some (.int .i64 a1_1) := (blk_cell BK138.out 1).trans rfl
     have hcz38_2 : wr.cell? ⟨gb138, 2, none⟩ = some (.int .i64 a1_2) := (blk_cell BK138.out 2).trans rfl
     have hcz38_3 : wr.cell? ⟨gb138, 3, none⟩ = some (.int .i64 a1_3) := (blk_cell BK138.out 3).trans rfl
     have hcz38_4 : wr.cell? ⟨gb138, 4, none⟩ = some (.string a1_4) := (blk_cell BK138.out 4).trans rfl
     have hcz38_5 : wr.cell? ⟨gb138, 5, none⟩ = some (.int .i64 a1_5) := (blk_cell BK138.out 5).trans rfl
     have hcz38_6 : wr.cell? ⟨gb138, 6, none⟩ = some (.int .i64 a1_6) := (blk_cell BK138.out 6).trans rfl
     have hcz38_7 : wr.cell? ⟨gb138, 7, none⟩ = some (.slice A1_7 l1_7.length c1_7) := (blk_cell BK138.out 7).trans rfl
     have hfz38_0 := blk_frozen BK138.out 0
     have hfz38_1 := blk_frozen BK138.out 1
     have hfz38_2 := blk_frozen BK138.out 2
     have hfz38_3 := blk_frozen BK138.out 3
     have hfz38_4 := blk_frozen BK138.out 4
     have hfz38_5 := blk_frozen BK138.out 5
     have hfz38_6 := blk_frozen BK138.out 6
     have hfz38_7 := blk_frozen BK138.out 7
     go_wp2
     go_ret2
     exact ⟨by first | rfl | (simp [errW_none, errW_some] <;> rfl) | (simp [*, errW_none, errW_some] <;> rfl), by repeat (first | (with_reducible first | exact HB.out | apply below_alloc | apply pw_below_drewN | apply below_drew1 | refine below_set ?_ GE138.out) | exact HB.out)⟩
 ·rw [if_neg c4] at H
  have c4b0 : (t139 == 0) = false := beq_eq_false_iff_ne.mpr c4
  have c4b1 : (t139 != 0) = true := bne_iff_ne.mpr c4
  simp only [Option.some.injEq, Prod.mk.injEq] at H
  obtain ⟨rfl, rfl⟩ := H
  go_enter Try.func21, Try.ntmps21
  go_wp2_with (first | ((with_reducible refine gate_dst (N := 3) rfl ?_); refine box_event ?hg (N := 3) ?hd (cs := #[.int .i64 a1_0, .int .i64 a1_1, .int .i64 a1_2, .int .i64 a1_3, .string a1_4, .int .i64 a1_5, .int .i64 a1_6, .slice A1_7 l1_7.length c1_7]) (t := 28) ?hr ?_; (case hd => rfl); (case hg => rfl); (case hr => first | (go_simp; done) | (go_simp; rfl)); intro gb138 hg w39 hbox hb; have n0_ := Aside0.mk (below_step (by repeat (first | (with_reducible first | exact HB.out | apply below_alloc | apply pw_below_drewN | apply below_drew1) | exact HB.out)) hb); have n1_ := Aside0.mk (hbox); have n2_ := Aside0.mk ((by rw [hg]; exact (below_size (by repeat (first | (with_reducible first | exact HB.out | apply below_alloc | apply pw_below_drewN | apply below_drew1) | exact HB.out))) : w.heap.size ≤ gb138)); have n3_ := Aside0.mk ((by rw [hg]; exact (below_size (by repeat (first | (with_reducible first | exact HB.out | apply below_alloc | apply pw_below_drewN | apply below_drew1) | exact HB.out))) : w.heap.size ≤ gb138)); clear HB; have HB := n0_; have BK138 := n1_; have GW138 := n2_; have GE138 := n3_; clear n0_ n1_ n2_ n3_; clear hb hbox hg; have hcz40_0 : w39.cell? ⟨gb138, 0, none⟩ = some (.int .i64 a1_0) := (blk_cell BK138.out 0).trans rfl; have hcz40_1 : w39.cell? ⟨gb138, 1, none⟩ = some (.int .i64 a1_1) := (blk_cell BK138.out 1).trans rfl; have hcz40_2 : w39.cell? ⟨gb138, 2, none⟩ = some (.int .i64 a1_2) := (blk_cell BK138.out 2).trans rfl; have hcz40_3 : w39.cell? ⟨gb138, 3, none⟩ = some (.int .i64 a1_3) := (blk_cell BK138.out 3).trans rfl; have hcz40_4 : w39.cell? ⟨gb138, 4, none⟩ = some (.string a1_4) := (blk_cell BK138.out 4).trans rfl; have hcz40_5 : w39.cell? ⟨gb138, 5, none⟩ = some (.int .i64 a1_5) := (blk_cell BK138.out 5).trans rfl; have hcz40_6 : w39.cell? ⟨gb138, 6, none⟩ = some (.int .i64 a1_6) := (blk_cell BK138.out 6).trans rfl; have hcz40_7 : w39.cell? ⟨gb138, 7, none⟩ = some (.slice A1_7 l1_7.length c1_7) := (blk_cell BK138.out 7).trans rfl; have hfz40_0 := blk_frozen BK138.out 0; have hfz40_1 := blk_frozen BK138.out 1; have hfz40_2 := blk_frozen BK138.out 2; have hfz40_3 := blk_frozen BK138.out 3; have hfz40_4 := blk_frozen BK138.out 4; have hfz40_5 := blk_frozen BK138.out 5; have hfz40_6 := blk_frozen BK138.out 6; have hfz40_7 := blk_frozen BK138.out 7) | ((with_reducible refine gate_callee (f := 23) rfl ?_); refine goesL_ (some 10) rfl rfl Try.func23 (by kernel_rfl) rfl #[.agg #[.int .i64 a1_0, .int .i64 a1_1, .int .i64 a1_2, .int .i64 a1_3, .string a1_4, .int .i64 a1_5, .int .i64 a1_6, .slice A1_7 l1_7.length c1_7]] rfl (by (try simp only [List.map_toArray, List.map_cons, List.map_nil]); first | done | rfl | (simp only [List.length_drop, List.length_take]; rfl)) ?_; (with_reducible refine (storagebarterref42_Check.calls a1_0 a1_1 a1_2 a1_3 a1_4 a1_5 a1_6 _ _ l1_7 t139 _ ?side1 ?side2 A3.out).mono ?_); (case side1 => repeat (first | exact (Kd.C_below HR1_7.out HB.out) | (with_reducible refine Kd.C_alloc ?_ _) | (with_reducible refine Kd.C_drewN ?_ _) | (with_reducible refine Kd.C_drew ?_))); (case side2 => exact HC1_7.out); rintro e w41 ⟨rfl, hb⟩; refine ⟨_, rfl, ?_⟩; have n0_ := Aside0.mk (blk_below (g := gb138) (o := .cells #[.int .i64 a1_0, .int .i64 a1_1, .int .i64 a1_2, .int .i64 a1_3, .string a1_4, .int .i64 a1_5, .int .i64 a1_6, .slice A1_7 l1_7.length c1_7] 28 (0, 0)) (by (with_reducible repeat (first | refine blk_drewN ?_ _ | refine blk_drew ?_ | refine blk_alloc ?_ _)); exact BK138.out) hb); have n1_ := Aside0.mk (below_step (by repeat (first | (with_reducible first | exact HB.out | apply below_alloc | apply pw_below_drewN | apply below_drew1 | refine below_set ?_ GE138.out) | exact HB.out)) hb); clear BK138; clear HB; have BK138 := n0_; have HB := n1_; clear n0_ n1_; (try clear hb); (try clear hb2); (try clear hk); (try clear hi)))
  go_ret2
  exact ⟨by first | rfl | (simp [errW_none, errW_some] <;> rfl) | (simp [*, errW_none, errW_some] <;> rfl), by repeat (first | (with_reducible first | exact HB.out | apply below_alloc | apply pw_below_drewN | apply below_drew1 | refine below_set ?_ GE138.out) | exact HB.out)⟩
end Go.Proofs.Ytcjdnahgffkbdaa.Q

namespace Go.Proofs.Ytcjdnahgffkbdaa.Q
open Go.RowKit Go.Proofs.YtcjdnahgffkbdaaW.PrintWords Go.Proofs.YtcjdnahgffkbdaaW.PrintLast Go.Proofs.YtcjdnahgffkbdaaW.PrintMore Go.Proofs.Ytcjdnahgffkbdaa.Gput Go.Proofs.Ytcjdnahgffkbdaa.Gputl
attribute [local go_sem] max2_int min2_int max_two min_two max_three min_three max_four min_four   -- for this text's walks alone
set_option linter.unusedVariables false
set_option linter.unusedSimpArgs false
def storagebarterref42_Encode.l0 : Nat → List (S28) → ByteArray → Int → Option (ByteArray × Int)
 | 0, _, _, _ => none
 | k + 1, x0, x4, x5 => if x5 < (x0.length : Int) then (if 0 ≤ x5 then ((storagebarterref42_Put.f k x4 ((rd_T28 x0 x5).f0) ((rd_T28 x0 x5).f1) ((rd_T28 x0 x5).f2) ((rd_T28 x0 x5).f3) ((rd_T28 x0 x5).f4) ((rd_T28 x0 x5).f5.f0) ((rd_T28 x0 x5).f5.f1) ((rd_T28 x0 x5).f5.f2)).bind fun bt156 => (if bt156.2 = 0 then (storagebarterref42_Encode.l0 k x0 bt156.1 (wrap64 (x5 + 1))) else (some ((⟨#[]⟩ : ByteArray), bt156.2)))) else (none)) else (some (x4, 0))
def storagebarterref42_Encode.f (k : Nat) (l0 : List (S28)) : Option (ByteArray × Int) := if (l0.length : Int) > 256 then (some ((⟨#[]⟩ : ByteArray), 4)) else ((storagebarterref01_PutInt.f k (⟨#[]⟩ : ByteArray) (l0.length : Int)).bind fun t154 => (storagebarterref42_Encode.l0 k l0 t154 0))
theorem storagebarterref42_Encode.mono_l : ∀ k, (∀ y0 y1 y2, LeO (storagebarterref42_Encode.l0 k y0 y1 y2) (storagebarterref42_Encode.l0 (k + 1) y0 y1 y2))
 | 0 => fun _ _ _ r h => by simp [storagebarterref42_Encode.l0] at h
 | k + 1 => by
  have ih0 := storagebarterref42_Encode.mono_l k
  ·intro y0 y1 y2
   unfold storagebarterref42_Encode.l0
   repeat' first
   | (with_reducible exact ih0 _ _ _)
   | (with_reducible exact storagebarterref01_PutInt.mono _ _ _)
   | (with_reducible exact storagebarterref42_Put.mono _ _ _ _ _ _ _ _ _ _)
   | (with_reducible exact LeO.refl _)
   | (with_reducible exact LeO.none _)
   | (with_reducible refine LeO.ite ?_ ?_)
   | (with_reducible refine LeO.bind ?_ (fun _ => ?_))
   | exact ih0 _ _ _
   | exact storagebarterref01_PutInt.mono _ _ _
   | exact storagebarterref42_Put.mono _ _ _ _ _ _ _ _ _ _
   | exact LeO.none _
   | refine LeO.ite ?_ ?_
   | refine LeO.bind ?_ (fun _ => ?_)
theorem storagebarterref42_Encode.mono : ∀ a0 k, LeO (storagebarterref42_Encode.f k a0) (storagebarterref42_Encode.f (k + 1) a0) := by
 intro a0 k
 have ih0 := storagebarterref42_Encode.mono_l k
 unfold storagebarterref42_Encode.f
 repeat' first
  | (with_reducible exact ih0 _ _ _)
  | (with_reducible exact storagebarterref01_PutInt.mono _ _ _)
  | (with_reducible exact storagebarterref42_Put.mono _ _ _ _ _ _ _ _ _ _)
  | (with_reducible exact LeO.refl _)
  | (with_reducible exact LeO.none _)
  | (with_reducible refine LeO.ite ?_ ?_)
  | (with_reducible refine LeO.bind ?_ (fun _ => ?_))
  | exact ih0 _ _ _
  | exact storagebarterref01_PutInt.mono _ _ _
  | exact storagebarterref42_Put.mono _ _ _ _ _ _ _ _ _ _
  | exact LeO.none _
  | refine LeO.ite ?_ ?_
  | refine LeO.bind ?_ (fun _ => ?_)
set_option maxHeartbeats 8000000 in
set_option maxRecDepth 100000 in
theorem storagebarterref42_Encode.calls (k : Nat) (A0 : Option Addr) (c0 : Nat) (l0 : List (S28)) (r1 : ByteArray) (r2 : Int) (w : World) (hr0 : Kd.C k28 w A0 l0.length l0) (hc0 : l0.length ≤ c0) (h : storagebarterref42_Encode.f k l0 = some (r1, r2)) :
 Calls Try.prog 9 #[.slice A0 l0.length c0] w fun e w' => e = .returned (.tuple #[.string r1, .int .i64 r2]) ∧ Below w.heap.size w w' := by
 have hu28 := Try.underlying28
 have HR0 := Aside0.mk hr0
 have HC0 := Aside0.mk hc0
 clear hr0 hc0
 have HB := Aside0.mk (Below.refl w.heap.size w)
 have H : (if (l0.length : Int) > 256 then (some ((⟨#[]⟩ : ByteArray), 4)) else ((storagebarterref01_PutInt.f k (⟨#[]⟩ : ByteArray) (l0.length : Int)).bind fun t154 => (storagebarterref42_Encode.l0 k l0 t154 0))) = some (r1, r2) := h
 clear h
 by_cases c2 : (l0.length : Int) > 256
 ·rw [if_pos c2] at H
  have c2b0 : decide (256 < (l0.length : Int)) = true := decide_eq_true c2
  have c2b1 : decide (256 < l0.length) = true := decide_eq_true (by omega)
  clear c2
  simp only [Option.some.injEq, Prod.mk.injEq] at H
  obtain ⟨rfl, rfl⟩ := H
  go_enter Try.func9, Try.ntmps9
  go_wp2
  go_ret2
  exact ⟨by first | rfl | (simp [errW_none, errW_some] <;> rfl) | (simp [*, errW_none, errW_some] <;> rfl), by repeat (first | (with_reducible first | exact HB.out | apply below_alloc | apply pw_below_drewN | apply below_drew1) | exact HB.out)⟩
 ·rw [if_neg c2] at H
  have c2b0 : decide (256 < (l0.length : Int)) = false := decide_eq_false c2
  have c2b1 : decide (256 < l0.length) = false := decide_eq_false (by omega)
  clear c2
  replace H := Option.bind_eq_some_iff.mp H
  obtain ⟨t154, A30, H⟩ := H
  replace H : (storagebarterref42_Encode.l0 k l0 t154 0) = some (r1, r2) := H
  have A3 := Aside0.mk A30
  clear A30
  have H' := Aside0.mk H
  clear H
  go_enter Try.func9, Try.ntmps9
  go_wp2_with (first | ((with_reducible refine gate_callee (f := 25) rfl ?_); refine goesL_ (some 13) rfl rfl Try.func25 (by kernel_rfl) rfl #[.string (⟨#[]⟩ : ByteArray), .int .i64 (l0.length : Int)] rfl (by (try simp only [List.map_toArray, List.map_cons, List.map_nil]); first | done | rfl | (simp only [List.length_drop, List.length_take]; rfl)) ?_; (with_reducible refine (storagebarterref01_PutInt.calls k (⟨#[]⟩ : ByteArray) (l0.length : Int) t154 _ A3.out).mono ?_); rintro e w4 ⟨rfl, hb⟩; refine ⟨_, rfl, ?_⟩; have n0_ := Aside0.mk (below_step (by repeat (first | (with_reducible first | exact HB.out | apply below_alloc | apply pw_below_drewN | apply below_drew1) | exact HB.out)) hb); clear HB; have HB := n0_; clear n0_; (try clear hb); (try clear hb2); (try clear hk); (try clear hi)))
  go_loopg [4, 5] k (fun kq v4 v5 w' => ∃ (x4_1 : ByteArray) (x5_1 : Int), v4 = .string x4_1 ∧ v5 = .int .i64 x5_1 ∧ Aside0 (storagebarterref42_Encode.l0 kq l0 x4_1 x5_1 = some (r1, r2)) ∧ Aside0 (kq ≤ k) ∧ Aside0 (Below w.heap.size w w'))
  case atStart => exact ⟨(t154), (0), (by first | rfl | (simp; done) | (simp [*]; done)), (by first | rfl | (simp; done) | (simp [*]; done)), H', ⟨Nat.le_refl _⟩, ⟨by repeat (first | (with_reducible first | exact HB.out | apply below_alloc | apply pw_below_drewN | apply below_drew1) | exact HB.out)⟩⟩
  case round =>
   clear H'
   try clear c2
   try clear c2b0
   try clear c2b1
   try clear p2
   obtain ⟨x4_1, x5_1, rfl, rfl, HA, HK1, HB⟩ := hrel
   cases gk with
   | zero => exact absurd HA.out (by simp [storagebarterref42_Encode.l0])
   | succ k1 =>
    have H := HA.out
    clear HA
    simp only [storagebarterref42_Encode.l0] at H
    by_cases c5 : x5_1 < (l0.length : Int)
    ·rw [if_pos c5] at H
     have c5b0 : decide (x5_1 < (l0.length : Int)) = true := decide_eq_true c5
     clear c5
     by_cases c6 : 0 ≤ x5_1
     ·rw [if_pos c6] at H
      have c6b0 : decide (0 ≤ x5_1) = true := decide_eq_true c6
      clear c6
      replace H := Option.bind_eq_some_iff.mp H
      obtain ⟨⟨t156, t157⟩, A70, H⟩ := H
      replace H : (if t157 = 0 then (storagebarterref42_Encode.l0 k1 l0 t156 (wrap64 (x5_1 + 1))) else (some ((⟨#[]⟩ : ByteArray), t157))) = some (r1, r2) := H
      have A7 := Aside0.mk A70
      clear A70
      by_cases c8 : t157 = 0
      ·rw [if_pos c8] at H
       have c8b0 : (t157 == 0) = true := beq_iff_eq.mpr c8
       have c8b1 : (t157 != 0) = false := bne_eq_false_iff_eq.mpr c8
       clear c8
       have H' := Aside0.mk H
       clear H
       have p155 : 0 ≤ (x5_1 : Int) := of_decide_eq_true (by first | (with_reducible assumption) | assumption)
       have q155 : x5_1 < (l0.length : Int) := of_decide_eq_true (by first | (with_reducible assumption) | assumption)
       obtain ⟨ad155, A155_7, c155_7, e155, hx155_0, hx155_1, hx155_2, hx155_3, hx155_4, hx155_5, hx155_6, hx155_7, hl155_7, hi155_7⟩ := at_T28 HR0.out x5_1 p155 q155
       cases e155
       replace hx155_0 := (HB.out.cell (World.block_lt_of_cell? w _ hx155_0)).trans hx155_0
       replace hx155_1 := (HB.out.cell (World.block_lt_of_cell? w _ hx155_1)).trans hx155_1
       replace hx155_2 := (HB.out.cell (World.block_lt_of_cell? w _ hx155_2)).trans hx155_2
       replace hx155_3 := (HB.out.cell (World.block_lt_of_cell? w _ hx155_3)).trans hx155_3
       replace hx155_4 := (HB.out.cell (World.block_lt_of_cell? w _ hx155_4)).trans hx155_4
       replace hx155_5 := (HB.out.cell (World.block_lt_of_cell? w _ hx155_5)).trans hx155_5
       replace hx155_6 := (HB.out.cell (World.block_lt_of_cell? w _ hx155_6)).trans hx155_6
       replace hx155_7 := (HB.out.cell (World.block_lt_of_cell? w _ hx155_7)).trans hx155_7
       have HR155_7 := Aside0.mk hi155_7
       have HC155_7 := Aside0.mk hl155_7
       clear hi155_7 hl155_7
       replace p155 := eq_true p155
       replace q155 := eq_true q155
       go_wp2_with (first | ((with_reducible refine gate_callee (f := 21) rfl ?_); refine goesL_ (some 26) rfl rfl Try.func21 (by kernel_rfl) rfl #[.string x4_1, .agg #[.int .i64 ((rd_T28 l0 x5_1).f0), .int .i64 ((rd_T28 l0 x5_1).f1), .int .i64 ((rd_T28 l0 x5_1).f2), .int .i64 ((rd_T28 l0 x5_1).f3), .string ((rd_T28 l0 x5_1).f4), .int .i64 ((rd_T28 l0 x5_1).f5.f0), .int .i64 ((rd_T28 l0 x5_1).f5.f1), .slice A155_7 ((rd_T28 l0 x5_1).f5.f2).length c155_7]] rfl (by (try simp only [List.map_toArray, List.map_cons, List.map_nil]); first | done | rfl | (simp only [List.length_drop, List.length_take]; rfl)) ?_; (with_reducible refine (storagebarterref42_Put.calls k1 x4_1 ((rd_T28 l0 x5_1).f0) ((rd_T28 l0 x5_1).f1) ((rd_T28 l0 x5_1).f2) ((rd_T28 l0 x5_1).f3) ((rd_T28 l0 x5_1).f4) ((rd_T28 l0 x5_1).f5.f0) ((rd_T28 l0 x5_1).f5.f1) _ _ ((rd_T28 l0 x5_1).f5.f2) t156 t157 _ ?side1 ?side2 A7.out).mono ?_); (case side1 => repeat (first | exact (Kd.C_below HR155_7.out HB.out) | (with_reducible refine Kd.C_alloc ?_ _) | (with_reducible refine Kd.C_drewN ?_ _) | (with_reducible refine Kd.C_drew ?_))); (case side2 => exact HC155_7.out); rintro e w9 ⟨rfl, hb⟩; refine ⟨_, rfl, ?_⟩; have n0_ := Aside0.mk (below_step (by repeat (first | (with_reducible first | exact HB.out | apply below_alloc | apply pw_below_drewN | apply below_drew1) | exact HB.out)) hb); clear HB; have HB := n0_; clear n0_; (try clear hb); (try clear hb2); (try clear hk); (try clear hi)))
       go_roundg k1
       case measure => have := HK1.out; omega
       case rel => exact ⟨(t156), (wrap64 (x5_1 + 1)), (by first | rfl | (simp; done) | (simp [*]; done)), (by first | rfl | (simp; done) | (simp [*]; done)), H', ⟨by have := HK1.out; omega⟩, ⟨by repeat (first | (with_reducible first | exact HB.out | apply below_alloc | apply pw_below_drewN | apply below_drew1) | exact HB.out)⟩⟩
      ·rw [if_neg c8] at H
       have c8b0 : (t157 == 0) = false := beq_eq_false_iff_ne.mpr c8
       have c8b1 : (t157 != 0) = true := bne_iff_ne.mpr c8
       simp only [Option.some.injEq, Prod.mk.injEq] at H
       obtain ⟨rfl, rfl⟩ := H
       have p155 : 0 ≤ (x5_1 : Int) := of_decide_eq_true (by first | (with_reducible assumption) | assumption)
       have q155 : x5_1 < (l0.length : Int) := of_decide_eq_true (by first | (with_reducible assumption) | assumption)
       obtain ⟨ad155, A155_7, c155_7, e155, hx155_0, hx155_1, hx155_2, hx155_3, hx155_4, hx155_5, hx155_6, hx155_7, hl155_7, hi155_7⟩ := at_T28 HR0.out x5_1 p155 q155
       cases e155
       replace hx155_0 := (HB.out.cell (World.block_lt_of_cell? w _ hx155_0)).trans hx155_0
       replace hx155_1 := (HB.out.cell (World.block_lt_of_cell? w _ hx155_1)).trans hx155_1
       replace hx155_2 := (HB.out.cell (World.block_lt_of_cell? w _ hx155_2)).trans hx155_2
       replace hx155_3 := (HB.out.cell (World.block_lt_of_cell? w _ hx155_3)).trans hx155_3
       replace hx155_4 := (HB.out.cell (World.block_lt_of_cell? w _ hx155_4)).trans hx155_4
       replace hx155_5 := (HB.out.cell (World.block_lt_of_cell? w _ hx155_5)).trans hx155_5
       replace hx155_6 := (HB.out.cell (World.block_lt_of_cell? w _ hx155_6)).trans hx155_6
       replace hx155_7 := (HB.out.cell (World.block_lt_of_cell? w _ hx155_7)).trans hx155_7
       have HR155_7 := Aside0.mk hi155_7
       have HC155_7 := Aside0.mk hl155_7
       clear hi155_7 hl155_7
       replace p155 := eq_true p155
       replace q155 := eq_true q155
       go_wp2_with (first | ((with_reducible refine gate_callee (f := 21) rfl ?_); refine goesL_ (some 26) rfl rfl Try.func21 (by kernel_rfl) rfl #[.string x4_1, .agg #[.int .i64 ((rd_T28 l0 x5_1).f0), .int .i64 ((rd_T28 l0 x5_1).f1), .int .i64 ((rd_T28 l0 x5_1).f2), .int .i64 ((rd_T28 l0 x5_1).f3), .string ((rd_T28 l0 x5_1).f4), .int .i64 ((rd_T28 l0 x5_1).f5.f0), .int .i64 ((rd_T28 l0 x5_1).f5.f1), .slice A155_7 ((rd_T28 l0 x5_1).f5.f2).length c155_7]] rfl (by (try simp only [List.map_toArray, List.map_cons, List.map_nil]); first | done | rfl | (simp only [List.length_drop, List.length_take]; rfl)) ?_; (with_reducible refine (storagebarterref42_Put.calls k1 x4_1 ((rd_T28 l0 x5_1).f0) ((rd_T28 l0 x5_1).f1) ((rd_T28 l0 x5_1).f2) ((rd_T28 l0 x5_1).f3) ((rd_T28 l0 x5_1).f4) ((rd_T28 l0 x5_1).f5.f0) ((rd_T28 l0 x5_1).f5.f1) _ _ ((rd_T28 l0 x5_1).f5.f2) t156 t157 _ ?side1 ?side2 A7.out).mono ?_); (case side1 => repeat (first | exact (Kd.C_below HR155_7.out HB.out) | (with_reducible refine Kd.C_alloc ?_ _) | (with_reducible refine Kd.C_drewN ?_ _) | (with_reducible refine Kd.C_drew ?_))); (case side2 => exact HC155_7.out); rintro e w10 ⟨rfl, hb⟩; refine ⟨_, rfl, ?_⟩; have n0_ := Aside0.mk (below_step (by repeat (first | (with_reducible first | exact HB.out | apply below_alloc | apply pw_below_drewN | apply below_drew1) | exact HB.out)) hb); clear HB; have HB := n0_; clear n0_; (try clear hb); (try clear hb2); (try clear hk); (try clear hi)))
       go_ret2
       exact ⟨by first | rfl | (simp [errW_none, errW_some] <;> rfl) | (simp [*, errW_none, errW_some] <;> rfl), by repeat (first | (with_reducible first | exact HB.out | apply below_alloc | apply pw_below_drewN | apply below_drew1) | exact HB.out)⟩
     ·rw [if_neg c6] at H
      exact absurd H (by simp)
    ·rw [if_neg c5] at H
     have c5b0 : decide (x5_1 < (l0.length : Int)) = false := decide_eq_false c5
     clear c5
     simp only [Option.some.injEq, Prod.mk.injEq] at H
     obtain ⟨rfl, rfl⟩ := H
     go_wp2
     go_ret2
     exact ⟨by first | rfl | (simp [errW_none, errW_some] <;> rfl) | (simp [*, errW_none, errW_some] <;> rfl), by repeat (first | (with_reducible first | exact HB.out | apply below_alloc | apply pw_below_drewN | apply below_drew1) | exact HB.out)⟩
end Go.Proofs.Ytcjdnahgffkbdaa.Q

namespace Go.Proofs.Ytcjdnahgffkbdaa.Son
open Go Go.RowKit Go.Proofs Go.Proofs.Ytcjdnahgffkbdaa.Gm Go.Proofs.Ytcjdnahgffkbdaa.Gwa Go.Proofs.Ytcjdnahgffkbdaa.Gwb Go.Proofs.Ytcjdnahgffkbdaa.Gwd Go.Proofs.Ytcjdnahgffkbdaa.Spt Go.Proofs.Ytcjdnahgffkbdaa.Sen Go.Proofs.Ytcjdnahgffkbdaa.Srt Go.Proofs.Ytcjdnahgffkbdaa.Snx Go.Proofs.Ytcjdnahgffkbdaa.Q Go.Proofs.Ytcjdnahgffkbdaa.Gput Go.Proofs.YtcjdnahgffkbdaaW.PrintWords Go.Proofs.YtcjdnahgffkbdaaW.PrintLast Go.Proofs.YtcjdnahgffkbdaaW.PrintMore
set_option linter.unusedVariables false
def num (a b : Int) : Int := if a < b then -1 else if a > b then 1 else 0
theorem num_eq (a b : Int) : storagebarterref23_number.f a b = some (num a b) := by
  unfold storagebarterref23_number.f num
  by_cases h : a < b
  · rw [if_pos h, if_pos h]
  · rw [if_neg h, if_neg h]
    by_cases h2 : a > b
    · rw [if_pos h2, if_pos h2]
    · rw [if_neg h2, if_neg h2]
theorem num_zero {a b : Int} : num a b = 0 ↔ a = b := by
  unfold num
  by_cases h : a < b
  · rw [if_pos h]; omega
  · rw [if_neg h]
    by_cases h2 : a > b
    · rw [if_pos h2]; omega
    · rw [if_neg h2]; omega
def fnz : List Int → Int
  | [] => 0
  | x :: xs => if x = 0 then fnz xs else x
theorem fnz_zero : ∀ (l : List Int), fnz l = 0 ↔ ∀ x ∈ l, x = 0
  | [] => by simp [fnz]
  | x :: xs => by
    have ih := fnz_zero xs
    by_cases h : x = 0
    · simp [fnz, h, ih]
    · simp [fnz, h]
theorem first_l0 (l : List Int) (hl : l.length ≤ 1000000) : ∀ (d i k : Nat), l.length - i = d → i ≤ l.length → d < k → storagebarterref23_first.l0 k l (i : Int) = some (fnz (l.drop i)) := by
  intro d
  induction d with
  | zero =>
    intro i k hd hi hk
    obtain ⟨k, rfl⟩ : ∃ m, k = m + 1 := ⟨k - 1, by omega⟩
    rw [storagebarterref23_first.l0, if_neg (by omega), List.drop_of_length_le (by omega)]
    rfl
  | succ d ih =>
    intro i k hd hi hk
    obtain ⟨k, rfl⟩ : ∃ m, k = m + 1 := ⟨k - 1, by omega⟩
    have hil : i < l.length := by omega
    have e : rd l (i : Int) = l[i] := by simp [rd, List.getD, hil]
    rw [storagebarterref23_first.l0, if_pos (by omega), if_pos (by omega), e, List.drop_eq_getElem_cons hil, fnz]
    by_cases h : l[i] = 0
    · rw [if_pos h, if_pos h, Gwa.w64 (x := (i : Int) + 1) (by omega), show ((i : Int) + 1) = ((i + 1 : Nat) : Int) by omega]
      exact ih (i + 1) k (by omega) (by omega) (by omega)
    · rw [if_neg h, if_neg h]
theorem first_eq (l : List Int) (k : Nat) (hl : l.length ≤ 1000000) (hk : l.length < k) : storagebarterref23_first.f k l = some (fnz l) := by
  have h := first_l0 l hl l.length 0 k rfl (by omega) hk
  rw [List.drop_zero] at h
  exact h
theorem say_eq (s u : S64) (k : Nat) (hk : 12 ≤ k) : ∃ c, storagebarterref23_say.f k s.f0 s.f1 s.f2 s.f3 s.f4 s.f5 s.f6 s.f7 s.f8 s.f9 s.f10 u.f0 u.f1 u.f2 u.f3 u.f4 u.f5 u.f6 u.f7 u.f8 u.f9 u.f10 = some c ∧ (c = 0 ↔ s = u) := by
  unfold storagebarterref23_say.f
  simp only [num_eq, Option.bind_some]
  rw [first_eq _ k (by simp) (by simp; omega), Option.bind_some]
  refine ⟨_, rfl, ?_⟩
  rw [fnz_zero]
  simp only [List.mem_cons, List.not_mem_nil, or_false, forall_eq_or_imp, forall_eq, num_zero]
  constructor
  · rintro ⟨h0, h1, h2, h3, h4, h5, h6, h7, h8, h9, h10⟩
    cases s
    cases u
    simp_all
  · rintro rfl
    simp
theorem says_l0 (a b : List S64) (hab : a.length = b.length) (hl : a.length ≤ 1000000) : ∀ (d i k : Nat), a.length - i = d → i ≤ a.length → d + 13 ≤ k → ∃ c, storagebarterref23_says.l0 k a b (i : Int) = some c ∧ (c = 0 ↔ a.drop i = b.drop i) := by
  intro d
  induction d with
  | zero =>
    intro i k hd hi hk
    obtain ⟨k, rfl⟩ : ∃ m, k = m + 1 := ⟨k - 1, by omega⟩
    rw [storagebarterref23_says.l0, if_neg (by omega), List.drop_of_length_le (by omega), List.drop_of_length_le (by omega)]
    exact ⟨0, rfl, by simp⟩
  | succ d ih =>
    intro i k hd hi hk
    obtain ⟨k, rfl⟩ : ∃ m, k = m + 1 := ⟨k - 1, by omega⟩
    have hia : i < a.length := by omega
    have hib : i < b.length := by omega
    have ea : rd_T64 a (i : Int) = a[i] := by simp [rd_T64, List.getD, hia]
    have eb : rd_T64 b (i : Int) = b[i] := by simp [rd_T64, List.getD, hib]
    obtain ⟨c, hc, hz⟩ := say_eq a[i] b[i] k (by omega)
    rw [storagebarterref23_says.l0, if_pos (by omega), if_pos (by omega), if_pos (by omega), ea, eb, hc, Option.bind_some, show a.drop i = a[i] :: a.drop (i + 1) from List.drop_eq_getElem_cons hia, show b.drop i = b[i] :: b.drop (i + 1) from List.drop_eq_getElem_cons hib]
    by_cases h : c = 0
    · rw [if_pos h, Gwa.w64 (x := (i : Int) + 1) (by omega), show ((i : Int) + 1) = ((i + 1 : Nat) : Int) by omega]
      obtain ⟨c', h1, h2⟩ := ih (i + 1) k (by omega) (by omega) (by omega)
      exact ⟨c', h1, by rw [h2, List.cons.injEq]; exact ⟨fun z => ⟨hz.1 h, z⟩, fun z => z.2⟩⟩
    · rw [if_neg h]
      exact ⟨c, rfl, by simp only [List.cons.injEq]; constructor; · intro z; exact absurd z h
                        · rintro ⟨z, -⟩; exact hz.2 z⟩
theorem says_eq (a b : List S64) (k : Nat) (hl : a.length ≤ 1000000) (hk : a.length + 13 ≤ k) : ∃ c, storagebarterref23_says.f k a b = some c ∧ (c = 0 ↔ a = b) := by
  unfold storagebarterref23_says.f
  by_cases h : a.length = b.length
  · rw [if_pos (by omega)]
    have := says_l0 a b h hl a.length 0 k rfl (by omega) (by omega)
    simpa using this
  · rw [if_neg (by omega), num_eq, Option.bind_some]
    refine ⟨_, rfl, ?_⟩
    rw [num_zero]
    constructor
    · intro z; omega
    · rintro rfl; exact absurd rfl h
theorem text_nil : storagebarterref23_text.f (⟨#[]⟩ : ByteArray) (⟨#[]⟩ : ByteArray) = some 0 := by
  unfold storagebarterref23_text.f
  rw [show (⟨#[]⟩ : ByteArray).toList = [] from B_toList []]
  rfl
theorem toList_inj {a b : ByteArray} : a.toList = b.toList ↔ a = b := by
  obtain ⟨x, rfl⟩ := exB a
  obtain ⟨y, rfl⟩ := exB b
  rw [B_toList, B_toList]
  exact ⟨fun h => by rw [h], fun h => by have := congrArg (fun z => z.data.toList) h; simpa [B_data] using this⟩
theorem one_eq (x y : S28) (k : Nat) (hl : x.f5.f2.length ≤ 1000000) (hk : x.f5.f2.length + 20 ≤ k) :
    ∃ b, storagebarterref42_One.f k x.f0 x.f1 x.f2 x.f3 x.f4 x.f5.f0 x.f5.f1 x.f5.f2 y.f0 y.f1 y.f2 y.f3 y.f4 y.f5.f0 y.f5.f1 y.f5.f2 = some b ∧ (b = true ↔ x = y) := by
  have hx : x = y ↔ x.f0 = y.f0 ∧ x.f1 = y.f1 ∧ x.f2 = y.f2 ∧ x.f3 = y.f3 ∧ x.f4 = y.f4 ∧ x.f5.f0 = y.f5.f0 ∧ x.f5.f1 = y.f5.f1 ∧ x.f5.f2 = y.f5.f2 := by
    obtain ⟨x0, x1, x2, x3, x4, ⟨x5, x6, x7⟩⟩ := x
    obtain ⟨y0, y1, y2, y3, y4, ⟨y5, y6, y7⟩⟩ := y
    simp
  unfold storagebarterref42_One.f storagebarterref23_Same.f storagebarterref23_Compare.f
  rw [hx]
  by_cases h0 : x.f0 = y.f0
  case neg => rw [if_neg h0]; exact ⟨false, rfl, by simp [h0]⟩
  by_cases h1 : x.f1 = y.f1
  case neg => rw [if_pos h0, if_neg h1]; exact ⟨false, rfl, by simp [h1]⟩
  by_cases h2 : x.f2 = y.f2
  case neg => rw [if_pos h0, if_pos h1, if_neg h2]; exact ⟨false, rfl, by simp [h2]⟩
  by_cases h3 : x.f3 = y.f3
  case neg => rw [if_pos h0, if_pos h1, if_pos h2, if_neg h3]; exact ⟨false, rfl, by simp [h3]⟩
  by_cases h4 : x.f4 = y.f4
  case neg => rw [if_pos h0, if_pos h1, if_pos h2, if_pos h3, if_neg (fun z => h4 (toList_inj.1 z))]; exact ⟨false, rfl, by simp [h4]⟩
  obtain ⟨c0, e0, z0⟩ := says_eq ([] : List S64) [] k (by simp) (by simp; omega)
  obtain ⟨c, e, z⟩ := says_eq x.f5.f2 y.f5.f2 k hl (by omega)
  rw [if_pos h0, if_pos h1, if_pos h2, if_pos h3, if_pos (toList_inj.2 h4)]
  simp only [num_eq, text_nil, e0, e, Option.bind_some]
  rw [first_eq _ k (by simp) (by simp; omega)]
  simp only [Option.bind_some]
  refine ⟨_, rfl, ?_⟩
  rw [beq_iff_eq, fnz_zero]
  simp only [List.mem_cons, List.not_mem_nil, or_false, forall_eq_or_imp, forall_eq, num_zero, z, z0]
  simp [h0, h1, h2, h3, h4]
theorem rsame_l0 (a b : List S28) (M : Nat) (hM : ∀ x ∈ a, x.f5.f2.length ≤ M) (hm : M ≤ 1000000) (hab : a.length = b.length) (hl : a.length ≤ 1000000) : ∀ (d i k : Nat), a.length - i = d → i ≤ a.length → d + M + 21 ≤ k → ∃ c, storagebarterref42_Same.l0 k a b (i : Int) = some c ∧ (c = true ↔ a.drop i = b.drop i) := by
  intro d
  induction d with
  | zero =>
    intro i k hd hi hk
    obtain ⟨k, rfl⟩ : ∃ m, k = m + 1 := ⟨k - 1, by omega⟩
    rw [storagebarterref42_Same.l0, if_neg (by omega), List.drop_of_length_le (by omega), List.drop_of_length_le (by omega)]
    exact ⟨true, rfl, by simp⟩
  | succ d ih =>
    intro i k hd hi hk
    obtain ⟨k, rfl⟩ : ∃ m, k = m + 1 := ⟨k - 1, by omega⟩
    have hia : i < a.length := by omega
    have hib : i < b.length := by omega
    have ea : rd_T28 a (i : Int) = a[i] := by simp [rd_T28, List.getD, hia]
    have eb : rd_T28 b (i : Int) = b[i] := by simp [rd_T28, List.getD, hib]
    have hMi := hM _ (List.getElem_mem hia)
    obtain ⟨c, hc, hz⟩ := one_eq a[i] b[i] k (by omega) (by omega)
    rw [storagebarterref42_Same.l0, if_pos (by omega), if_pos (by omega), if_pos (by omega), ea, eb, hc, Option.bind_some, show a.drop i = a[i] :: a.drop (i + 1) from List.drop_eq_getElem_cons hia, show b.drop i = b[i] :: b.drop (i + 1) from List.drop_eq_getElem_cons hib]
    by_cases h : c = true
    · rw [if_pos h, Gwa.w64 (x := (i : Int) + 1) (by omega), show ((i : Int) + 1) = ((i + 1 : Nat) : Int) by omega]
      obtain ⟨c', h1, h2⟩ := ih (i + 1) k (by omega) (by omega) (by omega)
      exact ⟨c', h1, by rw [h2, List.cons.injEq]; exact ⟨fun z => ⟨hz.1 h, z⟩, fun z => z.2⟩⟩
    · rw [if_neg h]
      exact ⟨false, rfl, by simp only [List.cons.injEq]; constructor; · intro z; cases z
                            · rintro ⟨z, -⟩; exact absurd (hz.2 z) h⟩
theorem rsame_eq (a b : List S28) (M k : Nat) (hM : ∀ x ∈ a, x.f5.f2.length ≤ M) (hm : M ≤ 1000000) (hl : a.length ≤ 1000000) (hk : a.length + M + 21 ≤ k) : ∃ c, storagebarterref42_Same.f k a b = some c ∧ (c = true ↔ a = b) := by
  unfold storagebarterref42_Same.f
  by_cases h : a.length = b.length
  · rw [if_pos (by omega)]
    have := rsame_l0 a b M hM hm h hl a.length 0 k rfl (by omega) (by omega)
    simpa using this
  · rw [if_neg (by omega)]
    exact ⟨false, rfl, by constructor; · intro z; cases z
                          · rintro rfl; exact absurd rfl h⟩
end Go.Proofs.Ytcjdnahgffkbdaa.Son

namespace Go.Proofs.Ytcjdnahgffkbdaa.Sjn
open Go Go.RowKit Go.Proofs Go.Proofs.Ytcjdnahgffkbdaa.Gm Go.Proofs.Ytcjdnahgffkbdaa.Spt Go.Proofs.Ytcjdnahgffkbdaa.Sgt Go.Proofs.Ytcjdnahgffkbdaa.Srt Go.Proofs.Ytcjdnahgffkbdaa.Ssa Go.Proofs.Ytcjdnahgffkbdaa.Spd Go.Proofs.Ytcjdnahgffkbdaa.Spe Go.Proofs.Ytcjdnahgffkbdaa.Sps Go.Proofs.Ytcjdnahgffkbdaa.Slw Go.Proofs.Ytcjdnahgffkbdaa.Son Go.Proofs.Ytcjdnahgffkbdaa.Q Go.Proofs.YtcjdnahgffkbdaaW.PrintWords Go.Proofs.YtcjdnahgffkbdaaW.PrintLast Go.Proofs.YtcjdnahgffkbdaaW.PrintMore
set_option linter.unusedVariables false
theorem R_over {α β : Type} {d : Kd α} {d2 : Kd β} {e e2 : Nat} {w w1 : World} {base base2 : Nat} {ok ok2 : Nat → Prop} {u v : Value} {xs : List α} {ys : List β} (h : d.R e w base ok u xs) (h2 : d2.R e2 w base2 ok2 v ys) (ht : ∀ q, q ∈ e :: d.E → q ≠ e2) (hg : w.grownBy w1 v.ownBlock) : d.R e w1 base ok u xs := by
  refine Kd.R_mono (Kd.R_move (Kd.R_bound h) (fun k hk => hg.block k hk.2.2.1 (fun he => ?_))) (fun _ hk => hk.1)
  obtain ⟨_, _, _, q, hq, cells, hc⟩ := hk
  obtain ⟨hok, inner, ho, hr⟩ := h2
  rcases ho.2 with ⟨h1, h2⟩ | ⟨g', cap, cur, h1, hg, hb, h2, h3, h4, h5⟩
  · rw [h1] at he
    cases he
  · rw [h1] at he
    have e' : k = g' := by simpa [Value.ownBlock] using he
    subst e'
    rw [hb] at hc
    injection hc with hc
    injection hc with _ hc
    exact ht q hq hc.symm
def hd_ : List UInt8 := [104, 101, 97, 100]
def pre (es : List S28) (j : Nat) : List UInt8 := hd_ ++ putEs (es.take j)
structure JW (w W : World) (A : Option Addr) (c : Nat) (es : List S28) (v : Value) (xs : List Int) : Prop where
  hb : Below w.heap.size w W
  ce : Kd.R k28 28 W w.heap.size (fun _ => True) (.slice A es.length c) es
  cr : Kd.R (Kd.int .i64) 3 W w.heap.size (fun _ => True) v xs
section
variable {w W W' : World} {A : Option Addr} {c : Nat} {es : List S28} {v v1 : Value} {xs xs' : List Int}
theorem JW.below (h : JW w W A c es v xs) (hb : Below W.heap.size W W') : JW w W' A c es v xs := ⟨below_step h.hb hb, Kd.R_below h.ce hb, Kd.R_below h.cr hb⟩
theorem JW.app (h : JW w W A c es v xs) (hr : Kd.R (Kd.int .i64) 3 W' w.heap.size (fun _ => True) v1 xs') (hg : W.grownBy W' v.ownBlock) : JW w W' A c es v1 xs' :=
  ⟨h.hb.grown hg h.hb.size (fun b e => Kd.R_base h.cr b e), R_over h.ce h.cr (by first | decide | (intro q hq; rcases List.mem_cons.1 hq with h_ | h_; (subst h_; decide); (first | (cases h_; done) | (simp [k28, k26, k64] at h_; first | done | (subst h_; decide))))) hg, hr⟩
end
theorem evr_x {w W : World} {gd : Nat} {L : List Int} (h : DI w W gd L) (m : Int) (hm : 0 ≤ m ∧ m ≤ 15) : Calls Try.prog 13 #[.pointer (some ⟨gd, 0, none⟩), .int .i64 m] W fun e w' =>
    ∃ (A : Option Addr) (c : Nat) (es : List S28), e = .returned (.slice A es.length c) ∧ Kd.R k28 28 w' w.heap.size (fun _ => True) (.slice A es.length c) es ∧ (∀ x ∈ es, EvS x) ∧ (4 ≤ es.length ∧ es.length ≤ 20) ∧ Below w.heap.size w w' := by
  obtain ⟨n, rfl⟩ : ∃ n : Nat, m = (n : Int) := ⟨m.toNat, by omega⟩
  refine (events_x h n (by omega)).mono fun e w' z => ?_
  obtain ⟨A, c, es, rfl, hR, hok, hl, hd, hk⟩ := z
  exact ⟨A, c, es, rfl, Kd.R_lower hR h.hb.size, hok, by omega, hd.hb⟩
theorem R_ad {α : Type} {d : Kd α} {e : Nat} {w : World} {base n c : Nat} {ok : Nat → Prop} {A : Option Addr} {xs : List α} (h : d.R e w base ok (.slice A n c) xs) (hn : 0 < n) : ∃ g, A = some ⟨g, 0, none⟩ := by
  obtain ⟨hok, inner, ho, hr⟩ := h
  rcases ho.2 with ⟨h1, h2⟩ | ⟨g', cap, cur, h1, hg, hb, h2, h3, h4, h5⟩
  · simp only [Value.slice.injEq] at h1
    omega
  · simp only [Value.slice.injEq] at h1
    exact ⟨g', h1.1⟩
theorem add0 (g i : Nat) : (⟨g, 0, none⟩ : Addr).add i = ⟨g, i, none⟩ := by cases i <;> simp [Addr.add]
theorem getB_x (tb : ByteArray) (l : List UInt8) (hb_ : tb = B l) (a : Int) (hs : l.length ≤ 17592186044416) (w : World) (x : S28) (b e : Int) (hr : getR l a = (x, b, e)) :
    Calls Try.prog 15 #[.string tb, .int .i64 a] w fun e' w' => ∃ v : Value, e' = .returned (.tuple #[.agg #[.int .i64 x.f0, .int .i64 x.f1, .int .i64 x.f2, .int .i64 x.f3, .string x.f4, .int .i64 x.f5.f0, .int .i64 x.f5.f1, v], .int .i64 b, .int .i64 e]) ∧ Kd.R k64 64 w' w.heap.size (fun _ => True) v x.f5.f2 ∧ Below w.heap.size w w' := by
  subst hb_
  exact get_x l a hs w x b e hr
end Go.Proofs.Ytcjdnahgffkbdaa.Sjn

namespace Go.Proofs.Ytcjdnahgffkbdaa.Gzb
open Go Go.RowKit Go.Proofs.Ytcjdnahgffkbdaa.Gb Go.Proofs.YtcjdnahgffkbdaaW.PrintWords Go.Proofs.YtcjdnahgffkbdaaW.PrintLast Go.Proofs.YtcjdnahgffkbdaaW.PrintMore
set_option linter.unusedVariables false
def RZ (e : TypeId) (w : World) (base : Nat) (v : Value) (xs : List Int) : Prop :=
  ∃ g cap cur fz, v = .slice (some ⟨g, 0, none⟩) xs.length cap ∧ base ≤ g ∧ w.heap[g]? = some (.cells cur e fz) ∧ (fz = (0, 0) ∨ cur.size ≤ fz.1) ∧
    xs.length ≤ cap ∧ cur.size = cap ∧ cur.toList.take xs.length = xs.map (Value.int .u8)
theorem RZ.step {e : TypeId} {w w1 : World} {base : Nat} {v : Value} {xs : List Int} (h : RZ e w base v xs) (hm : ∀ k, k < w.heap.size → w1.heap[k]? = w.heap[k]?) : RZ e w1 base v xs := by
  obtain ⟨g, cap, cur, fz, rfl, hb, hgg, rest⟩ := h
  exact ⟨g, cap, cur, fz, rfl, hb, (hm g (Array.getElem?_eq_some_iff.1 hgg).1).trans hgg, rest⟩
theorem RZ.below {e : TypeId} {w w1 : World} {base : Nat} {v : Value} {xs : List Int} (h : RZ e w base v xs) (hb : Below w.heap.size w w1) : RZ e w1 base v xs :=
  h.step fun k hk => hb.block k hk
theorem RZ.drew {e : TypeId} {w : World} {base : Nat} {v : Value} {xs : List Int} (h : RZ e w base v xs) : RZ e w.drew base v xs :=
  h.below (below_drew (Below.refl _ _))
theorem RZ.drewN {e : TypeId} {w : World} {base : Nat} {v : Value} {xs : List Int} (h : RZ e w base v xs) (m : Nat) : RZ e (w.drewN m) base v xs :=
  h.below (pw_below_drewN (Below.refl _ _) m)
theorem RZ.alloc {e : TypeId} {w : World} {base : Nat} {v : Value} {xs : List Int} (h : RZ e w base v xs) (o : Obj) : RZ e (w.alloc o) base v xs :=
  h.below (below_alloc (Below.refl _ _) o)
theorem RZ.ne {e : TypeId} {w : World} {base : Nat} {v : Value} {xs : List Int} (h : RZ e w base v xs) {g t : Nat} {cells : Array Value} (hb : w.heap[g]? = some (.cells cells t (0, 0))) (ht : e ≠ t) : some g ≠ v.ownBlock := by
  obtain ⟨g', cap, cur, fz, rfl, -, hgg, rest⟩ := h
  intro he
  have : g = g' := by simpa [Value.ownBlock] using he
  subst this
  rw [hb] at hgg
  cases hgg
  exact ht rfl
theorem RZ.len {e : TypeId} {w : World} {base n c : Nat} {A : Option Addr} {xs : List Int} (h : RZ e w base (.slice A n c) xs) : n = xs.length := by
  obtain ⟨g', cap, cur, fz, hv, rest⟩ := h
  simp only [Value.slice.injEq] at hv
  exact hv.2.1
theorem conv {P : Program} {w0 : World} (w : World) (t : ByteArray) (y : List Int) (hy : y = ([] : List Int) ++ bytesOf t) (hl : ([] : List Int).length + t.size < 140737488355328) (s d e : TypeId) (hs : P.underlying s = some .string) (hd : P.underlying d = some (.slice e)) (he : P.underlying e = some (.int .u8)) (hB : Below w0.heap.size w0 w) :
    ∃ g c w1, (convert s d (.string t)).run P w = .ok (.slice (some ⟨g, 0, none⟩) y.length c) w1 ∧ RZ e w1 w0.heap.size (.slice (some ⟨g, 0, none⟩) y.length c) y ∧ Below w0.heap.size w0 w1 ∧ w0.heap.size ≤ g ∧ w.grownBy w1 none := by
  have hcv := Lib.run_convert_string_bytes (P := P) w s d e t hs hd he
  have hszw : w0.heap.size ≤ w.heap.size := below_size hB
  have hown := own8_bytes w w0.heap.size e t hszw (by unfold maxLen; simp at hl; omega)
  have hyl : y.length = t.size := by rw [hy, List.nil_append]; simp [bytesOf]
  have hym : y.map (Value.int .u8) = t.data.toList.map enc8 := by rw [hy, List.nil_append]; simp [bytesOf, enc8, Function.comp_def]
  have hdl : t.data.toList.length = t.size := by rw [Array.length_toList]; rfl
  refine ⟨_, _, _, by rw [hyl]; exact hcv, ?_, hB.grown (bytesWorld_grown w e t) hszw (fun k e => by cases e), hszw, bytesWorld_grown w e t⟩
  obtain ⟨g, cap, cur, fz, hv, h1, h2, h3, h4, h5, h6, h7⟩ := hown
  rw [hdl] at hv h4 h7
  exact ⟨g, cap, cur, fz, by rw [hyl]; exact hv, h1, h2, h3, by rw [hyl]; exact h4, h6, by rw [hyl, hym]; exact h7⟩
theorem cell {e : TypeId} {w : World} {base g n cap : Nat} {xs : List Int} (h : RZ e w base (.slice (some ⟨g, 0, none⟩) n cap) xs) (i : Int) (h0 : 0 ≤ i) (hi : i < n) :
    w.cell? ⟨g, i.toNat, none⟩ = some (.int .u8 (rdOf 0 xs i)) ∧ w.frozen? ⟨g, i.toNat, none⟩ = false := by
  obtain ⟨g', cap', cur, fz, hv, hb, hgg, hfz, hl, hs, ht⟩ := h
  simp only [Value.slice.injEq, Option.some.injEq, Addr.mk.injEq] at hv
  obtain ⟨⟨rfl, -, -⟩, rfl, rfl⟩ := hv
  have hk : i.toNat < xs.length := by omega
  constructor
  · rw [cell_of_row w g i.toNat cur e fz hgg]
    have h1 : (cur.toList.take xs.length)[i.toNat]? = some (.int .u8 xs[i.toNat]) := by rw [ht]; simp [hk]
    rw [List.getElem?_take, if_pos hk] at h1
    rw [← Array.getElem?_toList, h1]
    unfold rdOf
    rw [List.getD_eq_getElem?_getD, List.getElem?_eq_getElem hk, Option.getD_some]
  · obtain ⟨lo, hi'⟩ := fz
    simp only [World.frozen?, hgg, Bool.and_eq_false_iff, decide_eq_false_iff_not]
    rcases hfz with h | h
    · right; cases h; omega
    · left; simp at h; omega
theorem putg {e : TypeId} {w : World} {base g n cap : Nat} {xs : List Int} (h : RZ e w base (.slice (some ⟨g, 0, none⟩) n cap) xs) (i : Int) (x : Int) :
    RZ e (w.setCell ⟨g, i.toNat, none⟩ (.int .u8 x)) base (.slice (some ⟨g, 0, none⟩) n cap) (xs.set i.toNat x) ∧ w.grownBy (w.setCell ⟨g, i.toNat, none⟩ (.int .u8 x)) (some g) := by
  obtain ⟨g', cap', cur, fz, hv, hb, hgg, hfz, hl, hs, ht⟩ := h
  simp only [Value.slice.injEq, Option.some.injEq, Addr.mk.injEq] at hv
  obtain ⟨⟨rfl, -, -⟩, rfl, rfl⟩ := hv
  rw [setCell_eq_setRow w g i.toNat cur e fz _ hgg]
  refine ⟨⟨g, cap, cur.setIfInBounds i.toNat (.int .u8 x), fz, by rw [List.length_set], hb, setRow_heap w g cur _ e _ hgg, by simpa using hfz, by simpa using hl, by simpa using hs, ?_⟩, ⟨rfl, rfl, rfl, by simp, fun k _ hk => setRow_other w g k _ (fun e => hk (by rw [e]))⟩⟩
  rw [Array.toList_setIfInBounds, List.length_set, List.take_set, ht, List.map_set]
theorem RZ.over {α : Type} {d : Kd α} {e e' : TypeId} {w w1 : World} {base b2 : Nat} {ok : Nat → Prop} {u v : Value} {xs : List α} {ys : List Int} (h : d.R e' w base ok u xs) (hz : RZ e w b2 v ys) (ht : ∀ q, q ∈ e' :: d.E → q ≠ e) (hg : w.grownBy w1 v.ownBlock) : d.R e' w1 base ok u xs := by
  refine Kd.R_mono (Kd.R_move (Kd.R_bound h) (fun k hk => hg.block k hk.2.2.1 (fun he => ?_))) (fun _ hk => hk.1)
  obtain ⟨_, _, _, q, hq, cells, hc⟩ := hk
  obtain ⟨g, cap, cur, fz, rfl, -, hgg, -⟩ := hz
  have : g = k := by simpa [Value.ownBlock] using he.symm
  subst this
  rw [hc] at hgg
  injection hgg with hgg
  injection hgg with _ hgg
  exact ht q hq hgg
theorem str {P : Program} {w : World} {base : Nat} {e src dst : TypeId} (hs : P.underlying src = some (.slice e)) (he : P.underlying e = some (.int .u8)) (hd : P.underlying dst = some .string) {v : Value} {xs : List Int} (h : RZ e w base v xs) :
    (convert src dst v).run P w = .ok (.string (strOfNums xs)) w := by
  have h0 := h
  obtain ⟨g, cap, cur, fz, rfl, hbg, hg, hfz, hnc, hcs, htake⟩ := h
  exact run_convert_bytes_arg (P := P) w src e hs he g 0 xs.length cap xs rfl (fun i hi => by
    have hc := (cell h0 (i : Int) (by omega) (by omega)).1
    rw [Int.toNat_natCast] at hc
    rw [Nat.zero_add, hc]
    simp [rdOf]) dst hd
end Go.Proofs.Ytcjdnahgffkbdaa.Gzb

namespace Go.Proofs.Ytcjdnahgffkbdaa.Sbk
open Go Go.RowKit Go.Proofs Go.Proofs.Ytcjdnahgffkbdaa.Gm Go.Proofs.Ytcjdnahgffkbdaa.Spt Go.Proofs.Ytcjdnahgffkbdaa.Sdc Go.Proofs.Ytcjdnahgffkbdaa.Sen Go.Proofs.Ytcjdnahgffkbdaa.Srt Go.Proofs.Ytcjdnahgffkbdaa.Sri Go.Proofs.Ytcjdnahgffkbdaa.Ssa Go.Proofs.Ytcjdnahgffkbdaa.Ssm Go.Proofs.Ytcjdnahgffkbdaa.Spd Go.Proofs.Ytcjdnahgffkbdaa.Spe Go.Proofs.Ytcjdnahgffkbdaa.Sps Go.Proofs.Ytcjdnahgffkbdaa.Q Go.Proofs.YtcjdnahgffkbdaaW.PrintWords Go.Proofs.YtcjdnahgffkbdaaW.PrintLast Go.Proofs.YtcjdnahgffkbdaaW.PrintMore Go.Proofs.Ytcjdnahgffkbdaa.Slw
set_option linter.unusedVariables false
theorem rz_ge {e : TypeId} {w : World} {base g n c : Nat} {xs : List Int} (h : Gzb.RZ e w base (.slice (some ⟨g, 0, none⟩) n c) xs) : base ≤ g := by
  obtain ⟨g', c', cur, fz, hv, hb, -⟩ := h
  simp only [Value.slice.injEq, Option.some.injEq, Addr.mk.injEq] at hv
  omega
end Go.Proofs.Ytcjdnahgffkbdaa.Sbk

namespace Go.Proofs.Ytcjdnahgffkbdaa.Ssg
open Go Go.RowKit Go.Proofs Go.Proofs.Ytcjdnahgffkbdaa.Gm Go.Proofs.Ytcjdnahgffkbdaa.Son Go.Proofs.Ytcjdnahgffkbdaa.Q Go.Proofs.YtcjdnahgffkbdaaW.PrintWords Go.Proofs.YtcjdnahgffkbdaaW.PrintLast Go.Proofs.YtcjdnahgffkbdaaW.PrintMore
set_option linter.unusedVariables false
theorem eqST (d : Nat) (w : World) (x0 x1 x2 x3 x4 x5 x6 x7 x8 x9 x10 y0 y1 y2 y3 y4 y5 y6 y7 y8 y9 y10 : Int) :
    (Op.equalIn (d + 2) 64 (.agg #[.int .i64 x0, .int .i64 x1, .int .i64 x2, .int .i64 x3, .int .i64 x4, .int .i64 x5, .int .i64 x6, .int .i64 x7, .int .i64 x8, .int .i64 x9, .int .i64 x10]) (.agg #[.int .i64 y0, .int .i64 y1, .int .i64 y2, .int .i64 y3, .int .i64 y4, .int .i64 y5, .int .i64 y6, .int .i64 y7, .int .i64 y8, .int .i64 y9, .int .i64 y10])).run Try.prog w = .ok (x0 == y0 && (x1 == y1 && (x2 == y2 && (x3 == y3 && (x4 == y4 && (x5 == y5 && (x6 == y6 && (x7 == y7 && (x8 == y8 && (x9 == y9 && (x10 == y10))))))))))) w := by
  refine eqA_of Try.underlying64 (by kernel_rfl) ?_
  refine eqf_cons (by rfl) (by go_simp; rfl) (by go_simp; rfl) (by go_simp) ?_
  refine eqf_cons (by rfl) (by go_simp; rfl) (by go_simp; rfl) (by go_simp) ?_
  refine eqf_cons (by rfl) (by go_simp; rfl) (by go_simp; rfl) (by go_simp) ?_
  refine eqf_cons (by rfl) (by go_simp; rfl) (by go_simp; rfl) (by go_simp) ?_
  refine eqf_cons (by rfl) (by go_simp; rfl) (by go_simp; rfl) (by go_simp) ?_
  refine eqf_cons (by rfl) (by go_simp; rfl) (by go_simp; rfl) (by go_simp) ?_
  refine eqf_cons (by rfl) (by go_simp; rfl) (by go_simp; rfl) (by go_simp) ?_
  refine eqf_cons (by rfl) (by go_simp; rfl) (by go_simp; rfl) (by go_simp) ?_
  refine eqf_cons (by rfl) (by go_simp; rfl) (by go_simp; rfl) (by go_simp) ?_
  refine eqf_cons (by rfl) (by go_simp; rfl) (by go_simp; rfl) (by go_simp) ?_
  exact eqf_last (by rfl) (by go_simp; rfl) (by go_simp; rfl) (by go_simp)
theorem eqS (x0 x1 x2 x3 x4 x5 x6 x7 x8 x9 x10 y0 y1 y2 y3 y4 y5 y6 y7 y8 y9 y10 : Int) : ∃ b : Bool, (∀ w, (Op.equalIn 10000 64 (.agg #[.int .i64 x0, .int .i64 x1, .int .i64 x2, .int .i64 x3, .int .i64 x4, .int .i64 x5, .int .i64 x6, .int .i64 x7, .int .i64 x8, .int .i64 x9, .int .i64 x10]) (.agg #[.int .i64 y0, .int .i64 y1, .int .i64 y2, .int .i64 y3, .int .i64 y4, .int .i64 y5, .int .i64 y6, .int .i64 y7, .int .i64 y8, .int .i64 y9, .int .i64 y10])).run Try.prog w = .ok b w) ∧ (b = true ↔ (⟨x0, x1, x2, x3, x4, x5, x6, x7, x8, x9, x10⟩ : S64) = ⟨y0, y1, y2, y3, y4, y5, y6, y7, y8, y9, y10⟩) := by
  refine ⟨_, fun w => eqST 9998 w x0 x1 x2 x3 x4 x5 x6 x7 x8 x9 x10 y0 y1 y2 y3 y4 y5 y6 y7 y8 y9 y10, ?_⟩
  simp [and_assoc]
theorem take_succ_eq {α : Type} {a b : List α} {k : Nat} (ha : k < a.length) (hb : k < b.length) (h : a.take k = b.take k) (e : a[k] = b[k]) : a.take (k + 1) = b.take (k + 1) := by
  rw [List.take_succ_eq_append_getElem ha, List.take_succ_eq_append_getElem hb, h, e]
set_option maxRecDepth 100000 in
set_option maxHeartbeats 4000000 in
theorem equal_g (A B' : Option Addr) (c d : Nat) (ss uu : List S64) (w : World) (hA : Kd.C k64 w A ss.length ss) (hB : Kd.C k64 w B' uu.length uu) (hl : ss.length ≤ 1000000) (bb : Bool) (hbb : bb = true ↔ ss = uu) :
    Calls Try.prog 36 #[.slice A ss.length c, .slice B' uu.length d] w fun e w' => e = .returned (.bool bb) ∧ Below w.heap.size w w' := by
  have mixed : (Try.prog).follows .mixedOrders = true := by kernel_rfl
  have hu64 := Try.underlying64
  have HA := Aside0.mk hA
  have HB2 := Aside0.mk hB
  have HB := Aside0.mk (Below.refl w.heap.size w)
  have HBB := Aside0.mk hbb
  clear hA hB hbb
  by_cases hlen : ss.length = uu.length
  case neg =>
    have g0 : ((ss.length : Int) != (uu.length : Int)) = true := bne_iff_ne.2 (by omega)
    have g1 : ¬ (ss.length : Int) = (uu.length : Int) := by omega
    obtain rfl : bb = false := by
      cases bb with
      | false => rfl
      | true => exact absurd (congrArg List.length (HBB.out.1 rfl)) hlen
    clear hlen
    go_enter Try.func36, Try.ntmps36
    go_wp2
    go_ret
    exact ⟨rfl, HB.out⟩
  case pos =>
  have HLEN := Aside0.mk hlen
  have g0 : ((ss.length : Int) != (uu.length : Int)) = false := bne_eq_false_iff_eq.2 (by omega)
  have g1 : (ss.length : Int) = (uu.length : Int) := by omega
  clear hlen
  go_enter Try.func36, Try.ntmps36
  go_wp2
  go_loopw [13] (fun s13 wr => ∃ k : Nat, k ≤ ss.length ∧ s13 = .int .i64 k ∧ Aside0 (ss.take k = uu.take k) ∧ Aside0 (Below w.heap.size w wr)) (fun s13 _ => ss.length - (intOf s13).toNat)
  case atStart => exact ⟨0, by omega, rfl, ⟨by simp⟩, HB⟩
  case round =>
    clear HB g0
    obtain ⟨k, hk, rfl, HT, HB⟩ := hrel
    by_cases hks : k < ss.length
    case neg =>
      obtain rfl : k = ss.length := by omega
      obtain rfl : bb = true := HBB.out.2 (by have h := HT.out; rw [List.take_length] at h; rw [h, HLEN.out, List.take_length])
      go_wp2
      go_ret
      exact ⟨rfl, HB.out⟩
    case pos =>
    have hku : k < uu.length := by omega
    obtain ⟨s, hsk⟩ : ∃ s, s = ss[k] := ⟨_, rfl⟩
    obtain ⟨u, huk⟩ : ∃ u, u = uu[k] := ⟨_, rfl⟩
    obtain ⟨ad, ead, hx0, hx1, hx2, hx3, hx4, hx5, hx6, hx7, hx8, hx9, hx10⟩ := at_T64 (Kd.C_below HA.out HB.out) (k : Int) (by omega) (by omega)
    obtain ⟨bd, ebd, hy0, hy1, hy2, hy3, hy4, hy5, hy6, hy7, hy8, hy9, hy10⟩ := at_T64 (Kd.C_below HB2.out HB.out) (k : Int) (by omega) (by omega)
    cases ead
    cases ebd
    rw [show rd_T64 ss (k : Int) = s by rw [hsk]; simp [rd_T64, List.getD, hks]] at hx0 hx1 hx2 hx3 hx4 hx5 hx6 hx7 hx8 hx9 hx10
    rw [show rd_T64 uu (k : Int) = u by rw [huk]; simp [rd_T64, List.getD, hku]] at hy0 hy1 hy2 hy3 hy4 hy5 hy6 hy7 hy8 hy9 hy10
    simp only [Int.toNat_natCast] at hx0 hx1 hx2 hx3 hx4 hx5 hx6 hx7 hx8 hx9 hx10 hy0 hy1 hy2 hy3 hy4 hy5 hy6 hy7 hy8 hy9 hy10
    have HSU : Aside0 (s = ss[k] ∧ u = uu[k]) := ⟨⟨hsk, huk⟩⟩
    clear hsk huk
    obtain ⟨s0, s1, s2, s3, s4, s5, s6, s7, s8, s9, s10⟩ := s
    obtain ⟨u0, u1, u2, u3, u4, u5, u6, u7, u8, u9, u10⟩ := u
    dsimp only at hx0 hx1 hx2 hx3 hx4 hx5 hx6 hx7 hx8 hx9 hx10 hy0 hy1 hy2 hy3 hy4 hy5 hy6 hy7 hy8 hy9 hy10
    have hksi : (k : Int) < (ss.length : Int) := by omega
    have hkui : (k : Int) < (uu.length : Int) := by omega
    obtain ⟨bq, hq, hqe⟩ := eqS s0 s1 s2 s3 s4 s5 s6 s7 s8 s9 s10 u0 u1 u2 u3 u4 u5 u6 u7 u8 u9 u10
    have HQE := Aside0.mk hqe
    clear hqe
    cases bq with
    | true =>
      have HT2 := Aside0.mk (take_succ_eq hks hku HT.out (by rw [← HSU.out.1, ← HSU.out.2]; exact HQE.out.1 rfl))
      go_upto_region 6 with fail
      go_region
      all_goals (go_wp2_with fail)
      all_goals go_roundw
      all_goals (first | (case rel => exact ⟨k + 1, by omega, by go_num, HT2, ⟨by repeat (with_reducible first | exact HB.out | apply below_drew1 | apply pw_below_drewN)⟩⟩) | skip)
      all_goals (simp only [intOf]; omega)
    | false =>
      obtain rfl : bb = false := by
        cases bb with
        | false => rfl
        | true =>
          have h := HBB.out.1 rfl
          have h2 : (⟨u0, u1, u2, u3, u4, u5, u6, u7, u8, u9, u10⟩ : S64) = ⟨s0, s1, s2, s3, s4, s5, s6, s7, s8, s9, s10⟩ := by
            rw [HSU.out.1, HSU.out.2]
            simp [h]
          exact absurd (HQE.out.2 h2.symm) (by simp)
      go_upto_region 6 with fail
      go_region
      all_goals (go_wp2_with fail)
      all_goals go_ret
      all_goals exact ⟨rfl, by repeat (with_reducible first | exact HB.out | apply below_drew1 | apply pw_below_drewN)⟩
set_option maxRecDepth 100000 in
set_option maxHeartbeats 8000000 in
theorem same1_g (A7 B7 : Option Addr) (c7 d7 : Nat) (x0 x1 x2 x3 : Int) (x4 : ByteArray) (x5 x6 : Int) (ss : List S64) (y0 y1 y2 y3 : Int) (y4 : ByteArray) (y5 y6 : Int) (uu : List S64) (w : World) (hA : Kd.C k64 w A7 ss.length ss) (hB : Kd.C k64 w B7 uu.length uu) (hl : ss.length ≤ 1000000) (bb : Bool) (hbb : bb = true ↔ (⟨x0, x1, x2, x3, x4, ⟨x5, x6, ss⟩⟩ : S28) = ⟨y0, y1, y2, y3, y4, ⟨y5, y6, uu⟩⟩) :
    Calls Try.prog 35 #[.agg #[.int .i64 x0, .int .i64 x1, .int .i64 x2, .int .i64 x3, .string x4, .int .i64 x5, .int .i64 x6, .slice A7 ss.length c7], .agg #[.int .i64 y0, .int .i64 y1, .int .i64 y2, .int .i64 y3, .string y4, .int .i64 y5, .int .i64 y6, .slice B7 uu.length d7]] w fun e w' => e = .returned (.bool bb) ∧ Below w.heap.size w w' := by
  have hu28 := Try.underlying28
  have hu26 := Try.underlying26
  have HA := Aside0.mk hA
  have HB2 := Aside0.mk hB
  have hbA : Below w.heap.size w ((w.alloc (.cells #[.int .i64 x0, .int .i64 x1, .int .i64 x2, .int .i64 x3, .string x4, .int .i64 x5, .int .i64 x6, .slice A7 ss.length c7] 28)).alloc (.cells #[.int .i64 y0, .int .i64 y1, .int .i64 y2, .int .i64 y3, .string y4, .int .i64 y5, .int .i64 y6, .slice B7 uu.length d7] 28)) := below_alloc (below_alloc (Below.refl _ _) _) _
  have HBA := Aside0.mk hbA
  have HBB := Aside0.mk hbb
  clear hA hB hbA hbb
  by_cases e0 : x0 = y0
  case neg =>
    have g0 : (x0 == y0) = false := beq_eq_false_iff_ne.2 e0
    obtain rfl : bb = false := by
      cases bb with
      | false => rfl
      | true => have h := HBB.out.1 rfl; simp only [S28.mk.injEq, S26.mk.injEq] at h; simp_all
    go_enter Try.func35, Try.ntmps35
    go_wp2
    go_ret
    exact ⟨rfl, HBA.out⟩
  subst e0
  by_cases e1 : x1 = y1
  case neg =>
    have g1 : (x1 == y1) = false := beq_eq_false_iff_ne.2 e1
    obtain rfl : bb = false := by
      cases bb with
      | false => rfl
      | true => have h := HBB.out.1 rfl; simp only [S28.mk.injEq, S26.mk.injEq] at h; simp_all
    go_enter Try.func35, Try.ntmps35
    go_wp2
    go_ret
    exact ⟨rfl, HBA.out⟩
  subst e1
  by_cases e2 : x2 = y2
  case neg =>
    have g2 : (x2 == y2) = false := beq_eq_false_iff_ne.2 e2
    obtain rfl : bb = false := by
      cases bb with
      | false => rfl
      | true => have h := HBB.out.1 rfl; simp only [S28.mk.injEq, S26.mk.injEq] at h; simp_all
    go_enter Try.func35, Try.ntmps35
    go_wp2
    go_ret
    exact ⟨rfl, HBA.out⟩
  subst e2
  by_cases e3 : x3 = y3
  case neg =>
    have g3 : (x3 == y3) = false := beq_eq_false_iff_ne.2 e3
    obtain rfl : bb = false := by
      cases bb with
      | false => rfl
      | true => have h := HBB.out.1 rfl; simp only [S28.mk.injEq, S26.mk.injEq] at h; simp_all
    go_enter Try.func35, Try.ntmps35
    go_wp2
    go_ret
    exact ⟨rfl, HBA.out⟩
  subst e3
  by_cases e4 : x4 = y4
  case neg =>
    have g4 : (x4.toList == y4.toList) = false := beq_eq_false_iff_ne.2 (fun z => e4 (toList_inj.1 z))
    have g4' : ¬ x4.toList = y4.toList := fun z => e4 (toList_inj.1 z)
    obtain rfl : bb = false := by
      cases bb with
      | false => rfl
      | true => have h := HBB.out.1 rfl; simp only [S28.mk.injEq, S26.mk.injEq] at h; simp_all
    go_enter Try.func35, Try.ntmps35
    go_wp2
    go_ret
    exact ⟨rfl, HBA.out⟩
  subst e4
  by_cases e5 : x5 = y5
  case neg =>
    have g5 : (x5 == y5) = false := beq_eq_false_iff_ne.2 e5
    obtain rfl : bb = false := by
      cases bb with
      | false => rfl
      | true => have h := HBB.out.1 rfl; simp only [S28.mk.injEq, S26.mk.injEq] at h; simp_all
    go_enter Try.func35, Try.ntmps35
    go_wp2
    go_ret
    exact ⟨rfl, HBA.out⟩
  subst e5
  by_cases e6 : x6 = y6
  case neg =>
    have g6 : (x6 == y6) = false := beq_eq_false_iff_ne.2 e6
    obtain rfl : bb = false := by
      cases bb with
      | false => rfl
      | true => have h := HBB.out.1 rfl; simp only [S28.mk.injEq, S26.mk.injEq] at h; simp_all
    go_enter Try.func35, Try.ntmps35
    go_wp2
    go_ret
    exact ⟨rfl, HBA.out⟩
  subst e6
  have HB3 : Aside0 (bb = true ↔ ss = uu) := ⟨by rw [HBB.out]; simp⟩
  go_enter Try.func35, Try.ntmps35
  go_wp2_with (first | (go_at_call 36; go_loud (with_reducible refine (equal_g A7 B7 c7 d7 ss uu _ (Kd.C_below HA.out HBA.out) (Kd.C_below HB2.out HBA.out) hl bb HB3.out).mono ?_); go_loud (rintro e' w1 ⟨rfl, hb⟩; have HB := Aside0.mk (below_step HBA.out hb); clear hb HBA)))
  go_ret
  exact ⟨rfl, HB.out⟩
set_option maxRecDepth 100000 in
set_option maxHeartbeats 8000000 in
theorem eqf_g (A B' : Option Addr) (c d : Nat) (xs ys : List S28) (w : World) (hA : Kd.C k28 w A xs.length xs) (hB : Kd.C k28 w B' ys.length ys) (hl : xs.length ≤ 1000000) (hsl : ∀ x ∈ xs, x.f5.f2.length ≤ 1000000) (bb : Bool) (hbb : bb = true ↔ xs = ys) :
    Calls Try.prog 34 #[.slice A xs.length c, .slice B' ys.length d, .func (.func 35) #[] #[]] w fun e w' => e = .returned (.bool bb) ∧ Below w.heap.size w w' := by
  have hu28 := Try.underlying28
  have hu26 := Try.underlying26
  have HA := Aside0.mk hA
  have HB2 := Aside0.mk hB
  have HSL := Aside0.mk hsl
  have HBB := Aside0.mk hbb
  have HB := Aside0.mk (Below.refl w.heap.size w)
  clear hA hB hsl hbb
  by_cases hlen : xs.length = ys.length
  case neg =>
    have g0 : ((xs.length : Int) != (ys.length : Int)) = true := bne_iff_ne.2 (by omega)
    have g1 : ¬ (xs.length : Int) = (ys.length : Int) := by omega
    obtain rfl : bb = false := by
      cases bb with
      | false => rfl
      | true => exact absurd (congrArg List.length (HBB.out.1 rfl)) hlen
    clear hlen
    go_enter Try.func34, Try.ntmps34
    go_wp2
    go_ret
    exact ⟨rfl, HB.out⟩
  case pos =>
  have HLEN := Aside0.mk hlen
  have g1 : (xs.length : Int) = (ys.length : Int) := by omega
  clear hlen
  go_enter Try.func34, Try.ntmps34
  go_wp2
  go_loopw [17] (fun s17 wr => ∃ k : Nat, k ≤ xs.length ∧ s17 = .int .i64 k ∧ Aside0 (xs.take k = ys.take k) ∧ Aside0 (Below w.heap.size w wr)) (fun s17 _ => xs.length - (intOf s17).toNat)
  case atStart => exact ⟨0, by omega, rfl, ⟨by simp⟩, HB⟩
  case round =>
    clear HB
    obtain ⟨k, hk, rfl, HT, HB⟩ := hrel
    by_cases hks : k < xs.length
    case neg =>
      obtain rfl : k = xs.length := by omega
      obtain rfl : bb = true := HBB.out.2 (by have h := HT.out; rw [List.take_length] at h; rw [h, HLEN.out, List.take_length])
      go_wp2
      go_ret
      exact ⟨rfl, HB.out⟩
    case pos =>
    have hku : k < ys.length := by omega
    obtain ⟨x, hxk⟩ : ∃ x, x = xs[k] := ⟨_, rfl⟩
    obtain ⟨y, hyk⟩ : ∃ y, y = ys[k] := ⟨_, rfl⟩
    obtain ⟨ad, A7, c7, ead, hx0, hx1, hx2, hx3, hx4, hx5, hx6, hx7, lx7, ix7⟩ := at_T28 (Kd.C_below HA.out HB.out) (k : Int) (by omega) (by omega)
    obtain ⟨bd, B7, d7, ebd, hy0, hy1, hy2, hy3, hy4, hy5, hy6, hy7, ly7, iy7⟩ := at_T28 (Kd.C_below HB2.out HB.out) (k : Int) (by omega) (by omega)
    cases ead
    cases ebd
    rw [show rd_T28 xs (k : Int) = x by rw [hxk]; simp [rd_T28, List.getD, hks]] at hx0 hx1 hx2 hx3 hx4 hx5 hx6 hx7 lx7 ix7
    rw [show rd_T28 ys (k : Int) = y by rw [hyk]; simp [rd_T28, List.getD, hku]] at hy0 hy1 hy2 hy3 hy4 hy5 hy6 hy7 ly7 iy7
    have hs7 : x.f5.f2.length ≤ 1000000 := by rw [hxk]; exact HSL.out _ (List.getElem_mem hks)
    have HXY : Aside0 (x = xs[k] ∧ y = ys[k]) := ⟨⟨hxk, hyk⟩⟩
    clear hxk hyk
    simp only [Int.toNat_natCast] at hx0 hx1 hx2 hx3 hx4 hx5 hx6 hx7 hy0 hy1 hy2 hy3 hy4 hy5 hy6 hy7
    obtain ⟨x0, x1, x2, x3, x4, ⟨x5, x6, ss⟩⟩ := x
    obtain ⟨y0, y1, y2, y3, y4, ⟨y5, y6, uu⟩⟩ := y
    dsimp only at hx0 hx1 hx2 hx3 hx4 hx5 hx6 hx7 hy0 hy1 hy2 hy3 hy4 hy5 hy6 hy7 lx7 ly7 ix7 iy7 hs7
    have hksi : (k : Int) < (xs.length : Int) := by omega
    have hkui : (k : Int) < (ys.length : Int) := by omega
    have hbA : Below wr.heap.size wr ((wr.alloc (.cells #[.int .i64 x0, .int .i64 x1, .int .i64 x2, .int .i64 x3, .string x4, .int .i64 x5, .int .i64 x6, .slice A7 ss.length c7] 28)).alloc (.cells #[.int .i64 y0, .int .i64 y1, .int .i64 y2, .int .i64 y3, .string y4, .int .i64 y5, .int .i64 y6, .slice B7 uu.length d7] 28)) := below_alloc (below_alloc (Below.refl _ _) _) _
    have hadl := World.block_lt_of_cell? wr _ hx0
    have hbdl := World.block_lt_of_cell? wr _ hy0
    have HBA := Aside0.mk hbA
    have IX := Aside0.mk ix7
    have IY := Aside0.mk iy7
    clear hbA ix7 iy7
    by_cases he : (⟨x0, x1, x2, x3, x4, ⟨x5, x6, ss⟩⟩ : S28) = ⟨y0, y1, y2, y3, y4, ⟨y5, y6, uu⟩⟩
    case pos =>
      have HE : Aside0 ((true = true) ↔ (⟨x0, x1, x2, x3, x4, ⟨x5, x6, ss⟩⟩ : S28) = ⟨y0, y1, y2, y3, y4, ⟨y5, y6, uu⟩⟩) := ⟨⟨fun _ => he, fun _ => rfl⟩⟩
      have HT2 := Aside0.mk (take_succ_eq hks hku HT.out (by rw [← HXY.out.1, ← HXY.out.2]; exact he))
      clear he
      go_wp2_with (first | (go_at_call 35; go_loud (with_reducible refine (same1_g A7 B7 c7 d7 x0 x1 x2 x3 x4 x5 x6 ss y0 y1 y2 y3 y4 y5 y6 uu _ (Kd.C_below IX.out HBA.out) (Kd.C_below IY.out HBA.out) hs7 _ HE.out).mono ?_); go_loud (rintro e' w1 ⟨rfl, hb⟩; have n_ := Aside0.mk (below_step HB.out (below_step HBA.out hb)); clear hb HBA HB; have HB := n_; clear n_)))
      go_roundw
      case rel => exact ⟨k + 1, by omega, by go_num, HT2, HB⟩
      case measure => simp only [intOf]; omega
    case neg =>
      have HE : Aside0 ((false = true) ↔ (⟨x0, x1, x2, x3, x4, ⟨x5, x6, ss⟩⟩ : S28) = ⟨y0, y1, y2, y3, y4, ⟨y5, y6, uu⟩⟩) := ⟨⟨fun z => (by cases z), fun z => absurd z he⟩⟩
      obtain rfl : bb = false := by
        cases bb with
        | false => rfl
        | true =>
          have h := HBB.out.1 rfl
          exact absurd (by rw [HXY.out.1, HXY.out.2]; simp [h]) he
      clear he
      go_wp2_with (first | (go_at_call 35; go_loud (with_reducible refine (same1_g A7 B7 c7 d7 x0 x1 x2 x3 x4 x5 x6 ss y0 y1 y2 y3 y4 y5 y6 uu _ (Kd.C_below IX.out HBA.out) (Kd.C_below IY.out HBA.out) hs7 _ HE.out).mono ?_); go_loud (rintro e' w1 ⟨rfl, hb⟩; have n_ := Aside0.mk (below_step HB.out (below_step HBA.out hb)); clear hb HBA HB; have HB := n_; clear n_)))
      go_ret
      exact ⟨rfl, HB.out⟩
theorem same_g (A B' : Option Addr) (c d : Nat) (xs ys : List S28) (w : World) (hA : Kd.C k28 w A xs.length xs) (hB : Kd.C k28 w B' ys.length ys) (hl : xs.length ≤ 1000000) (hsl : ∀ x ∈ xs, x.f5.f2.length ≤ 1000000) (bb : Bool) (hbb : bb = true ↔ xs = ys) :
    Calls Try.prog 17 #[.slice A xs.length c, .slice B' ys.length d] w fun e w' => e = .returned (.bool bb) ∧ Below w.heap.size w w' := by
  have HA := Aside0.mk hA
  have HB2 := Aside0.mk hB
  have HSL := Aside0.mk hsl
  have HBB := Aside0.mk hbb
  clear hA hB hsl hbb
  go_enter Try.func17, Try.ntmps17
  go_wp2_with (first | (go_at_call 34; go_loud (with_reducible refine (eqf_g A B' c d xs ys _ HA.out HB2.out hl HSL.out bb HBB.out).mono ?_); go_loud (rintro e' w1 ⟨rfl, hb⟩; have HB := Aside0.mk hb; clear hb)))
  go_ret
  exact ⟨rfl, HB.out⟩
end Go.Proofs.Ytcjdnahgffkbdaa.Ssg

namespace Go.Proofs.Ytcjdnahgffkbdaa.Srg0
open Go Go.RowKit Go.Proofs Go.Proofs.Ytcjdnahgffkbdaa.Gm Go.Proofs.Ytcjdnahgffkbdaa.Gwa Go.Proofs.Ytcjdnahgffkbdaa.Gwb Go.Proofs.Ytcjdnahgffkbdaa.Gwd Go.Proofs.Ytcjdnahgffkbdaa.Srd Go.Proofs.Ytcjdnahgffkbdaa.Srs Go.Proofs.Ytcjdnahgffkbdaa.Sst Go.Proofs.Ytcjdnahgffkbdaa.Sev Go.Proofs.Ytcjdnahgffkbdaa.Sgt Go.Proofs.Ytcjdnahgffkbdaa.Q
set_option linter.unusedVariables false
section
variable (l : List UInt8) (a : Int)
theorem rI_er {er : Int} (h : er ≠ 0) (p : Int) : rI l p er = (0, p, er) := by unfold rI th; rw [if_pos h]
theorem rI_ok {p x n : Int} (h : intAt (B l) p = (x, n, 0)) : rI l p 0 = (x, n, 0) := by unfold rI th; rw [h, if_neg (by simp), if_neg (by simp)]
theorem rI_bad {p x n e : Int} (h : intAt (B l) p = (x, n, e)) (he : e ≠ 0) : (rI l p 0).2.2 = e := by unfold rI th; rw [h, if_neg (by simp), if_pos he]
theorem stI_er {er : Int} (h : er ≠ 0) (p : Int) : ∀ j, (stI l p er j).2 = er
  | 0 => rfl
  | j + 1 => by
    have ih := stI_er h p j
    show (rI l (stI l p er j).1 (stI l p er j).2).2.2 = er
    rw [ih, rI_er l h]
theorem stI_add (p er : Int) (i : Nat) : ∀ j, stI l p er (i + j) = stI l (stI l p er i).1 (stI l p er i).2 j
  | 0 => rfl
  | j + 1 => by
    have ih := stI_add p er i j
    show (rI l (stI l p er (i + j)).1 (stI l p er (i + j)).2).2 = _
    rw [ih]
    rfl
theorem rSs_err {er : Int} (h : er ≠ 0) (n : Nat) (acc : List S64) (p : Int) : rSs l n acc p er = (acc, p, er) := by
  cases n with
  | zero => rfl
  | succ n => rw [rSs, if_neg h]
theorem fin_C {e : Int} (he : e ≠ 0) (h : (evC l a 0).2.2 = e) : (rE l a 0).2.2 = e := by
  unfold rE
  simp only
  rw [h, rSs_err l he]
theorem fin_2 {e : Int} (he : e ≠ 0) (h : (stI l (evT l a 0).2.1 (evT l a 0).2.2 2).2 = e) : (rE l a 0).2.2 = e := by
  refine fin_C l a he ?_
  unfold evC rC
  rw [h, rI_er l he, if_neg (by simp [he])]
theorem fin_T {e : Int} (he : e ≠ 0) (h : (evT l a 0).2.2 = e) : (rE l a 0).2.2 = e := by
  refine fin_2 l a he ?_
  rw [h]
  exact stI_er l he _ 2
theorem fin_4 {e : Int} (he : e ≠ 0) (h : (stI l a 0 4).2 = e) : (rE l a 0).2.2 = e := by
  refine fin_T l a he ?_
  unfold evT th
  rw [h, if_pos he]
theorem fin_i {e : Int} (he : e ≠ 0) {i : Nat} (hi : i ≤ 4) (h : (stI l a 0 i).2 = e) : (rE l a 0).2.2 = e := by
  refine fin_4 l a he ?_
  rw [show 4 = i + (4 - i) by omega, stI_add, h]
  exact stI_er l he _ _
theorem fin_j {e : Int} (he : e ≠ 0) {i : Nat} (hi : i ≤ 2) (h : (stI l (evT l a 0).2.1 (evT l a 0).2.2 i).2 = e) : (rE l a 0).2.2 = e := by
  refine fin_2 l a he ?_
  rw [show 2 = i + (2 - i) by omega, stI_add, h]
  exact stI_er l he _ _
def rP (i : Nat) : Int := if i ≤ 4 then (stI l a 0 i).1 else (stI l (evT l a 0).2.1 (evT l a 0).2.2 (i - 4)).1
def rNm (i : Nat) : Int := if i < 4 then nmI l a 0 i else nmI l (evT l a 0).2.1 (evT l a 0).2.2 (i - 4)
def rOk (i : Nat) : Prop := (stI l a 0 (min i 4)).2 = 0 ∧ (4 < i → (evT l a 0).2.2 = 0 ∧ (stI l (evT l a 0).2.1 (evT l a 0).2.2 (i - 4)).2 = 0)
theorem rOk_0 : rOk l a 0 := ⟨rfl, fun h => by omega⟩
theorem lo_ok {i : Nat} (hi : i < 4) (h : rOk l a i) {x n : Int} (hx : intAt (B l) (rP l a i) = (x, n, 0)) : rNm l a i = x ∧ rP l a (i + 1) = n ∧ rOk l a (i + 1) := by
  have h0 : (stI l a 0 i).2 = 0 := by have := h.1; rwa [show min i 4 = i by omega] at this
  unfold rP at hx
  rw [if_pos (by omega)] at hx
  have hr : rI l (stI l a 0 i).1 (stI l a 0 i).2 = (x, n, 0) := by rw [h0]; exact rI_ok l hx
  have hs : stI l a 0 (i + 1) = (n, 0) := by show (rI l (stI l a 0 i).1 (stI l a 0 i).2).2 = _; rw [hr]
  refine ⟨?_, ?_, ?_, fun h => by omega⟩
  · unfold rNm nmI
    rw [if_pos hi, hr]
  · unfold rP
    rw [if_pos (by omega), hs]
  · rw [show min (i + 1) 4 = i + 1 by omega, hs]
theorem lo_bad {i : Nat} (hi : i < 4) (h : rOk l a i) {x n e : Int} (he : e ≠ 0) (hx : intAt (B l) (rP l a i) = (x, n, e)) : (rE l a 0).2.2 = e := by
  have h0 : (stI l a 0 i).2 = 0 := by have := h.1; rwa [show min i 4 = i by omega] at this
  unfold rP at hx
  rw [if_pos (by omega)] at hx
  have hr := rI_bad l hx he
  exact fin_i l a he (show i + 1 ≤ 4 by omega) (by show (rI l (stI l a 0 i).1 (stI l a 0 i).2).2.2 = e; rw [h0]; exact hr)
theorem tx_ok (h : rOk l a 4) {t : ByteArray} {n : Int} (hx : textAt l (rP l a 4) 16384 = (t, n, 0)) : evT l a 0 = (t, n, 0) := by
  have h0 : (stI l a 0 4).2 = 0 := h.1
  unfold rP at hx
  rw [if_pos (by omega)] at hx
  unfold evT th
  rw [h0, hx, if_neg (by simp), if_neg (by simp)]
theorem tx_bad (h : rOk l a 4) {t : ByteArray} {n e : Int} (he : e ≠ 0) (hx : textAt l (rP l a 4) 16384 = (t, n, e)) : (rE l a 0).2.2 = e := by
  have h0 : (stI l a 0 4).2 = 0 := h.1
  unfold rP at hx
  rw [if_pos (by omega)] at hx
  refine fin_T l a he ?_
  unfold evT th
  rw [h0, hx, if_neg (by simp), if_pos he]
def rQ (i : Nat) : Int := (stI l (evT l a 0).2.1 (evT l a 0).2.2 (i - 4)).1
theorem hi_ok {i : Nat} (h4 : 4 ≤ i) (h : rOk l a i) (ht : (evT l a 0).2.2 = 0) {x n : Int} (hx : intAt (B l) (rQ l a i) = (x, n, 0)) : rNm l a i = x ∧ rP l a (i + 1) = n ∧ rOk l a (i + 1) := by
  have h0 : (stI l (evT l a 0).2.1 (evT l a 0).2.2 (i - 4)).2 = 0 := by
    by_cases z : i = 4
    · rw [z]; exact ht
    · exact (h.2 (by omega)).2
  unfold rQ at hx
  have hr := rI_ok l hx
  have hs : stI l (evT l a 0).2.1 (evT l a 0).2.2 (i - 4 + 1) = (n, 0) := by show (rI l _ _).2 = _; rw [h0, hr]
  refine ⟨?_, ?_, ?_, fun _ => ⟨ht, ?_⟩⟩
  · unfold rNm nmI
    rw [if_neg (by omega), h0, hr]
  · unfold rP
    rw [if_neg (by omega), show i + 1 - 4 = i - 4 + 1 by omega, hs]
  · have := h.1
    rwa [show min (i + 1) 4 = min i 4 by omega]
  · rw [show i + 1 - 4 = i - 4 + 1 by omega, hs]
theorem hi_bad {i : Nat} (h4 : 4 ≤ i) (h6 : i ≤ 6) (h : rOk l a i) (ht : (evT l a 0).2.2 = 0) {x n e : Int} (he : e ≠ 0) (hx : intAt (B l) (rQ l a i) = (x, n, e)) : (rE l a 0).2.2 = e := by
  have h0 : (stI l (evT l a 0).2.1 (evT l a 0).2.2 (i - 4)).2 = 0 := by
    by_cases z : i = 4
    · rw [z]; exact ht
    · exact (h.2 (by omega)).2
  unfold rQ at hx
  have hr := rI_bad l hx he
  have hs : (stI l (evT l a 0).2.1 (evT l a 0).2.2 (i - 4 + 1)).2 = e := by show (rI l _ _).2.2 = _; rw [h0, hr]
  by_cases z : i = 6
  · subst z
    refine fin_C l a he ?_
    unfold evC rC
    have h2 : (rI l (stI l (evT l a 0).2.1 (evT l a 0).2.2 2).1 (stI l (evT l a 0).2.1 (evT l a 0).2.2 2).2).2.2 = e := hs
    rw [if_neg (by rw [h2]; simp [he]), h2]
  · exact fin_j l a he (show i - 4 + 1 ≤ 2 by omega) hs
theorem rQ_P {i : Nat} (h : 4 < i) : rQ l a i = rP l a i := by unfold rQ rP; rw [if_neg (by omega)]
theorem rQ_4 {t : ByteArray} {n : Int} (h : evT l a 0 = (t, n, 0)) : rQ l a 4 = n := by unfold rQ; rw [h]; rfl
theorem cnt_ok (h : rOk l a 7) (h1 : 0 ≤ rNm l a 6 ∧ rNm l a 6 ≤ 256) : evC l a 0 = (rNm l a 6, rP l a 7, 0) := by
  have hs : (rI l (stI l (evT l a 0).2.1 (evT l a 0).2.2 2).1 (stI l (evT l a 0).2.1 (evT l a 0).2.2 2).2) = (rNm l a 6, rP l a 7, 0) := by
    have h2 : (stI l (evT l a 0).2.1 (evT l a 0).2.2 3).2 = 0 := (h.2 (by omega)).2
    have h3 : (stI l (evT l a 0).2.1 (evT l a 0).2.2 3) = (rI l (stI l (evT l a 0).2.1 (evT l a 0).2.2 2).1 (stI l (evT l a 0).2.1 (evT l a 0).2.2 2).2).2 := rfl
    have h4 : rNm l a 6 = (rI l (stI l (evT l a 0).2.1 (evT l a 0).2.2 2).1 (stI l (evT l a 0).2.1 (evT l a 0).2.2 2).2).1 := rfl
    have h5 : rP l a 7 = (stI l (evT l a 0).2.1 (evT l a 0).2.2 3).1 := rfl
    exact Prod.ext rfl (Prod.ext rfl h2)
  unfold evC rC
  rw [hs, if_neg (by simp; omega)]
theorem cnt_bad (h : rOk l a 7) (h1 : rNm l a 6 < 0 ∨ 256 < rNm l a 6) : (rE l a 0).2.2 = 4 := by
  have hs : (rI l (stI l (evT l a 0).2.1 (evT l a 0).2.2 2).1 (stI l (evT l a 0).2.1 (evT l a 0).2.2 2).2) = (rNm l a 6, rP l a 7, 0) := by
    have h2 : (stI l (evT l a 0).2.1 (evT l a 0).2.2 3).2 = 0 := (h.2 (by omega)).2
    have h3 : (stI l (evT l a 0).2.1 (evT l a 0).2.2 3) = (rI l (stI l (evT l a 0).2.1 (evT l a 0).2.2 2).1 (stI l (evT l a 0).2.1 (evT l a 0).2.2 2).2).2 := rfl
    have h4 : rNm l a 6 = (rI l (stI l (evT l a 0).2.1 (evT l a 0).2.2 2).1 (stI l (evT l a 0).2.1 (evT l a 0).2.2 2).2).1 := rfl
    have h5 : rP l a 7 = (stI l (evT l a 0).2.1 (evT l a 0).2.2 3).1 := rfl
    exact Prod.ext rfl (Prod.ext rfl h2)
  refine fin_C l a (by decide) ?_
  unfold evC rC
  rw [hs, if_pos ⟨rfl, h1⟩]
theorem ev_of (hc : evC l a 0 = (rNm l a 6, rP l a 7, 0)) {ss : List S64} {b e : Int} (hs : rSs l (rNm l a 6).toNat [] (rP l a 7) 0 = (ss, b, e)) : rE l a 0 = (⟨rNm l a 0, rNm l a 1, rNm l a 2, rNm l a 3, (evT l a 0).1, ⟨rNm l a 4, rNm l a 5, ss⟩⟩, b, e) := by
  unfold rE
  simp only [hc, hs]
  rfl
theorem rS_ok {p n : Int} {xs : List Int} (h : listAt l p 11 = (xs, n, 0)) (hl : xs.length = 11) : rS l p 0 = (stOf xs, n, 0) := by
  unfold rS th
  simp [h, hl]
theorem rS_bad {p n e : Int} {xs : List Int} (he : e ≠ 0) (h : listAt l p 11 = (xs, n, e)) : (rS l p 0).2.2 = e := by
  unfold rS th
  simp [h, he]
theorem rS_form {p n : Int} {xs : List Int} (h : listAt l p 11 = (xs, n, 0)) (hl : xs.length ≠ 11) : (rS l p 0).2.2 = 2 := by
  unfold rS th
  simp [h, hl]
theorem rSs_bad {p e : Int} (he : e ≠ 0) (h : (rS l p 0).2.2 = e) (n : Nat) (acc : List S64) : (rSs l (n + 1) acc p 0).2.2 = e := by
  rw [rSs, if_pos rfl, h, rSs_err l he]
theorem rSs_ok {p n : Int} {s : S64} (h : rS l p 0 = (s, n, 0)) (m : Nat) (acc : List S64) : rSs l (m + 1) acc p 0 = rSs l m (acc ++ [s]) n 0 := by
  rw [rSs, if_pos rfl, h]
end
end Go.Proofs.Ytcjdnahgffkbdaa.Srg0

namespace Go.Proofs.Ytcjdnahgffkbdaa.Srg
open Go Go.RowKit Go.Proofs Go.Proofs.Ytcjdnahgffkbdaa.Gm Go.Proofs.Ytcjdnahgffkbdaa.Gwa Go.Proofs.Ytcjdnahgffkbdaa.Gwb Go.Proofs.Ytcjdnahgffkbdaa.Gwd Go.Proofs.Ytcjdnahgffkbdaa.Srd Go.Proofs.Ytcjdnahgffkbdaa.Srs Go.Proofs.Ytcjdnahgffkbdaa.Sst Go.Proofs.Ytcjdnahgffkbdaa.Sev Go.Proofs.Ytcjdnahgffkbdaa.Sgt Go.Proofs.Ytcjdnahgffkbdaa.Srg0 Go.Proofs.Ytcjdnahgffkbdaa.Q Go.Proofs.Ytcjdnahgffkbdaa.Gput Go.Proofs.YtcjdnahgffkbdaaW.PrintWords Go.Proofs.YtcjdnahgffkbdaaW.PrintLast Go.Proofs.YtcjdnahgffkbdaaW.PrintMore
set_option linter.unusedVariables false
def part7 (f : Nat → Int) (k : Nat) : Array Value := #[Value.int .i64 (if 0 < k then f 0 else 0), Value.int .i64 (if 1 < k then f 1 else 0), Value.int .i64 (if 2 < k then f 2 else 0), Value.int .i64 (if 3 < k then f 3 else 0), Value.int .i64 (if 4 < k then f 4 else 0), Value.int .i64 (if 5 < k then f 5 else 0), Value.int .i64 (if 6 < k then f 6 else 0)]
theorem part7_zero (f : Nat → Int) : part7 f 0 = #[.int .i64 0, .int .i64 0, .int .i64 0, .int .i64 0, .int .i64 0, .int .i64 0, .int .i64 0] := by simp [part7]
theorem part7_full (f : Nat → Int) : part7 f 7 = #[.int .i64 (f 0), .int .i64 (f 1), .int .i64 (f 2), .int .i64 (f 3), .int .i64 (f 4), .int .i64 (f 5), .int .i64 (f 6)] := by simp [part7]
theorem k7 {k : Nat} (h : k < 7) : k = 0 ∨ k = 1 ∨ k = 2 ∨ k = 3 ∨ k = 4 ∨ k = 5 ∨ k = 6 := by omega
theorem part7_set (f : Nat → Int) (k : Nat) (h : k < 7) : (part7 f k).setIfInBounds k (.int .i64 (f k)) = part7 f (k + 1) := by
  obtain rfl | rfl | rfl | rfl | rfl | rfl | rfl := k7 h <;> simp [part7]
theorem part7_at (f : Nat → Int) (k : Nat) (h : k < 7) : (part7 f k)[k]? = some (.int .i64 0) := by
  obtain rfl | rfl | rfl | rfl | rfl | rfl | rfl := k7 h <;> simp [part7]
def txt (l : List UInt8) (a : Int) (i : Nat) : ByteArray := if i ≤ 4 then ⟨#[]⟩ else (evT l a 0).1
theorem txt_lo (l : List UInt8) (a : Int) {i : Nat} (h : i ≤ 4) : txt l a i = ⟨#[]⟩ := by unfold txt; rw [if_pos h]
theorem txt_hi (l : List UInt8) (a : Int) {i : Nat} (h : 4 < i) : txt l a i = (evT l a 0).1 := by unfold txt; rw [if_neg (by omega)]
theorem step_ok (l : List UInt8) (a : Int) {i : Nat} (hi : i < 7) (h4 : i ≠ 4) (h : rOk l a i) {x n : Int} (hx : intAt (B l) (rP l a i) = (x, n, 0)) : rNm l a i = x ∧ rP l a (i + 1) = n ∧ rOk l a (i + 1) ∧ txt l a (i + 1) = txt l a i := by
  by_cases z : i < 4
  · obtain ⟨h1, h2, h3⟩ := lo_ok l a z h hx
    exact ⟨h1, h2, h3, by rw [txt_lo l a (by omega), txt_lo l a (by omega)]⟩
  · obtain ⟨h1, h2, h3⟩ := hi_ok l a (by omega) h (h.2 (by omega)).1 (by rw [rQ_P l a (by omega)]; exact hx)
    exact ⟨h1, h2, h3, by rw [txt_hi l a (by omega), txt_hi l a (by omega)]⟩
theorem step_bad (l : List UInt8) (a : Int) {i : Nat} (hi : i < 7) (h4 : i ≠ 4) (h : rOk l a i) {x n e : Int} (he : e ≠ 0) (hx : intAt (B l) (rP l a i) = (x, n, e)) : (rE l a 0).2.2 = e := by
  by_cases z : i < 4
  · exact lo_bad l a z h he hx
  · exact hi_bad l a (by omega) (by omega) h (h.2 (by omega)).1 he (by rw [rQ_P l a (by omega)]; exact hx)
theorem get_bad {l : List UInt8} {a er : Int} {x : S28} {b e : Int} (hr : getR l a = (x, b, e)) (he : er ≠ 0) (h : (rE l a 0).2.2 = er) : z28 = x ∧ 0 = b ∧ er = e := by
  unfold getR at hr
  rw [h, if_pos he] at hr
  simpa using hr
theorem get_good {l : List UInt8} {a p : Int} {x y : S28} {b e : Int} (hr : getR l a = (x, b, e)) (h : rE l a 0 = (y, p, 0)) : y = x ∧ p = b ∧ 0 = e := by
  unfold getR at hr
  rw [h, if_neg (by simp)] at hr
  simpa using hr
structure QW (w W : World) (g4 g7 : Nat) (cs : Array Value) : Prop where
  hb : Below w.heap.size w W
  l4 : w.heap.size ≤ g4
  l7 : g4 < g7
  b4 : W.heap[g4]? = some (.cells #[.int .i64 0, .int .i64 0, .int .i64 0, .int .i64 0, .string ⟨#[]⟩, .int .i64 0, .int .i64 0, .slice none 0 0] 28 (0, 0))
  b7 : W.heap[g7]? = some (.cells cs 77 (0, 0))
section
variable {w W W' : World} {g4 g7 : Nat} {cs : Array Value}
theorem QW.below (h : QW w W g4 g7 cs) (hb : Below W.heap.size W W') : QW w W' g4 g7 cs := ⟨below_step h.hb hb, h.l4, h.l7, blk_below h.b4 hb, blk_below h.b7 hb⟩
theorem QW.set (h : QW w W g4 g7 cs) (i : Nat) (v : Value) : QW w (W.setCell ⟨g7, i, none⟩ v) g4 g7 (cs.setIfInBounds i v) := by
  have a := h.l4
  have b := h.l7
  exact ⟨below_set h.hb (by omega), h.l4, h.l7, blk_far (p := ⟨g7, i, none⟩) h.b4 (by show g4 ≠ g7; omega) v, blk_put h.b7 i v rfl⟩
theorem b8 (hb : Below w.heap.size w W) (h4 : w.heap.size ≤ g4) {v0 v1 v2 v3 v4 v5 v6 v7 : Value} : Below w.heap.size w ((((((((W.setCell ⟨g4, 0, none⟩ v0).setCell ⟨g4, 1, none⟩ v1).setCell ⟨g4, 2, none⟩ v2).setCell ⟨g4, 3, none⟩ v3).setCell ⟨g4, 4, none⟩ v4).setCell ⟨g4, 5, none⟩ v5).setCell ⟨g4, 6, none⟩ v6).setCell ⟨g4, 7, none⟩ v7) := below_set (below_set (below_set (below_set (below_set (below_set (below_set (below_set (hb) h4) h4) h4) h4) h4) h4) h4) h4
end
theorem put8 {W : World} {g4 : Nat} {t : TypeId} {x0 x1 x2 x3 x4 x5 x6 x7 v0 v1 v2 v3 v4 v5 v6 v7 : Value} (h : W.heap[g4]? = some (.cells #[x0, x1, x2, x3, x4, x5, x6, x7] t (0, 0))) : ((((((((W.setCell ⟨g4, 0, none⟩ v0).setCell ⟨g4, 1, none⟩ v1).setCell ⟨g4, 2, none⟩ v2).setCell ⟨g4, 3, none⟩ v3).setCell ⟨g4, 4, none⟩ v4).setCell ⟨g4, 5, none⟩ v5).setCell ⟨g4, 6, none⟩ v6).setCell ⟨g4, 7, none⟩ v7).heap[g4]? = some (.cells #[v0, v1, v2, v3, v4, v5, v6, v7] t (0, 0)) := by
  have h0_ : (W.setCell ⟨g4, 0, none⟩ v0).heap[g4]? = some (.cells #[v0, x1, x2, x3, x4, x5, x6, x7] t (0, 0)) := blk_put h 0 v0 rfl
  have h1_ : ((W.setCell ⟨g4, 0, none⟩ v0).setCell ⟨g4, 1, none⟩ v1).heap[g4]? = some (.cells #[v0, v1, x2, x3, x4, x5, x6, x7] t (0, 0)) := blk_put h0_ 1 v1 rfl
  have h2_ : (((W.setCell ⟨g4, 0, none⟩ v0).setCell ⟨g4, 1, none⟩ v1).setCell ⟨g4, 2, none⟩ v2).heap[g4]? = some (.cells #[v0, v1, v2, x3, x4, x5, x6, x7] t (0, 0)) := blk_put h1_ 2 v2 rfl
  have h3_ : ((((W.setCell ⟨g4, 0, none⟩ v0).setCell ⟨g4, 1, none⟩ v1).setCell ⟨g4, 2, none⟩ v2).setCell ⟨g4, 3, none⟩ v3).heap[g4]? = some (.cells #[v0, v1, v2, v3, x4, x5, x6, x7] t (0, 0)) := blk_put h2_ 3 v3 rfl
  have h4_ : (((((W.setCell ⟨g4, 0, none⟩ v0).setCell ⟨g4, 1, none⟩ v1).setCell ⟨g4, 2, none⟩ v2).setCell ⟨g4, 3, none⟩ v3).setCell ⟨g4, 4, none⟩ v4).heap[g4]? = some (.cells #[v0, v1, v2, v3, v4, x5, x6, x7] t (0, 0)) := blk_put h3_ 4 v4 rfl
  have h5_ : ((((((W.setCell ⟨g4, 0, none⟩ v0).setCell ⟨g4, 1, none⟩ v1).setCell ⟨g4, 2, none⟩ v2).setCell ⟨g4, 3, none⟩ v3).setCell ⟨g4, 4, none⟩ v4).setCell ⟨g4, 5, none⟩ v5).heap[g4]? = some (.cells #[v0, v1, v2, v3, v4, v5, x6, x7] t (0, 0)) := blk_put h4_ 5 v5 rfl
  have h6_ : (((((((W.setCell ⟨g4, 0, none⟩ v0).setCell ⟨g4, 1, none⟩ v1).setCell ⟨g4, 2, none⟩ v2).setCell ⟨g4, 3, none⟩ v3).setCell ⟨g4, 4, none⟩ v4).setCell ⟨g4, 5, none⟩ v5).setCell ⟨g4, 6, none⟩ v6).heap[g4]? = some (.cells #[v0, v1, v2, v3, v4, v5, v6, x7] t (0, 0)) := blk_put h5_ 6 v6 rfl
  have h7_ : ((((((((W.setCell ⟨g4, 0, none⟩ v0).setCell ⟨g4, 1, none⟩ v1).setCell ⟨g4, 2, none⟩ v2).setCell ⟨g4, 3, none⟩ v3).setCell ⟨g4, 4, none⟩ v4).setCell ⟨g4, 5, none⟩ v5).setCell ⟨g4, 6, none⟩ v6).setCell ⟨g4, 7, none⟩ v7).heap[g4]? = some (.cells #[v0, v1, v2, v3, v4, v5, v6, v7] t (0, 0)) := blk_put h6_ 7 v7 rfl
  exact h7_
theorem int_x (l : List UInt8) (hs : l.length ≤ 17592186044416) (p x n e : Int) (h : intAt (B l) p = (x, n, e)) (w : World) : Calls Try.prog 37 #[.string (B l), .int .i64 p] w fun e' w' => e' = .returned (.tuple #[.int .i64 x, .int .i64 n, .int .i64 e]) ∧ Below w.heap.size w w' :=
  (storagebarterref01_Int.calls 40 (B l) p x n e w (by rw [ref_Int_eq _ _ 40 (by rw [B_size]; omega) (by omega), h])).mono fun e' w' z => ⟨z.1, z.2.below⟩
theorem text_x (l : List UInt8) (hs : l.length ≤ 17592186044416) (p n e : Int) (t : ByteArray) (h : textAt l p 16384 = (t, n, e)) (w : World) : Calls Try.prog 38 #[.string (B l), .int .i64 p, .int .i64 16384] w fun e' w' => e' = .returned (.tuple #[.string t, .int .i64 n, .int .i64 e]) ∧ Below w.heap.size w w' :=
  (storagebarterref01_Text.calls 40 (B l) p 16384 t n e w (by rw [ref_Text_eq _ _ _ 40 (by omega) (by omega), h])).mono fun e' w' z => ⟨z.1, z.2.below⟩
theorem list_x (l : List UInt8) (hs : l.length ≤ 17592186044416) (p n e : Int) (xs : List Int) (h : listAt l p 11 = (xs, n, e)) (w : World) : Calls Try.prog 39 #[.string (B l), .int .i64 p, .int .i64 11] w fun e' w' => ∃ v0_ : Value, e' = .returned (.tuple #[v0_, .int .i64 n, .int .i64 e]) ∧ Kd.R (Kd.int .i64) 3 w' w.heap.size (fun _ => True) v0_ xs ∧ Below w.heap.size w w' :=
  storagebarterref01_List.calls (l.length + 40) (B l) p 11 xs n e w (by rw [ref_List_eq _ _ _ (l.length + 40) hs (by omega), h])
structure VQ (w W : World) (g4 g7 g16 : Nat) (c7 cs : Array Value) (v : Value) (ss : List S64) : Prop where
  q : QW w W g4 g7 c7
  l16 : g7 < g16
  b16 : W.heap[g16]? = some (.cells cs 28 (0, 0))
  cr : Kd.R k64 64 W w.heap.size (fun _ => True) v ss
section
variable {w W W' : World} {g4 g7 g16 : Nat} {c7 cs : Array Value} {v v1 : Value} {ss ss' : List S64}
theorem VQ.below (h : VQ w W g4 g7 g16 c7 cs v ss) (hb : Below W.heap.size W W') : VQ w W' g4 g7 g16 c7 cs v ss := ⟨h.q.below hb, h.l16, blk_below h.b16 hb, Kd.R_below h.cr hb⟩
theorem VQ.drew (h : VQ w W g4 g7 g16 c7 cs v ss) : VQ w W.drew g4 g7 g16 c7 cs v ss := h.below (below_drew1 (Below.refl _ _))
theorem R_farQ {base g : Nat} (hr : Kd.R k64 64 W base (fun _ => True) v ss) (hne : some g ≠ v.ownBlock) (i : Nat) (u : Value) : Kd.R k64 64 (W.setCell ⟨g, i, none⟩ u) base (fun _ => True) v ss := by
  have h2 : Kd.R k64 64 W base (fun k => k ≠ g) v ss := ⟨fun k hk e => hne (by rw [hk, e]), hr.2.imp_ (fun p c hm => by rw [k64_openM hm]; exact k64_mkM _ _ _ _)⟩
  exact Kd.R_mono (Kd.R_far (p := ⟨g, i, none⟩) h2 (fun _ hk => hk) u) (fun _ _ => trivial)
theorem VQ.set (h : VQ w W g4 g7 g16 c7 cs v ss) (i : Nat) (u : Value) : VQ w (W.setCell ⟨g16, i, none⟩ u) g4 g7 g16 c7 (cs.setIfInBounds i u) v ss := by
  have a := h.q.l4
  have b := h.q.l7
  have c := h.l16
  exact ⟨⟨below_set h.q.hb (by omega), h.q.l4, h.q.l7, blk_far (p := ⟨g16, i, none⟩) h.q.b4 (by show g4 ≠ g16; omega) u, blk_far (p := ⟨g16, i, none⟩) h.q.b7 (by show g7 ≠ g16; omega) u⟩, h.l16, blk_put h.b16 i u rfl, R_farQ h.cr (Kd.R_ne h.cr h.b16 (by decide)) i u⟩
theorem VQ.app (h : VQ w W g4 g7 g16 c7 cs v ss) (hr : Kd.R k64 64 W' w.heap.size (fun _ => True) v1 ss') (hg : W.grownBy W' v.ownBlock) : VQ w W' g4 g7 g16 c7 cs v1 ss' :=
  ⟨⟨h.q.hb.grown hg h.q.hb.size (fun b e => Kd.R_base h.cr b e), h.q.l4, h.q.l7, blk_grown h.q.b4 hg (Kd.R_ne h.cr h.q.b4 (by decide)), blk_grown h.q.b7 hg (Kd.R_ne h.cr h.q.b7 (by decide))⟩, h.l16, blk_grown h.b16 hg (Kd.R_ne h.cr h.b16 (by decide)), hr⟩
theorem R8q {base : Nat} (hr : Kd.R k64 64 W base (fun _ => True) v ss) (hne : some g4 ≠ v.ownBlock) {v0 v1 v2 v3 v4 v5 v6 v7 : Value} : Kd.R k64 64 ((((((((W.setCell ⟨g4, 0, none⟩ v0).setCell ⟨g4, 1, none⟩ v1).setCell ⟨g4, 2, none⟩ v2).setCell ⟨g4, 3, none⟩ v3).setCell ⟨g4, 4, none⟩ v4).setCell ⟨g4, 5, none⟩ v5).setCell ⟨g4, 6, none⟩ v6).setCell ⟨g4, 7, none⟩ v7) base (fun _ => True) v ss := R_farQ (R_farQ (R_farQ (R_farQ (R_farQ (R_farQ (R_farQ (R_farQ (hr) hne 0 v0) hne 1 v1) hne 2 v2) hne 3 v3) hne 4 v4) hne 5 v5) hne 6 v6) hne 7 v7
end
theorem R_ad {α : Type} {d : Kd α} {e : Nat} {w : World} {base n c : Nat} {ok : Nat → Prop} {A : Option Addr} {xs : List α} (h : d.R e w base ok (.slice A n c) xs) (hn : 0 < n) : ∃ g, A = some ⟨g, 0, none⟩ := by
  obtain ⟨hok, inner, ho, hr⟩ := h
  rcases ho.2 with ⟨h1, h2⟩ | ⟨g', cap, cur, h1, hg, hb, h2, h3, h4, h5⟩
  · simp only [Value.slice.injEq] at h1
    omega
  · simp only [Value.slice.injEq] at h1
    exact ⟨g', h1.1⟩
def rgT : Bool × List (List Nat × List Nat) := (true, [([], []), ([0], [0]), ([1], [1]), ([], []), ([3], [3]), ([4], [4]), ([], []), ([6], [6]), ([7], [7]), ([], []), ([9], [9]), ([10], [10]), ([], []), ([12], [12]), ([13], [13]), ([], []), ([15], [15]), ([16], [16]), ([], []), ([18], [18]), ([19], [19]), ([], []), ([21], [21]), ([22], [22]), ([], []), ([24], [24]), ([25], [25]), ([], []), ([27], [27]), ([28], [28]), ([], []), ([30], [30]), ([31], [31]), ([], []), ([33], [33]), ([34], [34]), ([5, 8, 11, 14, 17, 20, 23, 26, 29, 32, 35], [5, 8, 11, 14, 17, 20, 23, 26, 29, 32, 35]), ([36], [36]), ([2, 37], [2, 37]), ([0, 1, 2, 3, 4, 5, 6, 7, 8, 9, 10, 11, 12, 13, 14, 15, 16, 17, 18, 19, 20, 21, 22, 23, 24, 25, 26, 27, 28, 29, 30, 31, 32, 33, 34, 35, 36, 37, 38], []), ([39, 0, 1, 2, 3, 4, 5, 6, 7, 8, 9, 10, 11, 12, 13, 14, 15, 16, 17, 18, 19, 20, 21, 22, 23, 24, 25, 26, 27, 28, 29, 30, 31, 32, 33, 34, 35, 36, 37, 38], [39]), ([40, 38, 38, 0, 1, 2, 3, 4, 5, 6, 7, 8, 9, 10, 11, 12, 13, 14, 15, 16, 17, 18, 19, 20, 21, 22, 23, 24, 25, 26, 27, 28, 29, 30, 31, 32, 33, 34, 35, 36, 37, 38], [38, 40])])
def rgB : List Nat := [0, 1, 3, 0, 8, 24, 0, 64, 192, 0, 512, 1536, 0, 4096, 12288, 0, 32768, 98304, 0, 262144, 786432, 0, 2097152, 6291456, 0, 16777216, 50331648, 0, 134217728, 402653184, 0, 1073741824, 3221225472, 0, 8589934592, 25769803776, 68719476728, 137438953464, 274877906943, 549755813887, 1099511627775, 2199023255551]
theorem rg_tab : rtab .any (opsOf Try.f20 26) = rgT := by kernel_rfl
theorem rg_bits : waitsOk rgT.2 rgB = true := by kernel_rfl
theorem cell_alc {W : World} {p : Addr} {v : Value} {o : Obj} (h : W.cell? p = some v) : (W.alloc o).cell? p = some v := by
  have hlt : p.block < W.heap.size := by
    rcases Nat.lt_or_ge p.block W.heap.size with h1 | h1
    · exact h1
    · unfold World.cell? at h
      rw [Array.getElem?_eq_none h1] at h
      cases h
  have e : (W.alloc o).heap[p.block]? = W.heap[p.block]? := by
    show (W.heap.push o)[p.block]? = _
    rw [Array.getElem?_push, if_neg (by omega)]
  unfold World.cell? at h ⊢
  rw [e]
  exact h
theorem add0 (g i : Nat) : (⟨g, 0, none⟩ : Addr).add i = ⟨g, i, none⟩ := by cases i <;> simp [Addr.add]
theorem blk_lt_of {α : Type} {d : Kd α} {e : Nat} {w : World} {base n c gx : Nat} {ok : Nat → Prop} {xs : List α} (h : d.R e w base ok (.slice (some ⟨gx, 0, none⟩) n c) xs) (hn : 0 < n) : gx < w.heap.size := by
  obtain ⟨hok, inner, ho, hr⟩ := h
  rcases ho.2 with ⟨h1, h2⟩ | ⟨g', cap, cur, h1, hg, hb, h2, h3, h4, h5⟩
  · simp at h1
  · simp only [Value.slice.injEq, Option.some.injEq, Addr.mk.injEq] at h1
    obtain ⟨⟨rfl, -⟩, -⟩ := h1
    exact blk_lt hb
theorem int_at {w : World} {g n : Nat} {xs : List Int} (h : Kd.C (Kd.int .i64) w (some ⟨g, 0, none⟩) n xs) (j : Nat) (hj : j < n) : w.cell? ⟨g, j, none⟩ = some (.int .i64 (rd xs (j : Int))) := by
  obtain ⟨ad, e, hc⟩ := Kd.at_int h (j : Int) (by omega) (by omega)
  cases e
  rw [Int.toNat_natCast, add0] at hc
  exact hc
set_option maxRecDepth 100000 in
set_option maxHeartbeats 8000000 in
theorem rget_x (l : List UInt8) (a : Int) (hs : l.length ≤ 17592186044416) (w : World) (x : S28) (b e : Int) (hr : getR l a = (x, b, e)) :
    Calls Try.prog 20 #[.string (B l), .int .i64 a] w fun e' w' => ∃ v : Value, e' = .returned (.tuple #[.agg #[.int .i64 x.f0, .int .i64 x.f1, .int .i64 x.f2, .int .i64 x.f3, .string x.f4, .int .i64 x.f5.f0, .int .i64 x.f5.f1, v], .int .i64 b, .int .i64 e]) ∧ Kd.R k64 64 w' w.heap.size (fun _ => True) v x.f5.f2 ∧ Below w.heap.size w w' := by
  have mixed : (Try.prog).follows .mixedOrders = true := by kernel_rfl
  have hu28 := Try.underlying28
  have hu26 := Try.underlying26
  have hu77 := Try.underlying77
  have HR := Lib.hid hr
  clear hr
  have HX : Aside0 (QW w ((w.alloc (.cells #[.int .i64 0, .int .i64 0, .int .i64 0, .int .i64 0, .string ⟨#[]⟩, .int .i64 0, .int .i64 0, .slice none 0 0] 28)).alloc (.cells #[.int .i64 0, .int .i64 0, .int .i64 0, .int .i64 0, .int .i64 0, .int .i64 0, .int .i64 0] 77)) w.heap.size (w.heap.size + 1) (part7 (rNm l a) 0)) := ⟨⟨below_alloc (below_alloc (Below.refl _ _) _) _, Nat.le_refl _, Nat.lt_succ_self _, blk_alloc (heap_alloc_new w _) _, by
    rw [part7_zero]
    have := heap_alloc_new (w.alloc (.cells #[.int .i64 0, .int .i64 0, .int .i64 0, .int .i64 0, .string ⟨#[]⟩, .int .i64 0, .int .i64 0, .slice none 0 0] 28)) (.cells #[.int .i64 0, .int .i64 0, .int .i64 0, .int .i64 0, .int .i64 0, .int .i64 0, .int .i64 0] 77)
    simpa using this⟩⟩
  go_enter Try.func20, Try.ntmps20
  go_wp2
  obtain ⟨g4, hg4⟩ : ∃ g, w.heap.size = g := ⟨_, rfl⟩
  rw [hg4] at HX ⊢
  obtain ⟨g7, hg7⟩ : ∃ g, g4 + 1 = g := ⟨_, rfl⟩
  rw [hg7] at HX ⊢
  have HG4 : Aside0 (w.heap.size = g4) := ⟨hg4⟩
  clear hg4 hg7
  go_loopw [1, 8, 9] (fun s1 s8 s9 wr => ∃ i : Nat, i ≤ 7 ∧ s1 = .int .i64 (rP l a i) ∧ s8 = .string (txt l a i) ∧ s9 = .int .i64 i ∧ Aside0 (rOk l a i) ∧ Aside0 (QW w wr g4 g7 (part7 (rNm l a) i))) (fun _ _ s9 _ => 7 - (intOf s9).toNat)
  case atStart => exact ⟨0, by omega, rfl, rfl, rfl, ⟨rOk_0 l a⟩, HX⟩
  case round =>
    clear HX
    obtain ⟨i, hi, rfl, rfl, rfl, HOK, HX⟩ := hrel
    have q40_ : wr.cell? ⟨g4, 0, none⟩ = some (.int .i64 0) := (blk_cell HX.out.b4 0).trans rfl
    have z40_ := blk_frozen HX.out.b4 0
    have q41_ : wr.cell? ⟨g4, 1, none⟩ = some (.int .i64 0) := (blk_cell HX.out.b4 1).trans rfl
    have z41_ := blk_frozen HX.out.b4 1
    have q42_ : wr.cell? ⟨g4, 2, none⟩ = some (.int .i64 0) := (blk_cell HX.out.b4 2).trans rfl
    have z42_ := blk_frozen HX.out.b4 2
    have q43_ : wr.cell? ⟨g4, 3, none⟩ = some (.int .i64 0) := (blk_cell HX.out.b4 3).trans rfl
    have z43_ := blk_frozen HX.out.b4 3
    have q44_ : wr.cell? ⟨g4, 4, none⟩ = some (.string ⟨#[]⟩) := (blk_cell HX.out.b4 4).trans rfl
    have z44_ := blk_frozen HX.out.b4 4
    have q45_ : wr.cell? ⟨g4, 5, none⟩ = some (.int .i64 0) := (blk_cell HX.out.b4 5).trans rfl
    have z45_ := blk_frozen HX.out.b4 5
    have q46_ : wr.cell? ⟨g4, 6, none⟩ = some (.int .i64 0) := (blk_cell HX.out.b4 6).trans rfl
    have z46_ := blk_frozen HX.out.b4 6
    have q47_ : wr.cell? ⟨g4, 7, none⟩ = some (.slice none 0 0) := (blk_cell HX.out.b4 7).trans rfl
    have z47_ := blk_frozen HX.out.b4 7
    have n4 := blk_lt HX.out.b4
    have n7 := blk_lt HX.out.b7
    have l47 := HX.out.l7
    have n47 : g4 ≠ g7 := by omega
    have n74 : g7 ≠ g4 := by omega
    by_cases hi7 : i = 7
    case pos =>
      subst hi7
      have q70 : wr.cell? ⟨g7, 0, none⟩ = some (.int .i64 (rNm l a 0)) := (blk_cell HX.out.b7 0).trans (by rw [part7_full]; rfl)
      have q71 : wr.cell? ⟨g7, 1, none⟩ = some (.int .i64 (rNm l a 1)) := (blk_cell HX.out.b7 1).trans (by rw [part7_full]; rfl)
      have q72 : wr.cell? ⟨g7, 2, none⟩ = some (.int .i64 (rNm l a 2)) := (blk_cell HX.out.b7 2).trans (by rw [part7_full]; rfl)
      have q73 : wr.cell? ⟨g7, 3, none⟩ = some (.int .i64 (rNm l a 3)) := (blk_cell HX.out.b7 3).trans (by rw [part7_full]; rfl)
      have q74 : wr.cell? ⟨g7, 4, none⟩ = some (.int .i64 (rNm l a 4)) := (blk_cell HX.out.b7 4).trans (by rw [part7_full]; rfl)
      have q75 : wr.cell? ⟨g7, 5, none⟩ = some (.int .i64 (rNm l a 5)) := (blk_cell HX.out.b7 5).trans (by rw [part7_full]; rfl)
      have q76 : wr.cell? ⟨g7, 6, none⟩ = some (.int .i64 (rNm l a 6)) := (blk_cell HX.out.b7 6).trans (by rw [part7_full]; rfl)
      have HQX := HX
      by_cases hc : 0 ≤ rNm l a 6 ∧ rNm l a 6 ≤ 256
      case neg =>
        obtain ⟨rfl, rfl, rfl⟩ := get_bad HR.out (by decide) (cnt_bad l a HOK.out (by omega))
        by_cases h0 : rNm l a 6 < 0
        case pos =>
          have d0 := decide_eq_true h0
          go_wp2
          refine bodyPost_ret (results_ctt rfl _ _ g4 28 #[.int .i64 0, .int .i64 0, .int .i64 0, .int .i64 0, .string ⟨#[]⟩, .int .i64 0, .int .i64 0, .slice none 0 0] (0, 0) _ rfl (by with_reducible exact put8 HX.out.b4) Try.underlying28 rfl (by kernel_rfl)) rfl ?_; exact ⟨_, rfl, Kd.R_nil _ _ _ _ _, b8 HX.out.hb HX.out.l4⟩
        case neg =>
          have d0 := decide_eq_false h0
          have h2 : 256 < rNm l a 6 := by omega
          have d2 := decide_eq_true h2
          go_wp2
          refine bodyPost_ret (results_ctt rfl _ _ g4 28 #[.int .i64 0, .int .i64 0, .int .i64 0, .int .i64 0, .string ⟨#[]⟩, .int .i64 0, .int .i64 0, .slice none 0 0] (0, 0) _ rfl (by with_reducible exact put8 HX.out.b4) Try.underlying28 rfl (by kernel_rfl)) rfl ?_; exact ⟨_, rfl, Kd.R_nil _ _ _ _ _, b8 HX.out.hb HX.out.l4⟩
      case pos =>
        have h0 : ¬ rNm l a 6 < 0 := by omega
        have h2 : ¬ 256 < rNm l a 6 := by omega
        have d0 := decide_eq_false h0
        have d2 := decide_eq_false h2
        obtain ⟨ss, sb, se, hss⟩ : ∃ ss b e, rSs l (rNm l a 6).toNat [] (rP l a 7) 0 = (ss, b, e) := ⟨_, _, _, rfl⟩
        have HEV := Aside0.mk (ev_of l a (cnt_ok l a HOK.out hc) hss)
        obtain ⟨nn, hnn⟩ : ∃ nn : Nat, rNm l a 6 = (nn : Int) := ⟨(rNm l a 6).toNat, by omega⟩
        have HSS : Hid (rSs l nn [] (rP l a 7) 0 = (ss, sb, se)) := Lib.hid (by rw [hnn, Int.toNat_natCast] at hss; exact hss)
        have hn256 : nn ≤ 256 := by omega
        have HT7 : txt l a 7 = (evT l a 0).1 := txt_hi l a (by omega)
        clear hss hc
        go_upto_region 18 with fail
        have HV : Aside0 (VQ w (wr.alloc (.cells #[.int .i64 (rNm l a 0), .int .i64 (rNm l a 1), .int .i64 (rNm l a 2), .int .i64 (rNm l a 3), .string (evT l a 0).1, .int .i64 (rNm l a 4), .int .i64 (rNm l a 5), .slice none 0 0] 28)) g4 g7 wr.heap.size (part7 (rNm l a) 7) #[.int .i64 (rNm l a 0), .int .i64 (rNm l a 1), .int .i64 (rNm l a 2), .int .i64 (rNm l a 3), .string (evT l a 0).1, .int .i64 (rNm l a 4), .int .i64 (rNm l a 5), .slice none 0 0] (.slice none 0 0) []) := ⟨⟨HX.out.below (below_alloc (Below.refl _ _) _), n7, heap_alloc_new wr _, Kd.R_nil _ _ _ _ _⟩⟩
        try rw [HT7]
        obtain ⟨W16, hW16⟩ : ∃ W, W = wr.alloc (.cells #[.int .i64 (rNm l a 0), .int .i64 (rNm l a 1), .int .i64 (rNm l a 2), .int .i64 (rNm l a 3), .string (evT l a 0).1, .int .i64 (rNm l a 4), .int .i64 (rNm l a 5), .slice none 0 0] 28) := ⟨_, rfl⟩
        obtain ⟨g16, hg16⟩ : ∃ g, wr.heap.size = g := ⟨_, rfl⟩
        rw [← hW16, hg16] at HV
        rw [← hW16, hg16]
        clear hW16 hg16 HX HQX q70 q71 q72 q73 q74 q75 q76 h0 h2 d0 d2 n4 n7 HT7
        go_wp2
        go_loopw [1, 17] (fun s1 s17 wq => ∃ (j : Nat) (acc : List S64) (p : Int) (A : Option Addr) (c : Nat), j ≤ nn ∧ s1 = .int .i64 p ∧ s17 = .int .i64 j ∧ Hid (rSs l (nn - j) acc p 0 = (ss, sb, se)) ∧ Aside0 (acc.length = j) ∧ Aside0 (VQ w wq g4 g7 g16 (part7 (rNm l a) 7) #[.int .i64 (rNm l a 0), .int .i64 (rNm l a 1), .int .i64 (rNm l a 2), .int .i64 (rNm l a 3), .string (evT l a 0).1, .int .i64 (rNm l a 4), .int .i64 (rNm l a 5), .slice A acc.length c] (.slice A acc.length c) acc)) (fun _ s17 _ => nn - (intOf s17).toNat)
        case atStart => exact ⟨0, [], _, none, 0, by omega, rfl, rfl, HSS, ⟨rfl⟩, HV⟩
        case round =>
          clear HV HSS
          obtain ⟨j, acc, p, A, c, hj, rfl, rfl, HSS, HAJ, HV⟩ := hrel
          have q40_ : wr.cell? ⟨g4, 0, none⟩ = some (.int .i64 0) := (blk_cell HV.out.q.b4 0).trans rfl
          have z40_ := blk_frozen HV.out.q.b4 0
          have q41_ : wr.cell? ⟨g4, 1, none⟩ = some (.int .i64 0) := (blk_cell HV.out.q.b4 1).trans rfl
          have z41_ := blk_frozen HV.out.q.b4 1
          have q42_ : wr.cell? ⟨g4, 2, none⟩ = some (.int .i64 0) := (blk_cell HV.out.q.b4 2).trans rfl
          have z42_ := blk_frozen HV.out.q.b4 2
          have q43_ : wr.cell? ⟨g4, 3, none⟩ = some (.int .i64 0) := (blk_cell HV.out.q.b4 3).trans rfl
          have z43_ := blk_frozen HV.out.q.b4 3
          have q44_ : wr.cell? ⟨g4, 4, none⟩ = some (.string ⟨#[]⟩) := (blk_cell HV.out.q.b4 4).trans rfl
          have z44_ := blk_frozen HV.out.q.b4 4
          have q45_ : wr.cell? ⟨g4, 5, none⟩ = some (.int .i64 0) := (blk_cell HV.out.q.b4 5).trans rfl
          have z45_ := blk_frozen HV.out.q.b4 5
          have q46_ : wr.cell? ⟨g4, 6, none⟩ = some (.int .i64 0) := (blk_cell HV.out.q.b4 6).trans rfl
          have z46_ := blk_frozen HV.out.q.b4 6
          have q47_ : wr.cell? ⟨g4, 7, none⟩ = some (.slice none 0 0) := (blk_cell HV.out.q.b4 7).trans rfl
          have z47_ := blk_frozen HV.out.q.b4 7
          have q76 : wr.cell? ⟨g7, 6, none⟩ = some (.int .i64 (nn : Int)) := by rw [← hnn]; exact (blk_cell HV.out.q.b7 6).trans (by rw [part7_full]; rfl)
          have q160 : wr.cell? ⟨g16, 0, none⟩ = some (.int .i64 (rNm l a 0)) := (blk_cell HV.out.b16 0).trans rfl
          have q161 : wr.cell? ⟨g16, 1, none⟩ = some (.int .i64 (rNm l a 1)) := (blk_cell HV.out.b16 1).trans rfl
          have q162 : wr.cell? ⟨g16, 2, none⟩ = some (.int .i64 (rNm l a 2)) := (blk_cell HV.out.b16 2).trans rfl
          have q163 : wr.cell? ⟨g16, 3, none⟩ = some (.int .i64 (rNm l a 3)) := (blk_cell HV.out.b16 3).trans rfl
          have q164 : wr.cell? ⟨g16, 4, none⟩ = some (.string (evT l a 0).1) := (blk_cell HV.out.b16 4).trans rfl
          have q165 : wr.cell? ⟨g16, 5, none⟩ = some (.int .i64 (rNm l a 4)) := (blk_cell HV.out.b16 5).trans rfl
          have q166 : wr.cell? ⟨g16, 6, none⟩ = some (.int .i64 (rNm l a 5)) := (blk_cell HV.out.b16 6).trans rfl
          have q167 : wr.cell? ⟨g16, 7, none⟩ = some (.slice A acc.length c) := (blk_cell HV.out.b16 7).trans rfl
          have n4 := blk_lt HV.out.q.b4
          have n7 := blk_lt HV.out.q.b7
          have n16 := blk_lt HV.out.b16
          have m1 : g4 ≠ g16 := by have := HV.out.q.l7; have := HV.out.l16; omega
          have m2 : g16 ≠ g4 := fun e => m1 e.symm
          by_cases hjn : j = nn
          case pos =>
            subst hjn
            obtain ⟨rfl, rfl, rfl⟩ : acc = ss ∧ p = sb ∧ 0 = se := by have h := HSS.out; rw [Nat.sub_self, rSs] at h; simpa using h
            obtain ⟨rfl, rfl, rfl⟩ := get_good HR.out HEV.out
            go_wp2
            have hb8 := put8 (v0 := .int .i64 (rNm l a 0)) (v1 := .int .i64 (rNm l a 1)) (v2 := .int .i64 (rNm l a 2)) (v3 := .int .i64 (rNm l a 3)) (v4 := .string (evT l a 0).1) (v5 := .int .i64 (rNm l a 4)) (v6 := .int .i64 (rNm l a 5)) (v7 := .slice A acc.length c) HV.out.q.b4
            refine bodyPost_ret (results_ctt rfl _ _ g4 28 #[.int .i64 (rNm l a 0), .int .i64 (rNm l a 1), .int .i64 (rNm l a 2), .int .i64 (rNm l a 3), .string (evT l a 0).1, .int .i64 (rNm l a 4), .int .i64 (rNm l a 5), .slice A acc.length c] (0, 0) _ rfl hb8 Try.underlying28 rfl (by kernel_rfl)) rfl ?_
            exact ⟨_, rfl, R8q HV.out.cr (Kd.R_ne HV.out.cr HV.out.q.b4 (by decide)), b8 HV.out.q.hb HV.out.q.l4⟩
          case neg =>
          have hji : (j : Int) < (nn : Int) := by omega
          obtain ⟨xs, n, el, hl⟩ : ∃ xs n e, listAt l p 11 = (xs, n, e) := ⟨_, _, _, rfl⟩
          have HLA := Aside0.mk hl
          clear hl
          by_cases hel : el = 0
          case neg =>
            have g0 := bne_t hel
            have hse : el = se := by
              have h := rSs_bad l hel (rS_bad l hel HLA.out) (nn - j - 1) acc
              rw [show nn - j - 1 + 1 = nn - j by omega, HSS.out] at h
              exact h.symm
            obtain ⟨rfl, rfl, rfl⟩ := get_bad HR.out hel (by rw [HEV.out]; exact hse.symm)
            clear hel hse
            go_wp2_with (go_at_call 39; go_loud (with_reducible refine (list_x l hs p n _ xs HLA.out _).mono ?_); go_loud (rintro e w5 ⟨v5, rfl, hR5, hb⟩; obtain ⟨A5, c5, e5_⟩ := Kd.R_slice hR5; subst e5_; have n_ := Aside0.mk (HV.out.below hb); have HR5 := Aside0.mk hR5; clear HV hb hR5; have HV := n_; clear n_; have n4 := blk_lt HV.out.q.b4; have q40_ : w5.cell? ⟨g4, 0, none⟩ = some (.int .i64 0) := (blk_cell HV.out.q.b4 0).trans rfl; have z40_ := blk_frozen HV.out.q.b4 0; have q41_ : w5.cell? ⟨g4, 1, none⟩ = some (.int .i64 0) := (blk_cell HV.out.q.b4 1).trans rfl; have z41_ := blk_frozen HV.out.q.b4 1; have q42_ : w5.cell? ⟨g4, 2, none⟩ = some (.int .i64 0) := (blk_cell HV.out.q.b4 2).trans rfl; have z42_ := blk_frozen HV.out.q.b4 2; have q43_ : w5.cell? ⟨g4, 3, none⟩ = some (.int .i64 0) := (blk_cell HV.out.q.b4 3).trans rfl; have z43_ := blk_frozen HV.out.q.b4 3; have q44_ : w5.cell? ⟨g4, 4, none⟩ = some (.string ⟨#[]⟩) := (blk_cell HV.out.q.b4 4).trans rfl; have z44_ := blk_frozen HV.out.q.b4 4; have q45_ : w5.cell? ⟨g4, 5, none⟩ = some (.int .i64 0) := (blk_cell HV.out.q.b4 5).trans rfl; have z45_ := blk_frozen HV.out.q.b4 5; have q46_ : w5.cell? ⟨g4, 6, none⟩ = some (.int .i64 0) := (blk_cell HV.out.q.b4 6).trans rfl; have z46_ := blk_frozen HV.out.q.b4 6; have q47_ : w5.cell? ⟨g4, 7, none⟩ = some (.slice none 0 0) := (blk_cell HV.out.q.b4 7).trans rfl; have z47_ := blk_frozen HV.out.q.b4 7))
            refine bodyPost_ret (results_ctt rfl _ _ g4 28 #[.int .i64 0, .int .i64 0, .int .i64 0, .int .i64 0, .string ⟨#[]⟩, .int .i64 0, .int .i64 0, .slice none 0 0] (0, 0) _ rfl (by with_reducible exact put8 HV.out.q.b4) Try.underlying28 rfl (by kernel_rfl)) rfl ?_; exact ⟨_, rfl, Kd.R_nil _ _ _ _ _, b8 HV.out.q.hb HV.out.q.l4⟩
          case pos =>
          subst hel
          by_cases hlen : xs.length = 11
          case neg =>
            have g1 : ((xs.length : Int) != 11) = true := bne_iff_ne.2 (by omega)
            have hse : 2 = se := by
              have h := rSs_bad l (show (2 : Int) ≠ 0 by decide) (rS_form l HLA.out hlen) (nn - j - 1) acc
              rw [show nn - j - 1 + 1 = nn - j by omega, HSS.out] at h
              exact h.symm
            obtain ⟨rfl, rfl, rfl⟩ := get_bad (er := 2) HR.out (by decide) (by rw [HEV.out]; exact hse.symm)
            have hlen2 : ¬ (xs.length : Int) = 11 := by omega
            clear hse hlen
            go_wp2_with (go_at_call 39; go_loud (with_reducible refine (list_x l hs p n _ xs HLA.out _).mono ?_); go_loud (rintro e w5 ⟨v5, rfl, hR5, hb⟩; obtain ⟨A5, c5, e5_⟩ := Kd.R_slice hR5; subst e5_; have n_ := Aside0.mk (HV.out.below hb); have HR5 := Aside0.mk hR5; clear HV hb hR5; have HV := n_; clear n_; have n4 := blk_lt HV.out.q.b4; have q40_ : w5.cell? ⟨g4, 0, none⟩ = some (.int .i64 0) := (blk_cell HV.out.q.b4 0).trans rfl; have z40_ := blk_frozen HV.out.q.b4 0; have q41_ : w5.cell? ⟨g4, 1, none⟩ = some (.int .i64 0) := (blk_cell HV.out.q.b4 1).trans rfl; have z41_ := blk_frozen HV.out.q.b4 1; have q42_ : w5.cell? ⟨g4, 2, none⟩ = some (.int .i64 0) := (blk_cell HV.out.q.b4 2).trans rfl; have z42_ := blk_frozen HV.out.q.b4 2; have q43_ : w5.cell? ⟨g4, 3, none⟩ = some (.int .i64 0) := (blk_cell HV.out.q.b4 3).trans rfl; have z43_ := blk_frozen HV.out.q.b4 3; have q44_ : w5.cell? ⟨g4, 4, none⟩ = some (.string ⟨#[]⟩) := (blk_cell HV.out.q.b4 4).trans rfl; have z44_ := blk_frozen HV.out.q.b4 4; have q45_ : w5.cell? ⟨g4, 5, none⟩ = some (.int .i64 0) := (blk_cell HV.out.q.b4 5).trans rfl; have z45_ := blk_frozen HV.out.q.b4 5; have q46_ : w5.cell? ⟨g4, 6, none⟩ = some (.int .i64 0) := (blk_cell HV.out.q.b4 6).trans rfl; have z46_ := blk_frozen HV.out.q.b4 6; have q47_ : w5.cell? ⟨g4, 7, none⟩ = some (.slice none 0 0) := (blk_cell HV.out.q.b4 7).trans rfl; have z47_ := blk_frozen HV.out.q.b4 7))
            refine bodyPost_ret (results_ctt rfl _ _ g4 28 #[.int .i64 0, .int .i64 0, .int .i64 0, .int .i64 0, .string ⟨#[]⟩, .int .i64 0, .int .i64 0, .slice none 0 0] (0, 0) _ rfl (by with_reducible exact put8 HV.out.q.b4) Try.underlying28 rfl (by kernel_rfl)) rfl ?_; exact ⟨_, rfl, Kd.R_nil _ _ _ _ _, b8 HV.out.q.hb HV.out.q.l4⟩
          case pos =>
            have HRS := Aside0.mk (rSs_ok l (rS_ok l HLA.out hlen) (nn - (j + 1)) acc)
            have HSM : Hid (rSs l (nn - (j + 1)) (acc ++ [stOf xs]) n 0 = (ss, sb, se)) := Lib.hid (by
              have h := HSS.out
              rw [show nn - j = nn - (j + 1) + 1 by omega, HRS.out] at h
              exact h)
            clear HSS HRS
            have hlen3 : (xs.length : Int) = 11 := by omega
            have hle : (acc.length + 1) * 88 ≤ 140737488355328 := by have := HAJ.out; omega
            have hj1 : j + 1 ≤ nn := by omega
            have hj2 : j + 1 ≤ 256 := by omega
            have HLN := Aside0.mk hlen
            go_upto_region 26 with (go_at_call 39; go_loud (with_reducible refine (list_x l hs p n _ xs HLA.out _).mono ?_); go_loud (rintro e w5 ⟨v5, rfl, hR5, hb⟩; obtain ⟨A5, c5, e5_⟩ := Kd.R_slice hR5; subst e5_; have n_ := Aside0.mk (HV.out.below hb); have HR5 := Aside0.mk hR5; clear HV hb hR5; have HV := n_; clear n_; have n16 := blk_lt HV.out.b16; have q167_ : w5.cell? ⟨g16, 7, none⟩ = some (.slice A acc.length c) := (blk_cell HV.out.b16 7).trans rfl; have z167_ := blk_frozen HV.out.b16 7))
            have hgo : ∃ gx, A5 = some ⟨gx, 0, none⟩ := R_ad HR5.out (by rw [HLN.out]; omega)
            obtain ⟨gx, rfl⟩ := hgo
            have hCx := Aside0.mk (Kd.R_reads' HR5.out).2.2
            have qx0 : w5.cell? ⟨gx, 0, none⟩ = some (.int .i64 (rd xs 0)) := int_at hCx.out 0 (by rw [HLN.out]; omega)
            have qx1 : w5.cell? ⟨gx, 1, none⟩ = some (.int .i64 (rd xs 1)) := int_at hCx.out 1 (by rw [HLN.out]; omega)
            have qx2 : w5.cell? ⟨gx, 2, none⟩ = some (.int .i64 (rd xs 2)) := int_at hCx.out 2 (by rw [HLN.out]; omega)
            have qx3 : w5.cell? ⟨gx, 3, none⟩ = some (.int .i64 (rd xs 3)) := int_at hCx.out 3 (by rw [HLN.out]; omega)
            have qx4 : w5.cell? ⟨gx, 4, none⟩ = some (.int .i64 (rd xs 4)) := int_at hCx.out 4 (by rw [HLN.out]; omega)
            have qx5 : w5.cell? ⟨gx, 5, none⟩ = some (.int .i64 (rd xs 5)) := int_at hCx.out 5 (by rw [HLN.out]; omega)
            have qx6 : w5.cell? ⟨gx, 6, none⟩ = some (.int .i64 (rd xs 6)) := int_at hCx.out 6 (by rw [HLN.out]; omega)
            have qx7 : w5.cell? ⟨gx, 7, none⟩ = some (.int .i64 (rd xs 7)) := int_at hCx.out 7 (by rw [HLN.out]; omega)
            have qx8 : w5.cell? ⟨gx, 8, none⟩ = some (.int .i64 (rd xs 8)) := int_at hCx.out 8 (by rw [HLN.out]; omega)
            have qx9 : w5.cell? ⟨gx, 9, none⟩ = some (.int .i64 (rd xs 9)) := int_at hCx.out 9 (by rw [HLN.out]; omega)
            have qx10 : w5.cell? ⟨gx, 10, none⟩ = some (.int .i64 (rd xs 10)) := int_at hCx.out 10 (by rw [HLN.out]; omega)
            have ngx := blk_lt_of HR5.out (by rw [HLN.out]; omega)
            have hnd_ := Aside0.mk HV.out.drew
            have qi0 : (0 < xs.length) = True := eq_true (by rw [HLN.out]; omega)
            have qi1 : (1 < xs.length) = True := eq_true (by rw [HLN.out]; omega)
            have qi2 : (2 < xs.length) = True := eq_true (by rw [HLN.out]; omega)
            have qi3 : (3 < xs.length) = True := eq_true (by rw [HLN.out]; omega)
            have qi4 : (4 < xs.length) = True := eq_true (by rw [HLN.out]; omega)
            have qi5 : (5 < xs.length) = True := eq_true (by rw [HLN.out]; omega)
            have qi6 : (6 < xs.length) = True := eq_true (by rw [HLN.out]; omega)
            have qi7 : (7 < xs.length) = True := eq_true (by rw [HLN.out]; omega)
            have qi8 : (8 < xs.length) = True := eq_true (by rw [HLN.out]; omega)
            have qi9 : (9 < xs.length) = True := eq_true (by rw [HLN.out]; omega)
            have qi10 : (10 < xs.length) = True := eq_true (by rw [HLN.out]; omega)
            clear HV
            have HV := hnd_
            clear hnd_
            refine start_ (n := 42) (S := fun w' => w'.cell? ⟨g16, 7, none⟩ = some (.slice A acc.length c) ∧ w'.cell? ⟨gx, 0, none⟩ = some (.int .i64 (rd xs 0)) ∧ w'.cell? ⟨gx, 1, none⟩ = some (.int .i64 (rd xs 1)) ∧ w'.cell? ⟨gx, 2, none⟩ = some (.int .i64 (rd xs 2)) ∧ w'.cell? ⟨gx, 3, none⟩ = some (.int .i64 (rd xs 3)) ∧ w'.cell? ⟨gx, 4, none⟩ = some (.int .i64 (rd xs 4)) ∧ w'.cell? ⟨gx, 5, none⟩ = some (.int .i64 (rd xs 5)) ∧ w'.cell? ⟨gx, 6, none⟩ = some (.int .i64 (rd xs 6)) ∧ w'.cell? ⟨gx, 7, none⟩ = some (.int .i64 (rd xs 7)) ∧ w'.cell? ⟨gx, 8, none⟩ = some (.int .i64 (rd xs 8)) ∧ w'.cell? ⟨gx, 9, none⟩ = some (.int .i64 (rd xs 9)) ∧ w'.cell? ⟨gx, 10, none⟩ = some (.int .i64 (rd xs 10))) (ds := [38, 41]) #[false, false, false, false, false, false, false, false, false, false, false, false, false, false, false, false, false, false, false, false, false, false, false, false, false, false, false, false, false, false, false, false, false, false, false, false, false, false, false, false, false, false] (by kernel_rfl) rfl rfl ⟨q167_, qx0, qx1, qx2, qx3, qx4, qx5, qx6, qx7, qx8, qx9, qx10⟩ (fun hHeld => ?_); refine with_tabW rg_tab rg_bits (fun HT_ HW_ => ?_)
            clear HR5 hCx q167_ z167_ n16 ngx qx0 qx1 qx2 qx3 qx4 qx5 qx6 qx7 qx8 qx9 qx10
            generalize w5.drew = w6 at HV hHeld ⊢
            refine pure_ (i := 0) (N := some 100) (v := ?_) (a' := ?_) #[true, false, false, false, false, false, false, false, false, false, false, false, false, false, false, false, false, false, false, false, false, false, false, false, false, false, false, false, false, false, false, false, false, false, false, false, false, false, false, false, false, false] rfl rfl (any_of HT_.out (by kernel_rfl)) (fun _ _ _ h => h) (Or.inl ⟨by rfl, ?_⟩) ?_ ?_
            rotate_left
            · intro w'
              go_simp
              with_reducible rfl
            rotate_left
            · simp only [Act.put, List.setIfInBounds_toArray, List.set_cons_zero, List.set_cons_succ, i64_w, i32_w]
              rfl
            refine pure_ (i := 1) (N := some 101) (v := ?_) (a' := ?_) #[true, true, false, false, false, false, false, false, false, false, false, false, false, false, false, false, false, false, false, false, false, false, false, false, false, false, false, false, false, false, false, false, false, false, false, false, false, false, false, false, false, false] rfl rfl (any_of HT_.out (by kernel_rfl)) (fun _ _ _ h => h) (Or.inl ⟨by rfl, ?_⟩) ?_ ?_
            rotate_left
            · intro w'
              go_simp
              with_reducible rfl
            rotate_left
            · simp only [Act.put, List.setIfInBounds_toArray, List.set_cons_zero, List.set_cons_succ, i64_w, i32_w]
              rfl
            refine take_ (i := 2) (N := some 102) (v := ?_) (a' := ?_) #[true, true, true, false, false, false, false, false, false, false, false, false, false, false, false, false, false, false, false, false, false, false, false, false, false, false, false, false, false, false, false, false, false, false, false, false, false, false, false, false, false, false] rfl rfl (take_ofW HT_.out HW_.out (by kernel_rfl)) (fun _ _ _ h => h) (Or.inl ⟨by rfl, ?_⟩) hHeld ?_ ?_
            rotate_left
            · rintro w' ⟨s0, s1, s2, s3, s4, s5, s6, s7, s8, s9, s10, s11⟩
              go_simp
              with_reducible rfl
            rotate_left
            · simp only [Act.put, List.setIfInBounds_toArray, List.set_cons_zero, List.set_cons_succ, i64_w, i32_w]
              rfl
            refine pure_ (i := 3) (N := some 103) (v := ?_) (a' := ?_) #[true, true, true, true, false, false, false, false, false, false, false, false, false, false, false, false, false, false, false, false, false, false, false, false, false, false, false, false, false, false, false, false, false, false, false, false, false, false, false, false, false, false] rfl rfl (any_of HT_.out (by kernel_rfl)) (fun _ _ _ h => h) (Or.inl ⟨by rfl, ?_⟩) ?_ ?_
            rotate_left
            · intro w'
              go_simp
              with_reducible rfl
            rotate_left
            · simp only [Act.put, List.setIfInBounds_toArray, List.set_cons_zero, List.set_cons_succ, i64_w, i32_w]
              rfl
            refine pure_ (i := 4) (N := some 104) (v := ?_) (a' := ?_) #[true, true, true, true, true, false, false, false, false, false, false, false, false, false, false, false, false, false, false, false, false, false, false, false, false, false, false, false, false, false, false, false, false, false, false, false, false, false, false, false, false, false] rfl rfl (any_of HT_.out (by kernel_rfl)) (fun _ _ _ h => h) (Or.inl ⟨by rfl, ?_⟩) ?_ ?_
            rotate_left
            · intro w'
              go_simp
              with_reducible rfl
            rotate_left
            · simp only [Act.put, List.setIfInBounds_toArray, List.set_cons_zero, List.set_cons_succ, i64_w, i32_w]
              rfl
            refine take_ (i := 5) (N := some 105) (v := ?_) (a' := ?_) #[true, true, true, true, true, true, false, false, false, false, false, false, false, false, false, false, false, false, false, false, false, false, false, false, false, false, false, false, false, false, false, false, false, false, false, false, false, false, false, false, false, false] rfl rfl (take_ofW HT_.out HW_.out (by kernel_rfl)) (fun _ _ _ h => h) (Or.inl ⟨by rfl, ?_⟩) hHeld ?_ ?_
            rotate_left
            · rintro w' ⟨s0, s1, s2, s3, s4, s5, s6, s7, s8, s9, s10, s11⟩
              go_simp
              with_reducible rfl
            rotate_left
            · simp only [Act.put, List.setIfInBounds_toArray, List.set_cons_zero, List.set_cons_succ, i64_w, i32_w]
              rfl
            refine pure_ (i := 6) (N := some 106) (v := ?_) (a' := ?_) #[true, true, true, true, true, true, true, false, false, false, false, false, false, false, false, false, false, false, false, false, false, false, false, false, false, false, false, false, false, false, false, false, false, false, false, false, false, false, false, false, false, false] rfl rfl (any_of HT_.out (by kernel_rfl)) (fun _ _ _ h => h) (Or.inl ⟨by rfl, ?_⟩) ?_ ?_
            rotate_left
            · intro w'
              go_simp
              with_reducible rfl
            rotate_left
            · simp only [Act.put, List.setIfInBounds_toArray, List.set_cons_zero, List.set_cons_succ, i64_w, i32_w]
              rfl
            refine pure_ (i := 7) (N := some 107) (v := ?_) (a' := ?_) #[true, true, true, true, true, true, true, true, false, false, false, false, false, false, false, false, false, false, false, false, false, false, false, false, false, false, false, false, false, false, false, false, false, false, false, false, false, false, false, false, false, false] rfl rfl (any_of HT_.out (by kernel_rfl)) (fun _ _ _ h => h) (Or.inl ⟨by rfl, ?_⟩) ?_ ?_
            rotate_left
            · intro w'
              go_simp
              with_reducible rfl
            rotate_left
            · simp only [Act.put, List.setIfInBounds_toArray, List.set_cons_zero, List.set_cons_succ, i64_w, i32_w]
              rfl
            refine take_ (i := 8) (N := some 108) (v := ?_) (a' := ?_) #[true, true, true, true, true, true, true, true, true, false, false, false, false, false, false, false, false, false, false, false, false, false, false, false, false, false, false, false, false, false, false, false, false, false, false, false, false, false, false, false, false, false] rfl rfl (take_ofW HT_.out HW_.out (by kernel_rfl)) (fun _ _ _ h => h) (Or.inl ⟨by rfl, ?_⟩) hHeld ?_ ?_
            rotate_left
            · rintro w' ⟨s0, s1, s2, s3, s4, s5, s6, s7, s8, s9, s10, s11⟩
              go_simp
              with_reducible rfl
            rotate_left
            · simp only [Act.put, List.setIfInBounds_toArray, List.set_cons_zero, List.set_cons_succ, i64_w, i32_w]
              rfl
            refine pure_ (i := 9) (N := some 109) (v := ?_) (a' := ?_) #[true, true, true, true, true, true, true, true, true, true, false, false, false, false, false, false, false, false, false, false, false, false, false, false, false, false, false, false, false, false, false, false, false, false, false, false, false, false, false, false, false, false] rfl rfl (any_of HT_.out (by kernel_rfl)) (fun _ _ _ h => h) (Or.inl ⟨by rfl, ?_⟩) ?_ ?_
            rotate_left
            · intro w'
              go_simp
              with_reducible rfl
            rotate_left
            · simp only [Act.put, List.setIfInBounds_toArray, List.set_cons_zero, List.set_cons_succ, i64_w, i32_w]
              rfl
            refine pure_ (i := 10) (N := some 110) (v := ?_) (a' := ?_) #[true, true, true, true, true, true, true, true, true, true, true, false, false, false, false, false, false, false, false, false, false, false, false, false, false, false, false, false, false, false, false, false, false, false, false, false, false, false, false, false, false, false] rfl rfl (any_of HT_.out (by kernel_rfl)) (fun _ _ _ h => h) (Or.inl ⟨by rfl, ?_⟩) ?_ ?_
            rotate_left
            · intro w'
              go_simp
              with_reducible rfl
            rotate_left
            · simp only [Act.put, List.setIfInBounds_toArray, List.set_cons_zero, List.set_cons_succ, i64_w, i32_w]
              rfl
            refine take_ (i := 11) (N := some 111) (v := ?_) (a' := ?_) #[true, true, true, true, true, true, true, true, true, true, true, true, false, false, false, false, false, false, false, false, false, false, false, false, false, false, false, false, false, false, false, false, false, false, false, false, false, false, false, false, false, false] rfl rfl (take_ofW HT_.out HW_.out (by kernel_rfl)) (fun _ _ _ h => h) (Or.inl ⟨by rfl, ?_⟩) hHeld ?_ ?_
            rotate_left
            · rintro w' ⟨s0, s1, s2, s3, s4, s5, s6, s7, s8, s9, s10, s11⟩
              go_simp
              with_reducible rfl
            rotate_left
            · simp only [Act.put, List.setIfInBounds_toArray, List.set_cons_zero, List.set_cons_succ, i64_w, i32_w]
              rfl
            refine pure_ (i := 12) (N := some 112) (v := ?_) (a' := ?_) #[true, true, true, true, true, true, true, true, true, true, true, true, true, false, false, false, false, false, false, false, false, false, false, false, false, false, false, false, false, false, false, false, false, false, false, false, false, false, false, false, false, false] rfl rfl (any_of HT_.out (by kernel_rfl)) (fun _ _ _ h => h) (Or.inl ⟨by rfl, ?_⟩) ?_ ?_
            rotate_left
            · intro w'
              go_simp
              with_reducible rfl
            rotate_left
            · simp only [Act.put, List.setIfInBounds_toArray, List.set_cons_zero, List.set_cons_succ, i64_w, i32_w]
              rfl
            refine pure_ (i := 13) (N := some 113) (v := ?_) (a' := ?_) #[true, true, true, true, true, true, true, true, true, true, true, true, true, true, false, false, false, false, false, false, false, false, false, false, false, false, false, false, false, false, false, false, false, false, false, false, false, false, false, false, false, false] rfl rfl (any_of HT_.out (by kernel_rfl)) (fun _ _ _ h => h) (Or.inl ⟨by rfl, ?_⟩) ?_ ?_
            rotate_left
            · intro w'
              go_simp
              with_reducible rfl
            rotate_left
            · simp only [Act.put, List.setIfInBounds_toArray, List.set_cons_zero, List.set_cons_succ, i64_w, i32_w]
              rfl
            refine take_ (i := 14) (N := some 114) (v := ?_) (a' := ?_) #[true, true, true, true, true, true, true, true, true, true, true, true, true, true, true, false, false, false, false, false, false, false, false, false, false, false, false, false, false, false, false, false, false, false, false, false, false, false, false, false, false, false] rfl rfl (take_ofW HT_.out HW_.out (by kernel_rfl)) (fun _ _ _ h => h) (Or.inl ⟨by rfl, ?_⟩) hHeld ?_ ?_
            rotate_left
            · rintro w' ⟨s0, s1, s2, s3, s4, s5, s6, s7, s8, s9, s10, s11⟩
              go_simp
              with_reducible rfl
            rotate_left
            · simp only [Act.put, List.setIfInBounds_toArray, List.set_cons_zero, List.set_cons_succ, i64_w, i32_w]
              rfl
            refine pure_ (i := 15) (N := some 115) (v := ?_) (a' := ?_) #[true, true, true, true, true, true, true, true, true, true, true, true, true, true, true, true, false, false, false, false, false, false, false, false, false, false, false, false, false, false, false, false, false, false, false, false, false, false, false, false, false, false] rfl rfl (any_of HT_.out (by kernel_rfl)) (fun _ _ _ h => h) (Or.inl ⟨by rfl, ?_⟩) ?_ ?_
            rotate_left
            · intro w'
              go_simp
              with_reducible rfl
            rotate_left
            · simp only [Act.put, List.setIfInBounds_toArray, List.set_cons_zero, List.set_cons_succ, i64_w, i32_w]
              rfl
            refine pure_ (i := 16) (N := some 116) (v := ?_) (a' := ?_) #[true, true, true, true, true, true, true, true, true, true, true, true, true, true, true, true, true, false, false, false, false, false, false, false, false, false, false, false, false, false, false, false, false, false, false, false, false, false, false, false, false, false] rfl rfl (any_of HT_.out (by kernel_rfl)) (fun _ _ _ h => h) (Or.inl ⟨by rfl, ?_⟩) ?_ ?_
            rotate_left
            · intro w'
              go_simp
              with_reducible rfl
            rotate_left
            · simp only [Act.put, List.setIfInBounds_toArray, List.set_cons_zero, List.set_cons_succ, i64_w, i32_w]
              rfl
            refine take_ (i := 17) (N := some 117) (v := ?_) (a' := ?_) #[true, true, true, true, true, true, true, true, true, true, true, true, true, true, true, true, true, true, false, false, false, false, false, false, false, false, false, false, false, false, false, false, false, false, false, false, false, false, false, false, false, false] rfl rfl (take_ofW HT_.out HW_.out (by kernel_rfl)) (fun _ _ _ h => h) (Or.inl ⟨by rfl, ?_⟩) hHeld ?_ ?_
            rotate_left
            · rintro w' ⟨s0, s1, s2, s3, s4, s5, s6, s7, s8, s9, s10, s11⟩
              go_simp
              with_reducible rfl
            rotate_left
            · simp only [Act.put, List.setIfInBounds_toArray, List.set_cons_zero, List.set_cons_succ, i64_w, i32_w]
              rfl
            refine pure_ (i := 18) (N := some 118) (v := ?_) (a' := ?_) #[true, true, true, true, true, true, true, true, true, true, true, true, true, true, true, true, true, true, true, false, false, false, false, false, false, false, false, false, false, false, false, false, false, false, false, false, false, false, false, false, false, false] rfl rfl (any_of HT_.out (by kernel_rfl)) (fun _ _ _ h => h) (Or.inl ⟨by rfl, ?_⟩) ?_ ?_
            rotate_left
            · intro w'
              go_simp
              with_reducible rfl
            rotate_left
            · simp only [Act.put, List.setIfInBounds_toArray, List.set_cons_zero, List.set_cons_succ, i64_w, i32_w]
              rfl
            refine pure_ (i := 19) (N := some 119) (v := ?_) (a' := ?_) #[true, true, true, true, true, true, true, true, true, true, true, true, true, true, true, true, true, true, true, true, false, false, false, false, false, false, false, false, false, false, false, false, false, false, false, false, false, false, false, false, false, false] rfl rfl (any_of HT_.out (by kernel_rfl)) (fun _ _ _ h => h) (Or.inl ⟨by rfl, ?_⟩) ?_ ?_
            rotate_left
            · intro w'
              go_simp
              with_reducible rfl
            rotate_left
            · simp only [Act.put, List.setIfInBounds_toArray, List.set_cons_zero, List.set_cons_succ, i64_w, i32_w]
              rfl
            refine take_ (i := 20) (N := some 120) (v := ?_) (a' := ?_) #[true, true, true, true, true, true, true, true, true, true, true, true, true, true, true, true, true, true, true, true, true, false, false, false, false, false, false, false, false, false, false, false, false, false, false, false, false, false, false, false, false, false] rfl rfl (take_ofW HT_.out HW_.out (by kernel_rfl)) (fun _ _ _ h => h) (Or.inl ⟨by rfl, ?_⟩) hHeld ?_ ?_
            rotate_left
            · rintro w' ⟨s0, s1, s2, s3, s4, s5, s6, s7, s8, s9, s10, s11⟩
              go_simp
              with_reducible rfl
            rotate_left
            · simp only [Act.put, List.setIfInBounds_toArray, List.set_cons_zero, List.set_cons_succ, i64_w, i32_w]
              rfl
            refine pure_ (i := 21) (N := some 121) (v := ?_) (a' := ?_) #[true, true, true, true, true, true, true, true, true, true, true, true, true, true, true, true, true, true, true, true, true, true, false, false, false, false, false, false, false, false, false, false, false, false, false, false, false, false, false, false, false, false] rfl rfl (any_of HT_.out (by kernel_rfl)) (fun _ _ _ h => h) (Or.inl ⟨by rfl, ?_⟩) ?_ ?_
            rotate_left
            · intro w'
              go_simp
              with_reducible rfl
            rotate_left
            · simp only [Act.put, List.setIfInBounds_toArray, List.set_cons_zero, List.set_cons_succ, i64_w, i32_w]
              rfl
            refine pure_ (i := 22) (N := some 122) (v := ?_) (a' := ?_) #[true, true, true, true, true, true, true, true, true, true, true, true, true, true, true, true, true, true, true, true, true, true, true, false, false, false, false, false, false, false, false, false, false, false, false, false, false, false, false, false, false, false] rfl rfl (any_of HT_.out (by kernel_rfl)) (fun _ _ _ h => h) (Or.inl ⟨by rfl, ?_⟩) ?_ ?_
            rotate_left
            · intro w'
              go_simp
              with_reducible rfl
            rotate_left
            · simp only [Act.put, List.setIfInBounds_toArray, List.set_cons_zero, List.set_cons_succ, i64_w, i32_w]
              rfl
            refine take_ (i := 23) (N := some 123) (v := ?_) (a' := ?_) #[true, true, true, true, true, true, true, true, true, true, true, true, true, true, true, true, true, true, true, true, true, true, true, true, false, false, false, false, false, false, false, false, false, false, false, false, false, false, false, false, false, false] rfl rfl (take_ofW HT_.out HW_.out (by kernel_rfl)) (fun _ _ _ h => h) (Or.inl ⟨by rfl, ?_⟩) hHeld ?_ ?_
            rotate_left
            · rintro w' ⟨s0, s1, s2, s3, s4, s5, s6, s7, s8, s9, s10, s11⟩
              go_simp
              with_reducible rfl
            rotate_left
            · simp only [Act.put, List.setIfInBounds_toArray, List.set_cons_zero, List.set_cons_succ, i64_w, i32_w]
              rfl
            refine pure_ (i := 24) (N := some 124) (v := ?_) (a' := ?_) #[true, true, true, true, true, true, true, true, true, true, true, true, true, true, true, true, true, true, true, true, true, true, true, true, true, false, false, false, false, false, false, false, false, false, false, false, false, false, false, false, false, false] rfl rfl (any_of HT_.out (by kernel_rfl)) (fun _ _ _ h => h) (Or.inl ⟨by rfl, ?_⟩) ?_ ?_
            rotate_left
            · intro w'
              go_simp
              with_reducible rfl
            rotate_left
            · simp only [Act.put, List.setIfInBounds_toArray, List.set_cons_zero, List.set_cons_succ, i64_w, i32_w]
              rfl
            refine pure_ (i := 25) (N := some 125) (v := ?_) (a' := ?_) #[true, true, true, true, true, true, true, true, true, true, true, true, true, true, true, true, true, true, true, true, true, true, true, true, true, true, false, false, false, false, false, false, false, false, false, false, false, false, false, false, false, false] rfl rfl (any_of HT_.out (by kernel_rfl)) (fun _ _ _ h => h) (Or.inl ⟨by rfl, ?_⟩) ?_ ?_
            rotate_left
            · intro w'
              go_simp
              with_reducible rfl
            rotate_left
            · simp only [Act.put, List.setIfInBounds_toArray, List.set_cons_zero, List.set_cons_succ, i64_w, i32_w]
              rfl
            refine take_ (i := 26) (N := some 126) (v := ?_) (a' := ?_) #[true, true, true, true, true, true, true, true, true, true, true, true, true, true, true, true, true, true, true, true, true, true, true, true, true, true, true, false, false, false, false, false, false, false, false, false, false, false, false, false, false, false] rfl rfl (take_ofW HT_.out HW_.out (by kernel_rfl)) (fun _ _ _ h => h) (Or.inl ⟨by rfl, ?_⟩) hHeld ?_ ?_
            rotate_left
            · rintro w' ⟨s0, s1, s2, s3, s4, s5, s6, s7, s8, s9, s10, s11⟩
              go_simp
              with_reducible rfl
            rotate_left
            · simp only [Act.put, List.setIfInBounds_toArray, List.set_cons_zero, List.set_cons_succ, i64_w, i32_w]
              rfl
            refine pure_ (i := 27) (N := some 127) (v := ?_) (a' := ?_) #[true, true, true, true, true, true, true, true, true, true, true, true, true, true, true, true, true, true, true, true, true, true, true, true, true, true, true, true, false, false, false, false, false, false, false, false, false, false, false, false, false, false] rfl rfl (any_of HT_.out (by kernel_rfl)) (fun _ _ _ h => h) (Or.inl ⟨by rfl, ?_⟩) ?_ ?_
            rotate_left
            · intro w'
              go_simp
              with_reducible rfl
            rotate_left
            · simp only [Act.put, List.setIfInBounds_toArray, List.set_cons_zero, List.set_cons_succ, i64_w, i32_w]
              rfl
            refine pure_ (i := 28) (N := some 128) (v := ?_) (a' := ?_) #[true, true, true, true, true, true, true, true, true, true, true, true, true, true, true, true, true, true, true, true, true, true, true, true, true, true, true, true, true, false, false, false, false, false, false, false, false, false, false, false, false, false] rfl rfl (any_of HT_.out (by kernel_rfl)) (fun _ _ _ h => h) (Or.inl ⟨by rfl, ?_⟩) ?_ ?_
            rotate_left
            · intro w'
              go_simp
              with_reducible rfl
            rotate_left
            · simp only [Act.put, List.setIfInBounds_toArray, List.set_cons_zero, List.set_cons_succ, i64_w, i32_w]
              rfl
            refine take_ (i := 29) (N := some 129) (v := ?_) (a' := ?_) #[true, true, true, true, true, true, true, true, true, true, true, true, true, true, true, true, true, true, true, true, true, true, true, true, true, true, true, true, true, true, false, false, false, false, false, false, false, false, false, false, false, false] rfl rfl (take_ofW HT_.out HW_.out (by kernel_rfl)) (fun _ _ _ h => h) (Or.inl ⟨by rfl, ?_⟩) hHeld ?_ ?_
            rotate_left
            · rintro w' ⟨s0, s1, s2, s3, s4, s5, s6, s7, s8, s9, s10, s11⟩
              go_simp
              with_reducible rfl
            rotate_left
            · simp only [Act.put, List.setIfInBounds_toArray, List.set_cons_zero, List.set_cons_succ, i64_w, i32_w]
              rfl
            refine pure_ (i := 30) (N := some 130) (v := ?_) (a' := ?_) #[true, true, true, true, true, true, true, true, true, true, true, true, true, true, true, true, true, true, true, true, true, true, true, true, true, true, true, true, true, true, true, false, false, false, false, false, false, false, false, false, false, false] rfl rfl (any_of HT_.out (by kernel_rfl)) (fun _ _ _ h => h) (Or.inl ⟨by rfl, ?_⟩) ?_ ?_
            rotate_left
            · intro w'
              go_simp
              with_reducible rfl
            rotate_left
            · simp only [Act.put, List.setIfInBounds_toArray, List.set_cons_zero, List.set_cons_succ, i64_w, i32_w]
              rfl
            refine pure_ (i := 31) (N := some 131) (v := ?_) (a' := ?_) #[true, true, true, true, true, true, true, true, true, true, true, true, true, true, true, true, true, true, true, true, true, true, true, true, true, true, true, true, true, true, true, true, false, false, false, false, false, false, false, false, false, false] rfl rfl (any_of HT_.out (by kernel_rfl)) (fun _ _ _ h => h) (Or.inl ⟨by rfl, ?_⟩) ?_ ?_
            rotate_left
            · intro w'
              go_simp
              with_reducible rfl
            rotate_left
            · simp only [Act.put, List.setIfInBounds_toArray, List.set_cons_zero, List.set_cons_succ, i64_w, i32_w]
              rfl
            refine take_ (i := 32) (N := some 132) (v := ?_) (a' := ?_) #[true, true, true, true, true, true, true, true, true, true, true, true, true, true, true, true, true, true, true, true, true, true, true, true, true, true, true, true, true, true, true, true, true, false, false, false, false, false, false, false, false, false] rfl rfl (take_ofW HT_.out HW_.out (by kernel_rfl)) (fun _ _ _ h => h) (Or.inl ⟨by rfl, ?_⟩) hHeld ?_ ?_
            rotate_left
            · rintro w' ⟨s0, s1, s2, s3, s4, s5, s6, s7, s8, s9, s10, s11⟩
              go_simp
              with_reducible rfl
            rotate_left
            · simp only [Act.put, List.setIfInBounds_toArray, List.set_cons_zero, List.set_cons_succ, i64_w, i32_w]
              rfl
            refine pure_ (i := 33) (N := some 133) (v := ?_) (a' := ?_) #[true, true, true, true, true, true, true, true, true, true, true, true, true, true, true, true, true, true, true, true, true, true, true, true, true, true, true, true, true, true, true, true, true, true, false, false, false, false, false, false, false, false] rfl rfl (any_of HT_.out (by kernel_rfl)) (fun _ _ _ h => h) (Or.inl ⟨by rfl, ?_⟩) ?_ ?_
            rotate_left
            · intro w'
              go_simp
              with_reducible rfl
            rotate_left
            · simp only [Act.put, List.setIfInBounds_toArray, List.set_cons_zero, List.set_cons_succ, i64_w, i32_w]
              rfl
            refine pure_ (i := 34) (N := some 134) (v := ?_) (a' := ?_) #[true, true, true, true, true, true, true, true, true, true, true, true, true, true, true, true, true, true, true, true, true, true, true, true, true, true, true, true, true, true, true, true, true, true, true, false, false, false, false, false, false, false] rfl rfl (any_of HT_.out (by kernel_rfl)) (fun _ _ _ h => h) (Or.inl ⟨by rfl, ?_⟩) ?_ ?_
            rotate_left
            · intro w'
              go_simp
              with_reducible rfl
            rotate_left
            · simp only [Act.put, List.setIfInBounds_toArray, List.set_cons_zero, List.set_cons_succ, i64_w, i32_w]
              rfl
            refine take_ (i := 35) (N := some 135) (v := ?_) (a' := ?_) #[true, true, true, true, true, true, true, true, true, true, true, true, true, true, true, true, true, true, true, true, true, true, true, true, true, true, true, true, true, true, true, true, true, true, true, true, false, false, false, false, false, false] rfl rfl (take_ofW HT_.out HW_.out (by kernel_rfl)) (fun _ _ _ h => h) (Or.inl ⟨by rfl, ?_⟩) hHeld ?_ ?_
            rotate_left
            · rintro w' ⟨s0, s1, s2, s3, s4, s5, s6, s7, s8, s9, s10, s11⟩
              go_simp
              with_reducible rfl
            rotate_left
            · simp only [Act.put, List.setIfInBounds_toArray, List.set_cons_zero, List.set_cons_succ, i64_w, i32_w]
              rfl
            refine pure_ (i := 36) (N := some 136) (v := ?_) (a' := ?_) #[true, true, true, true, true, true, true, true, true, true, true, true, true, true, true, true, true, true, true, true, true, true, true, true, true, true, true, true, true, true, true, true, true, true, true, true, true, false, false, false, false, false] rfl rfl (any_of HT_.out (by kernel_rfl)) (fun _ _ _ h => h) (Or.inl ⟨by rfl, ?_⟩) ?_ ?_
            rotate_left
            · intro w'
              go_simp
              with_reducible rfl
            rotate_left
            · simp only [Act.put, List.setIfInBounds_toArray, List.set_cons_zero, List.set_cons_succ, i64_w, i32_w]
              rfl
            refine one_ (i := 37) (N := some 137) #[true, true, true, true, true, true, true, true, true, true, true, true, true, true, true, true, true, true, true, true, true, true, true, true, true, true, true, true, true, true, true, true, true, true, true, true, true, true, false, false, false, false] rfl rfl (one_of HT_.out (by kernel_rfl)) (by decide) (fun K hK => ?_)
            refine event_step (v := .slice (some ⟨w6.heap.size, 0, none⟩) 1 1) (w1 := w6.alloc (.cells #[.int .i64 (rd xs 0), .int .i64 (rd xs 1), .int .i64 (rd xs 2), .int .i64 (rd xs 3), .int .i64 (rd xs 4), .int .i64 (rd xs 5), .int .i64 (rd xs 6), .int .i64 (rd xs 7), .int .i64 (rd xs 8), .int .i64 (rd xs 9), .int .i64 (rd xs 10)] 64)) (by rfl) ?_ ?_
            · go_simp
            refine hK.out _ _ ⟨cell_alc hHeld.1, cell_alc hHeld.2.1, cell_alc hHeld.2.2.1, cell_alc hHeld.2.2.2.1, cell_alc hHeld.2.2.2.2.1, cell_alc hHeld.2.2.2.2.2.1, cell_alc hHeld.2.2.2.2.2.2.1, cell_alc hHeld.2.2.2.2.2.2.2.1, cell_alc hHeld.2.2.2.2.2.2.2.2.1, cell_alc hHeld.2.2.2.2.2.2.2.2.2.1, cell_alc hHeld.2.2.2.2.2.2.2.2.2.2.1, cell_alc hHeld.2.2.2.2.2.2.2.2.2.2.2⟩ (fun hHeld => ?_)
            clear hK K
            refine norm_ (a' := ?_) ?_ ?_
            rotate_left
            · show Act.put _ (some 137) _ = _
              simp only [Act.put, List.setIfInBounds_toArray, List.set_cons_zero, List.set_cons_succ, i64_w, i32_w]
              rfl
            refine last_ (i := 38) (N := some 138) #[true, true, true, true, true, true, true, true, true, true, true, true, true, true, true, true, true, true, true, true, true, true, true, true, true, true, true, true, true, true, true, true, true, true, true, true, true, true, true, false, false, false] rfl rfl (one_of HT_.out (by kernel_rfl)) (by decide) (fun K hK => ?_)
            refine Kd.R_append_step k64 (w0 := w6) (W := w6) w.heap.size (by rfl) (.tmp 102) (.tmp 137) 24 64 (.agg #[.int .i64 0, .int .i64 0, .int .i64 0, .int .i64 0, .int .i64 0, .int .i64 0, .int .i64 0, .int .i64 0, .int .i64 0, .int .i64 0, .int .i64 0]) 88 rfl Try.underlying24 Sev.info64 rfl (by decide) (by omega) (.slice A acc.length c) acc (stOf xs) [.int .i64 (rd xs 0), .int .i64 (rd xs 1), .int .i64 (rd xs 2), .int .i64 (rd xs 3), .int .i64 (rd xs 4), .int .i64 (rd xs 5), .int .i64 (rd xs 6), .int .i64 (rd xs 7), .int .i64 (rd xs 8), .int .i64 (rd xs 9), .int .i64 (rd xs 10)] (fun _ => True) (fun _ => False) (by rfl) (by rfl) (k64_mkM _ _ _ _) (fun _ h => h.elim) (fun _ _ => trivial) HV.out.cr (Below.refl _ _) HV.out.q.hb.size hle ?_
            intro v1 w2_ ho hb hg hat
            obtain ⟨A2, c2, e2_⟩ := Kd.R_slice ho
            rw [List.length_append, List.length_singleton] at e2_
            subst e2_
            have n_ := Aside0.mk (VQ.app HV.out ho hg)
            clear HV ho hb hg hat
            have HV := n_
            clear n_
            have q167_ : w2_.cell? ⟨g16, 7, none⟩ = some (.slice A acc.length c) := (blk_cell HV.out.b16 7).trans rfl
            have z167_ := blk_frozen HV.out.b16 7
            have n16 := blk_lt HV.out.b16
            refine hK.out _ _ ?_
            clear hK K
            refine norm_ (a' := ?_) ?_ ?_
            rotate_left
            · show Act.put _ (some 138) _ = _
              simp only [Act.put, List.setIfInBounds_toArray, List.set_cons_zero, List.set_cons_succ, i64_w, i32_w]
              rfl
            refine pure_ (i := 39) (N := some 139) (v := ?_) (a' := ?_) #[true, true, true, true, true, true, true, true, true, true, true, true, true, true, true, true, true, true, true, true, true, true, true, true, true, true, true, true, true, true, true, true, true, true, true, true, true, true, true, true, false, false] rfl rfl (any_of HT_.out (by kernel_rfl)) (fun _ _ _ h => h) (Or.inl ⟨by rfl, ?_⟩) ?_ ?_
            rotate_left
            · intro w'
              go_simp
              with_reducible rfl
            rotate_left
            · simp only [Act.put, List.setIfInBounds_toArray, List.set_cons_zero, List.set_cons_succ, i64_w, i32_w]
              rfl
            refine pure_ (i := 40) (N := some 140) (v := ?_) (a' := ?_) #[true, true, true, true, true, true, true, true, true, true, true, true, true, true, true, true, true, true, true, true, true, true, true, true, true, true, true, true, true, true, true, true, true, true, true, true, true, true, true, true, true, false] rfl rfl (any_of HT_.out (by kernel_rfl)) (fun _ _ _ h => h) (Or.inl ⟨by rfl, ?_⟩) ?_ ?_
            rotate_left
            · intro w'
              go_simp
              with_reducible rfl
            rotate_left
            · simp only [Act.put, List.setIfInBounds_toArray, List.set_cons_zero, List.set_cons_succ, i64_w, i32_w]
              rfl
            refine last_ (i := 41) (N := none) #[true, true, true, true, true, true, true, true, true, true, true, true, true, true, true, true, true, true, true, true, true, true, true, true, true, true, true, true, true, true, true, true, true, true, true, true, true, true, true, true, true, true] rfl rfl (one_of HT_.out (by kernel_rfl)) (by decide) (fun K hK => ?_)
            refine skip_ (w1 := ?_) (by rfl) rfl ?_ ?_
            rotate_left
            · go_simp
              rfl
            refine hK.out _ _ ?_
            clear hK K
            refine done_ (done_of HT_.out (by kernel_rfl)) ?_
            have HV3 : Aside0 (VQ w (w2_.setCell ⟨g16, 7, none⟩ (.slice A2 (acc.length + 1) c2)) g4 g7 g16 (part7 (rNm l a) 7) #[.int .i64 (rNm l a 0), .int .i64 (rNm l a 1), .int .i64 (rNm l a 2), .int .i64 (rNm l a 3), .string (evT l a 0).1, .int .i64 (rNm l a 4), .int .i64 (rNm l a 5), .slice A2 (acc.length + 1) c2] (.slice A2 (acc.length + 1) c2) (acc ++ [stOf xs])) := ⟨by
              have h := HV.out.set 7 (.slice A2 (acc.length + 1) c2)
              exact h⟩
            clear HV
            have HLA1 : Aside0 ((acc ++ [stOf xs]).length = j + 1) := ⟨by rw [List.length_append, List.length_singleton, HAJ.out]⟩
            have HV4 : Aside0 (VQ w (w2_.setCell ⟨g16, 7, none⟩ (.slice A2 (acc.length + 1) c2)) g4 g7 g16 (part7 (rNm l a) 7) #[.int .i64 (rNm l a 0), .int .i64 (rNm l a 1), .int .i64 (rNm l a 2), .int .i64 (rNm l a 3), .string (evT l a 0).1, .int .i64 (rNm l a 4), .int .i64 (rNm l a 5), .slice A2 (acc ++ [stOf xs]).length c2] (.slice A2 (acc ++ [stOf xs]).length c2) (acc ++ [stOf xs])) := ⟨by
              have h := HV3.out
              generalize w2_.setCell ⟨g16, 7, none⟩ (.slice A2 (acc.length + 1) c2) = ws at h ⊢
              rw [show acc.length + 1 = (acc ++ [stOf xs]).length by simp] at h
              exact h⟩
            go_wp2_with fail
            go_roundw
            case rel => first | exact ⟨j + 1, acc ++ [stOf xs], n, A2, c2, hj1, rfl, by go_num, HSM, HLA1, HV4⟩ | ((repeat apply Exists.intro); exact ⟨⟨j + 1, acc ++ [stOf xs], n, A2, c2, hj1, rfl, by go_num, HSM, HLA1, HV4⟩, rfl⟩)
            case measure => simp only [intOf]; omega
    case neg =>
    have hi6 : i < 7 := by omega
    have hii : (i : Int) < 7 := by omega
    have hcn : wr.cell? ⟨g7, i, none⟩ = some (.int .i64 0) := (blk_cell HX.out.b7 i).trans (part7_at _ i hi6)
    have hfn := blk_frozen HX.out.b7 i
    have hi1 : i + 1 ≤ 7 := by omega
    by_cases h4 : i = 4
    case pos =>
      have hq4 : (i : Int) = 4 := by omega
      subst h4
      obtain ⟨t, n, et, htx⟩ : ∃ t n e, textAt l (rP l a 4) 16384 = (t, n, e) := ⟨_, _, _, rfl⟩
      have HTX := Aside0.mk htx
      clear htx
      by_cases het : et = 0
      case neg =>
        have g0 := bne_t het
        obtain ⟨rfl, rfl, rfl⟩ := get_bad HR.out het (tx_bad l a HOK.out het HTX.out)
        clear het
        go_wp2_with (go_at_call 38; go_loud (with_reducible refine (text_x l hs (rP l a 4) n _ t HTX.out _).mono ?_); go_loud (rintro e w2 ⟨rfl, hb⟩; have n_ := Aside0.mk (HX.out.below hb); clear HX hb; have HX := n_; clear n_; have q40_ : w2.cell? ⟨g4, 0, none⟩ = some (.int .i64 0) := (blk_cell HX.out.b4 0).trans rfl; have z40_ := blk_frozen HX.out.b4 0; have q41_ : w2.cell? ⟨g4, 1, none⟩ = some (.int .i64 0) := (blk_cell HX.out.b4 1).trans rfl; have z41_ := blk_frozen HX.out.b4 1; have q42_ : w2.cell? ⟨g4, 2, none⟩ = some (.int .i64 0) := (blk_cell HX.out.b4 2).trans rfl; have z42_ := blk_frozen HX.out.b4 2; have q43_ : w2.cell? ⟨g4, 3, none⟩ = some (.int .i64 0) := (blk_cell HX.out.b4 3).trans rfl; have z43_ := blk_frozen HX.out.b4 3; have q44_ : w2.cell? ⟨g4, 4, none⟩ = some (.string ⟨#[]⟩) := (blk_cell HX.out.b4 4).trans rfl; have z44_ := blk_frozen HX.out.b4 4; have q45_ : w2.cell? ⟨g4, 5, none⟩ = some (.int .i64 0) := (blk_cell HX.out.b4 5).trans rfl; have z45_ := blk_frozen HX.out.b4 5; have q46_ : w2.cell? ⟨g4, 6, none⟩ = some (.int .i64 0) := (blk_cell HX.out.b4 6).trans rfl; have z46_ := blk_frozen HX.out.b4 6; have q47_ : w2.cell? ⟨g4, 7, none⟩ = some (.slice none 0 0) := (blk_cell HX.out.b4 7).trans rfl; have z47_ := blk_frozen HX.out.b4 7; have n4 := blk_lt HX.out.b4; have n7 := blk_lt HX.out.b7; have hcn_ : w2.cell? ⟨g7, 4, none⟩ = some (.int .i64 0) := (blk_cell HX.out.b7 4).trans (part7_at _ 4 (by omega)); have hfn_ := blk_frozen HX.out.b7 4))
        refine bodyPost_ret (results_ctt rfl _ _ g4 28 #[.int .i64 0, .int .i64 0, .int .i64 0, .int .i64 0, .string ⟨#[]⟩, .int .i64 0, .int .i64 0, .slice none 0 0] (0, 0) _ rfl (by with_reducible exact put8 HX.out.b4) Try.underlying28 rfl (by kernel_rfl)) rfl ?_; exact ⟨_, rfl, Kd.R_nil _ _ _ _ _, b8 HX.out.hb HX.out.l4⟩
      case pos =>
      subst het
      have HT := Aside0.mk (tx_ok l a HOK.out HTX.out)
      obtain ⟨y, m, ey, hy⟩ : ∃ x m e, intAt (B l) n = (x, m, e) := ⟨_, _, _, rfl⟩
      have HY := Aside0.mk hy
      have HQ := Aside0.mk (rQ_4 l a HT.out)
      clear hy
      by_cases hey : ey = 0
      case neg =>
        have g0 := bne_t hey
        obtain ⟨rfl, rfl, rfl⟩ := get_bad HR.out hey (hi_bad l a (by omega) (by omega) HOK.out (by rw [HT.out]) hey (by rw [HQ.out]; exact HY.out))
        clear hey
        go_wp2_with (first | (go_at_call 38; go_loud (with_reducible refine (text_x l hs (rP l a 4) n _ t HTX.out _).mono ?_); go_loud (rintro e w2 ⟨rfl, hb⟩; have n_ := Aside0.mk (HX.out.below hb); clear HX hb; have HX := n_; clear n_; have q40_ : w2.cell? ⟨g4, 0, none⟩ = some (.int .i64 0) := (blk_cell HX.out.b4 0).trans rfl; have z40_ := blk_frozen HX.out.b4 0; have q41_ : w2.cell? ⟨g4, 1, none⟩ = some (.int .i64 0) := (blk_cell HX.out.b4 1).trans rfl; have z41_ := blk_frozen HX.out.b4 1; have q42_ : w2.cell? ⟨g4, 2, none⟩ = some (.int .i64 0) := (blk_cell HX.out.b4 2).trans rfl; have z42_ := blk_frozen HX.out.b4 2; have q43_ : w2.cell? ⟨g4, 3, none⟩ = some (.int .i64 0) := (blk_cell HX.out.b4 3).trans rfl; have z43_ := blk_frozen HX.out.b4 3; have q44_ : w2.cell? ⟨g4, 4, none⟩ = some (.string ⟨#[]⟩) := (blk_cell HX.out.b4 4).trans rfl; have z44_ := blk_frozen HX.out.b4 4; have q45_ : w2.cell? ⟨g4, 5, none⟩ = some (.int .i64 0) := (blk_cell HX.out.b4 5).trans rfl; have z45_ := blk_frozen HX.out.b4 5; have q46_ : w2.cell? ⟨g4, 6, none⟩ = some (.int .i64 0) := (blk_cell HX.out.b4 6).trans rfl; have z46_ := blk_frozen HX.out.b4 6; have q47_ : w2.cell? ⟨g4, 7, none⟩ = some (.slice none 0 0) := (blk_cell HX.out.b4 7).trans rfl; have z47_ := blk_frozen HX.out.b4 7; have n4 := blk_lt HX.out.b4; have n7 := blk_lt HX.out.b7; have hcn_ : w2.cell? ⟨g7, 4, none⟩ = some (.int .i64 0) := (blk_cell HX.out.b7 4).trans (part7_at _ 4 (by omega)); have hfn_ := blk_frozen HX.out.b7 4)) | (go_at_call 37; go_loud (with_reducible refine (int_x l hs n y m _ HY.out _).mono ?_); go_loud (rintro e w3 ⟨rfl, hb⟩; have n_ := Aside0.mk (HX.out.below hb); clear HX hb; have HX := n_; clear n_; have q40_ : w3.cell? ⟨g4, 0, none⟩ = some (.int .i64 0) := (blk_cell HX.out.b4 0).trans rfl; have z40_ := blk_frozen HX.out.b4 0; have q41_ : w3.cell? ⟨g4, 1, none⟩ = some (.int .i64 0) := (blk_cell HX.out.b4 1).trans rfl; have z41_ := blk_frozen HX.out.b4 1; have q42_ : w3.cell? ⟨g4, 2, none⟩ = some (.int .i64 0) := (blk_cell HX.out.b4 2).trans rfl; have z42_ := blk_frozen HX.out.b4 2; have q43_ : w3.cell? ⟨g4, 3, none⟩ = some (.int .i64 0) := (blk_cell HX.out.b4 3).trans rfl; have z43_ := blk_frozen HX.out.b4 3; have q44_ : w3.cell? ⟨g4, 4, none⟩ = some (.string ⟨#[]⟩) := (blk_cell HX.out.b4 4).trans rfl; have z44_ := blk_frozen HX.out.b4 4; have q45_ : w3.cell? ⟨g4, 5, none⟩ = some (.int .i64 0) := (blk_cell HX.out.b4 5).trans rfl; have z45_ := blk_frozen HX.out.b4 5; have q46_ : w3.cell? ⟨g4, 6, none⟩ = some (.int .i64 0) := (blk_cell HX.out.b4 6).trans rfl; have z46_ := blk_frozen HX.out.b4 6; have q47_ : w3.cell? ⟨g4, 7, none⟩ = some (.slice none 0 0) := (blk_cell HX.out.b4 7).trans rfl; have z47_ := blk_frozen HX.out.b4 7; have n4 := blk_lt HX.out.b4; have n7 := blk_lt HX.out.b7; have hcn_ : w3.cell? ⟨g7, 4, none⟩ = some (.int .i64 0) := (blk_cell HX.out.b7 4).trans (part7_at _ 4 (by omega)); have hfn_ := blk_frozen HX.out.b7 4)))
        refine bodyPost_ret (results_ctt rfl _ _ g4 28 #[.int .i64 0, .int .i64 0, .int .i64 0, .int .i64 0, .string ⟨#[]⟩, .int .i64 0, .int .i64 0, .slice none 0 0] (0, 0) _ rfl (by with_reducible exact put8 HX.out.b4) Try.underlying28 rfl (by kernel_rfl)) rfl ?_; exact ⟨_, rfl, Kd.R_nil _ _ _ _ _, b8 HX.out.hb HX.out.l4⟩
      case pos =>
        subst hey
        have HS := Aside0.mk (hi_ok l a (Nat.le_refl 4) HOK.out (by rw [HT.out]) (by rw [HQ.out]; exact HY.out))
        go_wp2_with (first | (go_at_call 38; go_loud (with_reducible refine (text_x l hs (rP l a 4) n _ t HTX.out _).mono ?_); go_loud (rintro e w2 ⟨rfl, hb⟩; have n_ := Aside0.mk (HX.out.below hb); clear HX hb; have HX := n_; clear n_; have q40_ : w2.cell? ⟨g4, 0, none⟩ = some (.int .i64 0) := (blk_cell HX.out.b4 0).trans rfl; have z40_ := blk_frozen HX.out.b4 0; have q41_ : w2.cell? ⟨g4, 1, none⟩ = some (.int .i64 0) := (blk_cell HX.out.b4 1).trans rfl; have z41_ := blk_frozen HX.out.b4 1; have q42_ : w2.cell? ⟨g4, 2, none⟩ = some (.int .i64 0) := (blk_cell HX.out.b4 2).trans rfl; have z42_ := blk_frozen HX.out.b4 2; have q43_ : w2.cell? ⟨g4, 3, none⟩ = some (.int .i64 0) := (blk_cell HX.out.b4 3).trans rfl; have z43_ := blk_frozen HX.out.b4 3; have q44_ : w2.cell? ⟨g4, 4, none⟩ = some (.string ⟨#[]⟩) := (blk_cell HX.out.b4 4).trans rfl; have z44_ := blk_frozen HX.out.b4 4; have q45_ : w2.cell? ⟨g4, 5, none⟩ = some (.int .i64 0) := (blk_cell HX.out.b4 5).trans rfl; have z45_ := blk_frozen HX.out.b4 5; have q46_ : w2.cell? ⟨g4, 6, none⟩ = some (.int .i64 0) := (blk_cell HX.out.b4 6).trans rfl; have z46_ := blk_frozen HX.out.b4 6; have q47_ : w2.cell? ⟨g4, 7, none⟩ = some (.slice none 0 0) := (blk_cell HX.out.b4 7).trans rfl; have z47_ := blk_frozen HX.out.b4 7; have n4 := blk_lt HX.out.b4; have n7 := blk_lt HX.out.b7; have hcn_ : w2.cell? ⟨g7, 4, none⟩ = some (.int .i64 0) := (blk_cell HX.out.b7 4).trans (part7_at _ 4 (by omega)); have hfn_ := blk_frozen HX.out.b7 4)) | (go_at_call 37; go_loud (with_reducible refine (int_x l hs n y m _ HY.out _).mono ?_); go_loud (rintro e w3 ⟨rfl, hb⟩; have n_ := Aside0.mk (HX.out.below hb); clear HX hb; have HX := n_; clear n_; have q40_ : w3.cell? ⟨g4, 0, none⟩ = some (.int .i64 0) := (blk_cell HX.out.b4 0).trans rfl; have z40_ := blk_frozen HX.out.b4 0; have q41_ : w3.cell? ⟨g4, 1, none⟩ = some (.int .i64 0) := (blk_cell HX.out.b4 1).trans rfl; have z41_ := blk_frozen HX.out.b4 1; have q42_ : w3.cell? ⟨g4, 2, none⟩ = some (.int .i64 0) := (blk_cell HX.out.b4 2).trans rfl; have z42_ := blk_frozen HX.out.b4 2; have q43_ : w3.cell? ⟨g4, 3, none⟩ = some (.int .i64 0) := (blk_cell HX.out.b4 3).trans rfl; have z43_ := blk_frozen HX.out.b4 3; have q44_ : w3.cell? ⟨g4, 4, none⟩ = some (.string ⟨#[]⟩) := (blk_cell HX.out.b4 4).trans rfl; have z44_ := blk_frozen HX.out.b4 4; have q45_ : w3.cell? ⟨g4, 5, none⟩ = some (.int .i64 0) := (blk_cell HX.out.b4 5).trans rfl; have z45_ := blk_frozen HX.out.b4 5; have q46_ : w3.cell? ⟨g4, 6, none⟩ = some (.int .i64 0) := (blk_cell HX.out.b4 6).trans rfl; have z46_ := blk_frozen HX.out.b4 6; have q47_ : w3.cell? ⟨g4, 7, none⟩ = some (.slice none 0 0) := (blk_cell HX.out.b4 7).trans rfl; have z47_ := blk_frozen HX.out.b4 7; have n4 := blk_lt HX.out.b4; have n7 := blk_lt HX.out.b7; have hcn_ : w3.cell? ⟨g7, 4, none⟩ = some (.int .i64 0) := (blk_cell HX.out.b7 4).trans (part7_at _ 4 (by omega)); have hfn_ := blk_frozen HX.out.b7 4)))
        have HN : Aside0 (QW w (w3.setCell ⟨g7, 4, none⟩ (.int .i64 y)) g4 g7 (part7 (rNm l a) (4 + 1))) := ⟨by rw [← part7_set _ 4 (by omega), HS.out.1]; exact HX.out.set 4 _⟩
        go_roundw
        case rel => first | exact ⟨4 + 1, hi1, by rw [HS.out.2.1], by rw [txt_hi l a (by omega), HT.out], by go_num, ⟨HS.out.2.2⟩, HN⟩ | ((repeat apply Exists.intro); exact ⟨⟨4 + 1, hi1, by rw [HS.out.2.1], by rw [txt_hi l a (by omega), HT.out], by go_num, ⟨HS.out.2.2⟩, HN⟩, rfl⟩)
        case measure => simp only [intOf]; omega
    case neg =>
      have hq4 : ¬ (i : Int) = 4 := by omega
      have hq4b : ((i : Int) == 4) = false := beq_eq_false_iff_ne.2 hq4
      obtain ⟨y, m, ey, hy⟩ : ∃ x m e, intAt (B l) (rP l a i) = (x, m, e) := ⟨_, _, _, rfl⟩
      have HY := Aside0.mk hy
      clear hy
      by_cases hey : ey = 0
      case neg =>
        have g0 := bne_t hey
        obtain ⟨rfl, rfl, rfl⟩ := get_bad HR.out hey (step_bad l a hi6 h4 HOK.out hey HY.out)
        clear hey h4
        go_wp2_with (go_at_call 37; go_loud (with_reducible refine (int_x l hs (rP l a i) y m _ HY.out _).mono ?_); go_loud (rintro e w3 ⟨rfl, hb⟩; have n_ := Aside0.mk (HX.out.below hb); clear HX hb; have HX := n_; clear n_; have q40_ : w3.cell? ⟨g4, 0, none⟩ = some (.int .i64 0) := (blk_cell HX.out.b4 0).trans rfl; have z40_ := blk_frozen HX.out.b4 0; have q41_ : w3.cell? ⟨g4, 1, none⟩ = some (.int .i64 0) := (blk_cell HX.out.b4 1).trans rfl; have z41_ := blk_frozen HX.out.b4 1; have q42_ : w3.cell? ⟨g4, 2, none⟩ = some (.int .i64 0) := (blk_cell HX.out.b4 2).trans rfl; have z42_ := blk_frozen HX.out.b4 2; have q43_ : w3.cell? ⟨g4, 3, none⟩ = some (.int .i64 0) := (blk_cell HX.out.b4 3).trans rfl; have z43_ := blk_frozen HX.out.b4 3; have q44_ : w3.cell? ⟨g4, 4, none⟩ = some (.string ⟨#[]⟩) := (blk_cell HX.out.b4 4).trans rfl; have z44_ := blk_frozen HX.out.b4 4; have q45_ : w3.cell? ⟨g4, 5, none⟩ = some (.int .i64 0) := (blk_cell HX.out.b4 5).trans rfl; have z45_ := blk_frozen HX.out.b4 5; have q46_ : w3.cell? ⟨g4, 6, none⟩ = some (.int .i64 0) := (blk_cell HX.out.b4 6).trans rfl; have z46_ := blk_frozen HX.out.b4 6; have q47_ : w3.cell? ⟨g4, 7, none⟩ = some (.slice none 0 0) := (blk_cell HX.out.b4 7).trans rfl; have z47_ := blk_frozen HX.out.b4 7; have n4 := blk_lt HX.out.b4; have n7 := blk_lt HX.out.b7; have hcn_ : w3.cell? ⟨g7, i, none⟩ = some (.int .i64 0) := (blk_cell HX.out.b7 i).trans (part7_at _ i (by omega)); have hfn_ := blk_frozen HX.out.b7 i))
        refine bodyPost_ret (results_ctt rfl _ _ g4 28 #[.int .i64 0, .int .i64 0, .int .i64 0, .int .i64 0, .string ⟨#[]⟩, .int .i64 0, .int .i64 0, .slice none 0 0] (0, 0) _ rfl (by with_reducible exact put8 HX.out.b4) Try.underlying28 rfl (by kernel_rfl)) rfl ?_; exact ⟨_, rfl, Kd.R_nil _ _ _ _ _, b8 HX.out.hb HX.out.l4⟩
      case pos =>
        subst hey
        have HS := Aside0.mk (step_ok l a hi6 h4 HOK.out HY.out)
        clear h4
        go_wp2_with (go_at_call 37; go_loud (with_reducible refine (int_x l hs (rP l a i) y m _ HY.out _).mono ?_); go_loud (rintro e w3 ⟨rfl, hb⟩; have n_ := Aside0.mk (HX.out.below hb); clear HX hb; have HX := n_; clear n_; have q40_ : w3.cell? ⟨g4, 0, none⟩ = some (.int .i64 0) := (blk_cell HX.out.b4 0).trans rfl; have z40_ := blk_frozen HX.out.b4 0; have q41_ : w3.cell? ⟨g4, 1, none⟩ = some (.int .i64 0) := (blk_cell HX.out.b4 1).trans rfl; have z41_ := blk_frozen HX.out.b4 1; have q42_ : w3.cell? ⟨g4, 2, none⟩ = some (.int .i64 0) := (blk_cell HX.out.b4 2).trans rfl; have z42_ := blk_frozen HX.out.b4 2; have q43_ : w3.cell? ⟨g4, 3, none⟩ = some (.int .i64 0) := (blk_cell HX.out.b4 3).trans rfl; have z43_ := blk_frozen HX.out.b4 3; have q44_ : w3.cell? ⟨g4, 4, none⟩ = some (.string ⟨#[]⟩) := (blk_cell HX.out.b4 4).trans rfl; have z44_ := blk_frozen HX.out.b4 4; have q45_ : w3.cell? ⟨g4, 5, none⟩ = some (.int .i64 0) := (blk_cell HX.out.b4 5).trans rfl; have z45_ := blk_frozen HX.out.b4 5; have q46_ : w3.cell? ⟨g4, 6, none⟩ = some (.int .i64 0) := (blk_cell HX.out.b4 6).trans rfl; have z46_ := blk_frozen HX.out.b4 6; have q47_ : w3.cell? ⟨g4, 7, none⟩ = some (.slice none 0 0) := (blk_cell HX.out.b4 7).trans rfl; have z47_ := blk_frozen HX.out.b4 7; have n4 := blk_lt HX.out.b4; have n7 := blk_lt HX.out.b7; have hcn_ : w3.cell? ⟨g7, i, none⟩ = some (.int .i64 0) := (blk_cell HX.out.b7 i).trans (part7_at _ i (by omega)); have hfn_ := blk_frozen HX.out.b7 i))
        have HN : Aside0 (QW w (w3.setCell ⟨g7, i, none⟩ (.int .i64 y)) g4 g7 (part7 (rNm l a) (i + 1))) := ⟨by rw [← part7_set _ i hi6, HS.out.1]; exact HX.out.set i _⟩
        go_roundw
        case rel => first | exact ⟨i + 1, hi1, by rw [HS.out.2.1], by rw [HS.out.2.2.2], by go_num, ⟨HS.out.2.2.1⟩, HN⟩ | ((repeat apply Exists.intro); exact ⟨⟨i + 1, hi1, by rw [HS.out.2.1], by rw [HS.out.2.2.2], by go_num, ⟨HS.out.2.2.1⟩, HN⟩, rfl⟩)
        case measure => simp only [intOf]; omega
end Go.Proofs.Ytcjdnahgffkbdaa.Srg

namespace Go.Proofs.Ytcjdnahgffkbdaa.Srd2
open Go Go.RowKit Go.Proofs Go.Proofs.Ytcjdnahgffkbdaa.Gm Go.Proofs.Ytcjdnahgffkbdaa.Gwa Go.Proofs.Ytcjdnahgffkbdaa.Gwb Go.Proofs.Ytcjdnahgffkbdaa.Gwd Go.Proofs.Ytcjdnahgffkbdaa.Srd Go.Proofs.Ytcjdnahgffkbdaa.Srs Go.Proofs.Ytcjdnahgffkbdaa.Sst Go.Proofs.Ytcjdnahgffkbdaa.Sev Go.Proofs.Ytcjdnahgffkbdaa.Sgt Go.Proofs.Ytcjdnahgffkbdaa.Sdc Go.Proofs.Ytcjdnahgffkbdaa.Srg0 Go.Proofs.Ytcjdnahgffkbdaa.Srg Go.Proofs.Ytcjdnahgffkbdaa.Q Go.Proofs.Ytcjdnahgffkbdaa.Gput Go.Proofs.YtcjdnahgffkbdaaW.PrintWords Go.Proofs.YtcjdnahgffkbdaaW.PrintLast Go.Proofs.YtcjdnahgffkbdaaW.PrintMore
set_option linter.unusedVariables false
theorem rEs_err (l : List UInt8) {er : Int} (h : er ≠ 0) (n : Nat) (acc : List S28) (p : Int) : rEs l n acc p er = (acc, p, er) := by
  cases n with
  | zero => rfl
  | succ n => rw [rEs, if_neg h]
theorem rEs_bad (l : List UInt8) {p e : Int} (he : e ≠ 0) (h : (rE l p 0).2.2 = e) (n : Nat) (acc : List S28) : (rEs l (n + 1) acc p 0).2.2 = e := by
  rw [rEs, if_pos rfl, h, rEs_err l he]
theorem rEs_ok (l : List UInt8) {p n : Int} {x : S28} (h : rE l p 0 = (x, n, 0)) (m : Nat) (acc : List S28) : rEs l (m + 1) acc p 0 = rEs l m (acc ++ [x]) n 0 := by
  rw [rEs, if_pos rfl, h]
theorem getR_cases (l : List UInt8) (p : Int) {x : S28} {n e : Int} (h : getR l p = (x, n, e)) : (e ≠ 0 → (rE l p 0).2.2 = e) ∧ (e = 0 → rE l p 0 = (x, n, 0)) := by
  unfold getR at h
  by_cases z : (rE l p 0).2.2 = 0
  · rw [if_neg (fun y => y z)] at h
    simp only [Prod.mk.injEq] at h
    obtain ⟨h1, h2, h3⟩ := h
    refine ⟨fun y => absurd h3.symm y, fun _ => ?_⟩
    rw [← h1, ← h2]
    exact Prod.ext rfl (Prod.ext rfl z)
  · rw [if_pos z] at h
    simp only [Prod.mk.injEq] at h
    obtain ⟨h1, h2, h3⟩ := h
    exact ⟨fun _ => h3, fun y => absurd (h3.trans y) z⟩
theorem dec_int {l : List UInt8} {xs : List S28} {e x n ei : Int} (h : decR l = (xs, e)) (hi : intAt (B l) 0 = (x, n, ei)) (he : ei ≠ 0) : [] = xs ∧ ei = e := by
  have hr : (rI l 0 0).2.2 = ei := rI_bad l hi he
  have hc : (rC l 0 0 256).2.2 = ei := by unfold rC; rw [if_neg (by rw [hr]; simp [he])]; exact hr
  unfold decR at h
  simp only [hc, rEs_err l he] at h
  rw [if_pos he] at h
  simpa using h
theorem dec_lim {l : List UInt8} {xs : List S28} {e x n : Int} (h : decR l = (xs, e)) (hi : intAt (B l) 0 = (x, n, 0)) (hx : x < 0 ∨ 256 < x) : [] = xs ∧ 4 = e := by
  have hr := rI_ok l hi
  have hc : (rC l 0 0 256).2.2 = 4 := by unfold rC; rw [hr, if_pos ⟨rfl, hx⟩]
  unfold decR at h
  simp only [hc, rEs_err l (show (4 : Int) ≠ 0 by decide)] at h
  rw [if_pos (by decide)] at h
  simpa using h
theorem dec_in {l : List UInt8} {xs : List S28} {e n : Int} {m : Nat} (h : decR l = (xs, e)) (hi : intAt (B l) 0 = ((m : Int), n, 0)) (hx : m ≤ 256) {es : List S28} {b er : Int} (hs : rEs l m [] n 0 = (es, b, er)) : (if er ≠ 0 then ([], er) else if b ≠ l.length then ([], 2) else (es, 0)) = (xs, e) := by
  have hr := rI_ok l hi
  have hc : rC l 0 0 256 = ((m : Int), n, 0) := by unfold rC; rw [hr, if_neg (by simp; omega)]
  unfold decR at h
  simp only [hc, Int.toNat_natCast, hs] at h
  exact h
structure DR (w W : World) (v : Value) (es : List S28) : Prop where
  hb : Below w.heap.size w W
  cr : Kd.R k28 28 W w.heap.size (fun _ => True) v es
section
variable {w W W' : World} {v v1 : Value} {es es' : List S28}
theorem DR.below (h : DR w W v es) (hb : Below W.heap.size W W') : DR w W' v es := ⟨below_step h.hb hb, Kd.R_below h.cr hb⟩
theorem DR.app (h : DR w W v es) (hr : Kd.R k28 28 W' w.heap.size (fun _ => True) v1 es') (hg : W.grownBy W' v.ownBlock) : DR w W' v1 es' := ⟨h.hb.grown hg h.hb.size (fun b e => Kd.R_base h.cr b e), hr⟩
end
set_option maxRecDepth 100000 in
set_option maxHeartbeats 8000000 in
theorem rdec_x (l : List UInt8) (hs : l.length ≤ 17592186044416) (w : World) (x : List S28) (e : Int) (hr : decR l = (x, e)) :
    Calls Try.prog 19 #[.string (B l)] w fun e' w' => ∃ v : Value, e' = .returned (.tuple #[v, .int .i64 e]) ∧ Kd.R k28 28 w' w.heap.size (fun _ => True) v x ∧ Below w.heap.size w w' := by
  have mixed : (Try.prog).follows .mixedOrders = true := by kernel_rfl
  have hu28 := Try.underlying28
  have hu26 := Try.underlying26
  have HR := Lib.hid hr
  have hbl : (B l).size = l.length := B_size l
  obtain ⟨n6, n, ei, hi⟩ : ∃ x n e, intAt (B l) 0 = (x, n, e) := ⟨_, _, _, rfl⟩
  have HI := Aside0.mk hi
  have HB := Aside0.mk (Below.refl w.heap.size w)
  clear hr hi
  by_cases hei : ei = 0
  case neg =>
    have g0 := bne_t hei
    obtain ⟨rfl, rfl⟩ := dec_int HR.out HI.out hei
    clear hei
    go_enter Try.func19, Try.ntmps19
    go_wp2_with (go_at_call 37; go_loud (with_reducible refine (int_x l hs 0 _ n _ HI.out _).mono ?_); go_loud (rintro e' w2 ⟨rfl, hb⟩; have n_ := Aside0.mk (below_step HB.out hb); clear HB hb; have HB := n_; clear n_))
    go_ret2
    exact ⟨_, rfl, Kd.R_nil _ _ _ _ _, HB.out⟩
  case pos =>
  subst hei
  by_cases hc : 0 ≤ n6 ∧ n6 ≤ 256
  case neg =>
    obtain ⟨rfl, rfl⟩ := dec_lim HR.out HI.out (by omega)
    by_cases h0 : n6 < 0
    case pos =>
      have d0 := decide_eq_true h0
      go_enter Try.func19, Try.ntmps19
      go_wp2_with (go_at_call 37; go_loud (with_reducible refine (int_x l hs 0 _ n _ HI.out _).mono ?_); go_loud (rintro e' w2 ⟨rfl, hb⟩; have n_ := Aside0.mk (below_step HB.out hb); clear HB hb; have HB := n_; clear n_))
      go_ret2
      exact ⟨_, rfl, Kd.R_nil _ _ _ _ _, HB.out⟩
    case neg =>
      have d0 := decide_eq_false h0
      have h2 : 256 < n6 := by omega
      have d2 := decide_eq_true h2
      go_enter Try.func19, Try.ntmps19
      go_wp2_with (go_at_call 37; go_loud (with_reducible refine (int_x l hs 0 _ n _ HI.out _).mono ?_); go_loud (rintro e' w2 ⟨rfl, hb⟩; have n_ := Aside0.mk (below_step HB.out hb); clear HB hb; have HB := n_; clear n_))
      go_ret2
      exact ⟨_, rfl, Kd.R_nil _ _ _ _ _, HB.out⟩
  case pos =>
  obtain ⟨m, rfl⟩ : ∃ m : Nat, n6 = (m : Int) := ⟨n6.toNat, by omega⟩
  have hm : m ≤ 256 := by omega
  have h0 : ¬ (m : Int) < 0 := by omega
  have h2 : ¬ (256 : Int) < (m : Int) := by omega
  have d0 := decide_eq_false h0
  have d2 := decide_eq_false h2
  obtain ⟨es, sb, se, hss⟩ : ∃ es b e, rEs l m [] n 0 = (es, b, e) := ⟨_, _, _, rfl⟩
  have HF := Aside0.mk (dec_in HR.out HI.out hm hss)
  have HSS := Lib.hid hss
  clear hss hc
  go_enter Try.func19, Try.ntmps19
  go_wp2_with (go_at_call 37; go_loud (with_reducible refine (int_x l hs 0 _ n _ HI.out _).mono ?_); go_loud (rintro e' w2 ⟨rfl, hb⟩; have n_ := Aside0.mk (below_step HB.out hb); clear HB hb; have HB := n_; clear n_))
  go_loopw [5, 7, 8] (fun s5 s7 s8 wr => ∃ (j : Nat) (acc : List S28) (p : Int) (v : Value), j ≤ m ∧ s5 = .int .i64 p ∧ s7 = v ∧ s8 = .int .i64 j ∧ Hid (rEs l (m - j) acc p 0 = (es, sb, se)) ∧ Aside0 (acc.length = j) ∧ Aside0 (DR w wr v acc)) (fun _ _ s8 _ => m - (intOf s8).toNat)
  case atStart => exact ⟨0, [], _, _, by omega, rfl, rfl, rfl, HSS, ⟨rfl⟩, ⟨⟨HB.out, Kd.R_nil _ _ _ _ _⟩⟩⟩
  case round =>
    clear HB HSS
    obtain ⟨j, acc, p, v, hj, rfl, rfl, rfl, HSS, HAJ, HX⟩ := hrel
    obtain ⟨A, c, hv⟩ := Kd.R_slice HX.out.cr
    subst hv
    by_cases hjm : j = m
    case pos =>
      subst hjm
      obtain ⟨rfl, rfl, rfl⟩ : acc = es ∧ p = sb ∧ 0 = se := by have h := HSS.out; rw [Nat.sub_self, rEs] at h; simpa using h
      by_cases hp : p = l.length
      case pos =>
        have g1 : (p != ((B l).size : Int)) = false := bne_eq_false_iff_eq.2 (by rw [hbl]; exact hp)
        obtain ⟨rfl, rfl⟩ : acc = x ∧ 0 = e := by have h := HF.out; rw [if_neg (by simp), if_neg (fun z => z hp)] at h; simpa using h
        go_wp2
        go_ret2
        exact ⟨_, rfl, HX.out.cr, HX.out.hb⟩
      case neg =>
        have g1 : (p != ((B l).size : Int)) = true := bne_iff_ne.2 (by rw [hbl]; exact hp)
        obtain ⟨rfl, rfl⟩ : [] = x ∧ 2 = e := by have h := HF.out; rw [if_neg (by simp), if_pos hp] at h; simpa using h
        go_wp2
        go_ret2
        exact ⟨_, rfl, Kd.R_nil _ _ _ _ _, HX.out.hb⟩
    case neg =>
    have hji : (j : Int) < (m : Int) := by omega
    obtain ⟨⟨x0, x1, x2, x3, x4, ⟨x5, x6, ss⟩⟩, q, eg, hg⟩ : ∃ y q e, getR l p = (y, q, e) := ⟨_, _, _, rfl⟩
    have HG := Aside0.mk hg
    have HGC := Aside0.mk (getR_cases l p hg)
    clear hg
    by_cases heg : eg = 0
    case neg =>
      have g0 := bne_t heg
      obtain ⟨rfl, rfl⟩ : [] = x ∧ eg = e := by
        have h := rEs_bad l heg (HGC.out.1 heg) (m - j - 1) acc
        rw [show m - j - 1 + 1 = m - j by omega, HSS.out] at h
        have h2 := HF.out
        rw [show se = eg from h, if_pos heg] at h2
        simpa using h2
      clear heg
      go_wp2_with (go_at_call 20; go_loud (with_reducible refine (rget_x l p hs _ (⟨x0, x1, x2, x3, x4, ⟨x5, x6, ss⟩⟩ : S28) q _ HG.out).mono ?_); go_loud (rintro e' w5 ⟨vs, rfl, hR, hb⟩; obtain ⟨AS, cS, evs⟩ := Kd.R_slice hR; subst evs; have n_ := Aside0.mk (HX.out.below hb); clear HX hb hR; have HX := n_; clear n_; (try dsimp only)))
      go_ret2
      exact ⟨_, rfl, Kd.R_nil _ _ _ _ _, by repeat (with_reducible first | exact HX.out.hb | apply below_alloc)⟩
    case pos =>
      subst heg
      have HSM : Hid (rEs l (m - (j + 1)) (acc ++ [(⟨x0, x1, x2, x3, x4, ⟨x5, x6, ss⟩⟩ : S28)]) q 0 = (es, sb, se)) := Lib.hid (by
        have h := HSS.out
        rw [show m - j = m - (j + 1) + 1 by omega, rEs_ok l (HGC.out.2 rfl)] at h
        exact h)
      have hle : (acc.length + 1) * 88 ≤ 140737488355328 := by have := HAJ.out; omega
      have hj1 : j + 1 ≤ m := by omega
      have hj2 : j + 1 ≤ 256 := by omega
      go_upto_region 13 with (go_at_call 20; go_loud (with_reducible refine (rget_x l p hs _ (⟨x0, x1, x2, x3, x4, ⟨x5, x6, ss⟩⟩ : S28) q _ HG.out).mono ?_); go_loud (rintro e' w5 ⟨vs, rfl, hR, hb⟩; obtain ⟨AS, cS, evs⟩ := Kd.R_slice hR; subst evs; obtain ⟨inn, hown⟩ := Kd.R_own HX.out.cr; have HRS := Aside0.mk (Kd.R_lower (Kd.R_new hR hown) HX.out.hb.size); have n_ := Aside0.mk (HX.out.below hb); clear HX hb hR hown; have HX := n_; clear n_; (try dsimp only)))
      have HX2 := Aside0.mk (HX.out.below (below_alloc (Below.refl w5.heap.size w5) (.cells #[.int .i64 x0, .int .i64 x1, .int .i64 x2, .int .i64 x3, .string x4, .int .i64 x5, .int .i64 x6, .slice AS ss.length cS] 28)))
      have HRS2 := Aside0.mk (Kd.R_below HRS.out (below_alloc (Below.refl w5.heap.size w5) (.cells #[.int .i64 x0, .int .i64 x1, .int .i64 x2, .int .i64 x3, .string x4, .int .i64 x5, .int .i64 x6, .slice AS ss.length cS] 28)))
      have HE := Aside0.mk (heap_alloc_new w5 (.cells #[.int .i64 x0, .int .i64 x1, .int .i64 x2, .int .i64 x3, .string x4, .int .i64 x5, .int .i64 x6, .slice AS ss.length cS] 28))
      obtain ⟨W6, hW6⟩ : ∃ W, W = w5.alloc (.cells #[.int .i64 x0, .int .i64 x1, .int .i64 x2, .int .i64 x3, .string x4, .int .i64 x5, .int .i64 x6, .slice AS ss.length cS] 28) := ⟨_, rfl⟩
      obtain ⟨ge, hge⟩ : ∃ g, w5.heap.size = g := ⟨_, rfl⟩
      rw [← hW6, hge] at HE
      rw [← hW6] at HX2 HRS2
      rw [← hW6, hge]
      clear hW6 hge HX HRS
      have HX := HX2
      have HRS := HRS2
      clear HX2 HRS2
      have qe0 : W6.cell? ⟨ge, 0, none⟩ = some (.int .i64 x0) := (blk_cell HE.out 0).trans rfl
      have qe1 : W6.cell? ⟨ge, 1, none⟩ = some (.int .i64 x1) := (blk_cell HE.out 1).trans rfl
      have qe2 : W6.cell? ⟨ge, 2, none⟩ = some (.int .i64 x2) := (blk_cell HE.out 2).trans rfl
      have qe3 : W6.cell? ⟨ge, 3, none⟩ = some (.int .i64 x3) := (blk_cell HE.out 3).trans rfl
      have qe4 : W6.cell? ⟨ge, 4, none⟩ = some (.string x4) := (blk_cell HE.out 4).trans rfl
      have qe5 : W6.cell? ⟨ge, 5, none⟩ = some (.int .i64 x5) := (blk_cell HE.out 5).trans rfl
      have qe6 : W6.cell? ⟨ge, 6, none⟩ = some (.int .i64 x6) := (blk_cell HE.out 6).trans rfl
      have qe7 : W6.cell? ⟨ge, 7, none⟩ = some (.slice AS ss.length cS) := (blk_cell HE.out 7).trans rfl
      go_wp2_with (at_builtin; go_loud (refine Kd.R_append k28 (w0 := W6) (W := W6) w.heap.size rfl (.tmp 42) (.tmp 44) 29 28 (.agg #[.int .i64 0, .int .i64 0, .int .i64 0, .int .i64 0, .string ⟨#[]⟩, .int .i64 0, .int .i64 0, .slice none 0 0]) 88 rfl Try.underlying29 info28 rfl (by decide) (by omega) (.slice A acc.length c) acc (⟨x0, x1, x2, x3, x4, ⟨x5, x6, ss⟩⟩ : S28) [.int .i64 x0, .int .i64 x1, .int .i64 x2, .int .i64 x3, .string x4, .int .i64 x5, .int .i64 x6, .slice AS ss.length cS] (fun _ => True) (fun k => True ∧ some k ≠ (Value.slice A acc.length c).ownBlock) rfl rfl (k28_mkM _ _ _ (⟨x0, x1, x2, x3, x4, ⟨x5, x6, ss⟩⟩ : S28) HRS.out) (fun _ h => h) (fun _ _ => trivial) HX.out.cr (Below.refl _ _) HX.out.hb.size hle ?_); go_loud (intro v1 w2_ ho hb hg hat; obtain ⟨A2, c2, e2_⟩ := Kd.R_slice ho; subst e2_; have n_ := Aside0.mk (DR.app HX.out ho hg); clear HX ho hb hg hat; have HX := n_; clear n_))
      go_roundw
      case rel => first | exact ⟨j + 1, acc ++ [(⟨x0, x1, x2, x3, x4, ⟨x5, x6, ss⟩⟩ : S28)], q, .slice A2 (acc ++ [(⟨x0, x1, x2, x3, x4, ⟨x5, x6, ss⟩⟩ : S28)]).length c2, hj1, rfl, by simp, by go_num, HSM, ⟨by simp [HAJ.out]⟩, HX⟩ | ((repeat apply Exists.intro); exact ⟨⟨j + 1, acc ++ [(⟨x0, x1, x2, x3, x4, ⟨x5, x6, ss⟩⟩ : S28)], q, .slice A2 (acc ++ [(⟨x0, x1, x2, x3, x4, ⟨x5, x6, ss⟩⟩ : S28)]).length c2, hj1, rfl, by simp, by go_num, HSM, ⟨by simp [HAJ.out]⟩, HX⟩, rfl⟩)
      case measure => simp only [intOf]; omega
end Go.Proofs.Ytcjdnahgffkbdaa.Srd2

namespace Go.Proofs.Ytcjdnahgffkbdaa.Srx
open Go Go.RowKit Go.Proofs Go.Proofs.Ytcjdnahgffkbdaa.Gm Go.Proofs.Ytcjdnahgffkbdaa.Gwa Go.Proofs.Ytcjdnahgffkbdaa.Gwb Go.Proofs.Ytcjdnahgffkbdaa.Gwd Go.Proofs.Ytcjdnahgffkbdaa.Spt Go.Proofs.Ytcjdnahgffkbdaa.Sen Go.Proofs.Ytcjdnahgffkbdaa.Srt Go.Proofs.Ytcjdnahgffkbdaa.Q Go.Proofs.Ytcjdnahgffkbdaa.Gput Go.Proofs.YtcjdnahgffkbdaaW.PrintWords Go.Proofs.YtcjdnahgffkbdaaW.PrintLast Go.Proofs.YtcjdnahgffkbdaaW.PrintMore
set_option linter.unusedVariables false
theorem put_l0 (x0 x1 x2 x3 : Int) (x4 : ByteArray) (x5 x6 : Int) (ss : List S64) (hs : ∀ s ∈ ss, W11 s) (hl : ss.length ≤ 256) : ∀ (d i k : Nat) (b : List UInt8), ss.length - i = d → i ≤ ss.length → d + 40 ≤ k → b.length + 200 * d ≤ 200000000 →
    storagebarterref42_Put.l0 k (B b) (i : Int) x0 x1 x2 x3 x4 x5 x6 ss = some (B (b ++ putS (ss.drop i)), 0) := by
  intro d
  induction d with
  | zero =>
    intro i k b hd hi hk hb
    obtain ⟨k, rfl⟩ : ∃ m, k = m + 1 := ⟨k - 1, by omega⟩
    rw [storagebarterref42_Put.l0, if_neg (by omega), List.drop_of_length_le (by omega)]
    simp [putS]
  | succ d ih =>
    intro i k b hd hi hk hb
    obtain ⟨k, rfl⟩ : ∃ m, k = m + 1 := ⟨k - 1, by omega⟩
    have hil : i < ss.length := by omega
    have e : rd_T64 ss (i : Int) = ss[i] := by simp [rd_T64, List.getD, hil]
    have hw := hs _ (List.getElem_mem hil)
    have hpl := putL_len hw (by simp [Spt.nums])
    rw [show (Spt.nums ss[i]).length = 11 from rfl] at hpl
    have hP := ref_PutList_eq b (Spt.nums ss[i]) k (fun x hx => Gwb.wf64 (hw x hx)) (by simp [Spt.nums]) (by omega) (by rw [show (Spt.nums ss[i]).length = 11 from rfl]; omega)
    rw [storagebarterref42_Put.l0, if_pos (by omega), if_pos (by omega), e]
    unfold Spt.nums at hP
    rw [hP, Option.bind_some, Gwa.w64 (x := (i : Int) + 1) (by omega), show ((i : Int) + 1) = ((i + 1 : Nat) : Int) by omega]
    have h2 : (b ++ putL [ss[i].f0, ss[i].f1, ss[i].f2, ss[i].f3, ss[i].f4, ss[i].f5, ss[i].f6, ss[i].f7, ss[i].f8, ss[i].f9, ss[i].f10]).length + 200 * d ≤ 200000000 := by
      rw [List.length_append]
      unfold Spt.nums at hpl
      omega
    rw [ih (i + 1) k _ (by omega) (by omega) (by omega) h2, List.drop_eq_getElem_cons hil]
    unfold putS
    rw [List.flatMap_cons, List.append_assoc]
    rfl
theorem rput_eq (b : List UInt8) (x : S28) (hx : WE x) (hb : b.length ≤ 100000000) (k : Nat) (hk : 300 ≤ k) : storagebarterref42_Put.f k (B b) x.f0 x.f1 x.f2 x.f3 x.f4 x.f5.f0 x.f5.f1 x.f5.f2 = some (putR b x) := by
  obtain ⟨x0, x1, x2, x3, x4, ⟨x5, x6, ss⟩⟩ := x
  obtain ⟨tl, rfl⟩ := exB x4
  have hx4 : (B tl).size = tl.length := B_size tl
  dsimp only
  unfold storagebarterref42_Put.f storagebarterref42_Check.f putR
  dsimp only
  by_cases h4 : (B tl).size > 16384
  · rw [if_pos (by omega), Option.bind_some, if_neg (by omega), if_pos (.inl h4)]
  by_cases hs : ss.length > 256
  · rw [if_neg (by omega), if_pos (by omega), Option.bind_some, if_neg (by omega), if_pos (.inr hs)]
  rw [if_neg (by omega), if_neg (by omega), Option.bind_some, if_pos rfl, if_neg (by omega)]
  have a0 := putI_len hx.h0
  have a1 := putI_len hx.h1
  have a2 := putI_len hx.h2
  have a3 := putI_len hx.h3
  have a5 := putI_len hx.h5
  have a6 := putI_len hx.h6
  have a4 : (putI (tl.length : Int)).length ≤ 10 := putI_len (by omega)
  have a7 : (putI (ss.length : Int)).length ≤ 10 := putI_len (by omega)
  dsimp only at a0 a1 a2 a3 a5 a6
  rw [ref_PutInt_eq b x0 k (by omega) hx.h0 (by omega), Option.bind_some,
    ref_PutInt_eq _ x1 k (by rw [List.length_append]; omega) hx.h1 (by omega), Option.bind_some,
    ref_PutInt_eq _ x2 k (by simp only [List.length_append]; omega) hx.h2 (by omega), Option.bind_some,
    ref_PutInt_eq _ x3 k (by simp only [List.length_append]; omega) hx.h3 (by omega), Option.bind_some,
    ref_PutText_eq _ tl k (by simp only [List.length_append]; omega) (by omega) (by omega), Option.bind_some,
    ref_PutInt_eq _ x5 k (by simp only [List.length_append]; omega) hx.h5 (by omega), Option.bind_some,
    ref_PutInt_eq _ x6 k (by simp only [List.length_append]; omega) hx.h6 (by omega), Option.bind_some,
    ref_PutInt_eq _ (ss.length : Int) k (by simp only [List.length_append]; omega) (by omega) (by omega), Option.bind_some]
  have h := put_l0 x0 x1 x2 x3 (B tl) x5 x6 ss hx.hs (by omega) ss.length 0 k (((((((b ++ putI x0) ++ putI x1) ++ putI x2) ++ putI x3) ++ (putI tl.length ++ tl) ++ putI x5) ++ putI x6) ++ putI ss.length) (by omega) (by omega) (by omega) (by simp only [List.length_append]; omega)
  rw [show ((0 : Nat) : Int) = 0 from rfl] at h
  rw [h, List.drop_zero]
  unfold putE
  rw [show (B tl).data.toList = tl from rfl]
  simp only [List.append_assoc]
theorem enc_l0 (xs : List S28) (hx : ∀ x ∈ xs, WE x) (hl : xs.length ≤ 256) : ∀ (d i k : Nat) (b : List UInt8), xs.length - i = d → i ≤ xs.length → d + 310 ≤ k → b.length ≤ 100 + 60000 * i →
    storagebarterref42_Encode.l0 k xs (B b) (i : Int) = some (encGo b (xs.drop i)) := by
  intro d
  induction d with
  | zero =>
    intro i k b hd hi hk hb
    obtain ⟨k, rfl⟩ : ∃ m, k = m + 1 := ⟨k - 1, by omega⟩
    rw [storagebarterref42_Encode.l0, if_neg (by omega), List.drop_of_length_le (by omega)]
    rfl
  | succ d ih =>
    intro i k b hd hi hk hb
    obtain ⟨k, rfl⟩ : ∃ m, k = m + 1 := ⟨k - 1, by omega⟩
    have hil : i < xs.length := by omega
    have e : rd_T28 xs (i : Int) = xs[i] := by simp [rd_T28, List.getD, hil]
    have hw := hx _ (List.getElem_mem hil)
    rw [storagebarterref42_Encode.l0, if_pos (by omega), if_pos (by omega), e, rput_eq b xs[i] hw (by omega) k (by omega), Option.bind_some, List.drop_eq_getElem_cons hil, encGo]
    by_cases h : (putR b xs[i]).2 = 0
    · obtain ⟨r, hr⟩ : ∃ r, putR b xs[i] = (r, 0) := ⟨(putR b xs[i]).1, by rw [← h]⟩
      obtain ⟨h1, h2, h3⟩ := putR_ok hr
      rw [if_pos h, if_neg (fun z => z h), Gwa.w64 (x := (i : Int) + 1) (by omega), show ((i : Int) + 1) = ((i + 1 : Nat) : Int) by omega, hr, h1]
      have hle := putE_len hw h2 h3
      exact ih (i + 1) k _ (by omega) (by omega) (by omega) (by rw [List.length_append]; omega)
    · rw [if_neg h, if_pos h]
theorem renc_eq (xs : List S28) (hx : ∀ x ∈ xs, WE x) (k : Nat) (hk : 600 ≤ k) : storagebarterref42_Encode.f k xs = some (encR xs) := by
  unfold storagebarterref42_Encode.f encR
  by_cases h : xs.length > 256
  · rw [if_pos (by omega), if_pos h]
  · have hl : (putI (xs.length : Int)).length ≤ 10 := putI_len (by omega)
    rw [if_neg (by omega), if_neg h, show (⟨#[]⟩ : ByteArray) = B [] from rfl, ref_PutInt_eq [] _ k (by simp) (by omega) (by omega), Option.bind_some, List.nil_append]
    exact enc_l0 xs hx (by omega) xs.length 0 k _ rfl (by omega) (by omega) (by omega)
end Go.Proofs.Ytcjdnahgffkbdaa.Srx

namespace Go.Proofs.Ytcjdnahgffkbdaa.Gqb
open Go Go.RowKit
structure BelowBy (W : World) where
  world : World
  h : Below W.heap.size W world
instance (W : World) : Inhabited (BelowBy W) := ⟨⟨W, Below.refl _ _⟩⟩
theorem wp_region_below {P : Program} {id : Nat} {Q : Exit → Act → World → Prop} {a : Act} {W : World} {l : List Oper} (hm : P.follows .mixedOrders = true) (hB : Region.lexB .any l.toArray = true)
    (h : wpQuiet P l.toArray (fun w' => ∃ p : BelowBy W, w' = p.world) (fun a' => ∀ w', (∃ p : BelowBy W, w' = p.world) → Q .normal a' w') l a) : (Code.region id l.toArray true).wp P Q a W :=
  wp_region_quiet (C := fun w' => ∃ p : BelowBy W, w' = p.world) hm hB ⟨⟨W.drew, (Below.refl _ _).drew⟩, rfl⟩ (by simpa using h)
theorem BelowBy.cell {W : World} (p : BelowBy W) {a : Addr} {v : Value} (hb : a.block < W.heap.size) (h : W.cell? a = some v) : p.world.cell? a = some v := (p.h.cell hb).trans h
theorem BelowBy.calls {P : Program} {f : FuncId} {args : Array Value} {W : World} {v : Value} (p : BelowBy W) (h : Calls P f args p.world fun e w' => e = .returned v ∧ Below p.world.heap.size p.world w') : Calls P f args p.world fun e w'' => e = .returned v ∧ ∃ p' : BelowBy W, w'' = p'.world :=
  h.mono fun _ w' ⟨he, hb⟩ => ⟨he, ⟨w', p.h.trans (hb.mono p.h.size)⟩, rfl⟩
end Go.Proofs.Ytcjdnahgffkbdaa.Gqb
