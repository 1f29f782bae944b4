/- ScriptJoinsSaid -/
import Derived.Test.YtcjdnahgffkbdaaCScriptJoins4
import Derived.Test.YtcjdnahgffkbdaaCScriptJoins7
import Derived.Test.YtcjdnahgffkbdaaCScriptJoins6
import Derived.Test.YtcjdnahgffkbdaaRows
import Derived.WalkKit
import Derived.ProofKit
import Derived.OpenShut
import Derived.ShutString
import Derived.ChangeOld
import Derived.Below
import Derived.SizedLaws
import Derived.Test.YtcjdnahgffkbdaaCScriptJoins1
namespace Go.Proofs.Ytcjdnahgffkbdaa.Q
open Go.RowKit Go.Proofs.YtcjdnahgffkbdaaW.PrintWords Go.Proofs.YtcjdnahgffkbdaaW.PrintLast Go.Proofs.YtcjdnahgffkbdaaW.PrintMore Go.Proofs.Ytcjdnahgffkbdaa.Gput Go.Proofs.Ytcjdnahgffkbdaa.Gputl
attribute [local go_sem] max2_int min2_int max_two min_two max_three min_three max_four min_four   -- for this text's walks alone
set_option linter.unusedVariables false
set_option linter.unusedSimpArgs false
def storagebarterref42_Put.l0 : Nat → ByteArray → Int → Int → Int → Int → Int → ByteArray → Int → Int → List (S64) → Option (ByteArray × Int)
  | 0, _, _, _, _, _, _, _, _, _, _ => none
  | k + 1, x0, x7, x139000, x139001, x139002, x139003, x139004, x139005, x139006, x139007 => if x7 < (x139007.length : Int) then (if 0 ≤ x7 then ((storagebarterref01_PutList.f k x0 (([(rd_T64 x139007 x7).f0, (rd_T64 x139007 x7).f1, (rd_T64 x139007 x7).f2, (rd_T64 x139007 x7).f3, (rd_T64 x139007 x7).f4, (rd_T64 x139007 x7).f5, (rd_T64 x139007 x7).f6, (rd_T64 x139007 x7).f7, (rd_T64 x139007 x7).f8, (rd_T64 x139007 x7).f9, (rd_T64 x139007 x7).f10] : List Int))).bind fun t153 => (storagebarterref42_Put.l0 k t153 (wrap64 (x7 + 1)) x139000 x139001 x139002 x139003 x139004 x139005 x139006 x139007)) else (none)) else (some (x0, 0))
def storagebarterref42_Put.f (k : Nat) (a0 : ByteArray) (a1_0 : Int) (a1_1 : Int) (a1_2 : Int) (a1_3 : Int) (a1_4 : ByteArray) (a1_5 : Int) (a1_6 : Int) (l1_7 : List (S64)) : Option (ByteArray × Int) := (storagebarterref42_Check.f a1_0 a1_1 a1_2 a1_3 a1_4 a1_5 a1_6 l1_7).bind fun t139 => (if t139 = 0 then ((storagebarterref01_PutInt.f k a0 a1_0).bind fun t140 => ((storagebarterref01_PutInt.f k t140 a1_1).bind fun t141 => ((storagebarterref01_PutInt.f k t141 a1_2).bind fun t142 => ((storagebarterref01_PutInt.f k t142 a1_3).bind fun t143 => ((storagebarterref01_PutText.f k t143 a1_4).bind fun t144 => ((storagebarterref01_PutInt.f k t144 a1_5).bind fun t145 => ((storagebarterref01_PutInt.f k t145 a1_6).bind fun t146 => ((storagebarterref01_PutInt.f k t146 (l1_7.length : Int)).bind fun t147 => (storagebarterref42_Put.l0 k t147 0 a1_0 a1_1 a1_2 a1_3 a1_4 a1_5 a1_6 l1_7))))))))) else (some ((⟨#[]⟩ : ByteArray), t139)))
theorem storagebarterref42_Put.mono_l : ∀ k, (∀ y0 y1 y2 y3 y4 y5 y6 y7 y8 y9, LeO (storagebarterref42_Put.l0 k y0 y1 y2 y3 y4 y5 y6 y7 y8 y9) (storagebarterref42_Put.l0 (k + 1) y0 y1 y2 y3 y4 y5 y6 y7 y8 y9))
  | 0 => fun _ _ _ _ _ _ _ _ _ _ r h => by simp [storagebarterref42_Put.l0] at h
  | k + 1 => by
    have ih0 := storagebarterref42_Put.mono_l k
    · intro y0 y1 y2 y3 y4 y5 y6 y7 y8 y9
      unfold storagebarterref42_Put.l0
      repeat' first
      | (with_reducible exact ih0 _ _ _ _ _ _ _ _ _ _)
      | (with_reducible exact storagebarterref01_PutInt.mono _ _ _)
      | (with_reducible exact storagebarterref01_PutList.mono _ _ _)
      | (with_reducible exact storagebarterref01_PutText.mono _ _ _)
      | (with_reducible exact LeO.refl _)
      | (with_reducible exact LeO.none _)
      | (with_reducible refine LeO.ite ?_ ?_)
      | (with_reducible refine LeO.bind ?_ (fun _ => ?_))
      | exact ih0 _ _ _ _ _ _ _ _ _ _
      | exact storagebarterref01_PutInt.mono _ _ _
      | exact storagebarterref01_PutList.mono _ _ _
      | exact storagebarterref01_PutText.mono _ _ _
      | exact LeO.none _
      | refine LeO.ite ?_ ?_
      | refine LeO.bind ?_ (fun _ => ?_)
theorem storagebarterref42_Put.mono : ∀ a0 a1 a2 a3 a4 a5 a6 a7 a8 k, LeO (storagebarterref42_Put.f k a0 a1 a2 a3 a4 a5 a6 a7 a8) (storagebarterref42_Put.f (k + 1) a0 a1 a2 a3 a4 a5 a6 a7 a8) := by
  intro a0 a1 a2 a3 a4 a5 a6 a7 a8 k
  have ih0 := storagebarterref42_Put.mono_l k
  unfold storagebarterref42_Put.f
  repeat' first
      | (with_reducible exact ih0 _ _ _ _ _ _ _ _ _ _)
      | (with_reducible exact storagebarterref01_PutInt.mono _ _ _)
      | (with_reducible exact storagebarterref01_PutList.mono _ _ _)
      | (with_reducible exact storagebarterref01_PutText.mono _ _ _)
      | (with_reducible exact LeO.refl _)
      | (with_reducible exact LeO.none _)
      | (with_reducible refine LeO.ite ?_ ?_)
      | (with_reducible refine LeO.bind ?_ (fun _ => ?_))
      | exact ih0 _ _ _ _ _ _ _ _ _ _
      | exact storagebarterref01_PutInt.mono _ _ _
      | exact storagebarterref01_PutList.mono _ _ _
      | exact storagebarterref01_PutText.mono _ _ _
      | exact LeO.none _
      | refine LeO.ite ?_ ?_
      | refine LeO.bind ?_ (fun _ => ?_)
def storagebarterref42_Put.T4 : Bool × List (List Nat × List Nat) := (true, [([], []), ([], []), ([1], [1]), ([0, 2], [0, 2]), ([], []), ([4], [4]), ([3, 5, 3], [3, 5]), ([], []), ([7], [7]), ([6, 8, 6], [6, 8]), ([], []), ([10], [10]), ([9, 11, 9], [9, 11]), ([12, 12, 0, 1, 2, 3, 4, 5, 6, 7, 8, 9, 10, 11, 12], [0, 12])])
def storagebarterref42_Put.B4 : List Nat := [0, 0, 2, 7, 0, 16, 63, 0, 128, 511, 0, 1024, 4095, 8191]
theorem storagebarterref42_Put.tab4 : rtab .any (opsOf Try.f21 4) = storagebarterref42_Put.T4 := by kernel_rfl
theorem storagebarterref42_Put.bits4 : waitsOk storagebarterref42_Put.T4.2 storagebarterref42_Put.B4 = true := by kernel_rfl
def storagebarterref42_Put.T5 : Bool × List (List Nat × List Nat) := (true, [([], []), ([], []), ([1], [1]), ([0, 2], [0, 2]), ([], []), ([4], [4]), ([5], [5]), ([3, 6, 3], [3, 6]), ([], []), ([8], [8]), ([9], [9]), ([7, 10, 7], [7, 10]), ([11, 11, 0, 1, 2, 3, 4, 5, 6, 7, 8, 9, 10, 11], [0, 11])])
def storagebarterref42_Put.B5 : List Nat := [0, 0, 2, 7, 0, 16, 48, 127, 0, 256, 768, 2047, 4095]
theorem storagebarterref42_Put.tab5 : rtab .any (opsOf Try.f21 5) = storagebarterref42_Put.T5 := by kernel_rfl
theorem storagebarterref42_Put.bits5 : waitsOk storagebarterref42_Put.T5.2 storagebarterref42_Put.B5 = true := by kernel_rfl
set_option maxHeartbeats 8000000 in
set_option maxRecDepth 100000 in
theorem storagebarterref42_Put.calls (k : Nat) (a0 : ByteArray) (a1_0 : Int) (a1_1 : Int) (a1_2 : Int) (a1_3 : Int) (a1_4 : ByteArray) (a1_5 : Int) (a1_6 : Int) (A1_7 : Option Addr) (c1_7 : Nat) (l1_7 : List (S64)) (r1 : ByteArray) (r2 : Int) (w : World) (hr1_7 : Kd.C k64 w A1_7 l1_7.length l1_7) (hc1_7 : l1_7.length ≤ c1_7) (h : storagebarterref42_Put.f k a0 a1_0 a1_1 a1_2 a1_3 a1_4 a1_5 a1_6 l1_7 = some (r1, r2)) :
    Calls Try.prog 21 #[.string a0, .agg #[.int .i64 a1_0, .int .i64 a1_1, .int .i64 a1_2, .int .i64 a1_3, .string a1_4, .int .i64 a1_5, .int .i64 a1_6, .slice A1_7 l1_7.length c1_7]] w fun e w' => e = .returned (.tuple #[.string r1, .int .i64 r2]) ∧ Below w.heap.size w w' := by
  have hu28 := Try.underlying28
  have hu64 := Try.underlying64
  have HR1_7 := Aside0.mk hr1_7
  have HC1_7 := Aside0.mk hc1_7
  clear hr1_7 hc1_7
  have HB := Aside0.mk (Below.refl w.heap.size w)
  have H : ((storagebarterref42_Check.f a1_0 a1_1 a1_2 a1_3 a1_4 a1_5 a1_6 l1_7).bind fun t139 => (if t139 = 0 then ((storagebarterref01_PutInt.f k a0 a1_0).bind fun t140 => ((storagebarterref01_PutInt.f k t140 a1_1).bind fun t141 => ((storagebarterref01_PutInt.f k t141 a1_2).bind fun t142 => ((storagebarterref01_PutInt.f k t142 a1_3).bind fun t143 => ((storagebarterref01_PutText.f k t143 a1_4).bind fun t144 => ((storagebarterref01_PutInt.f k t144 a1_5).bind fun t145 => ((storagebarterref01_PutInt.f k t145 a1_6).bind fun t146 => ((storagebarterref01_PutInt.f k t146 (l1_7.length : Int)).bind fun t147 => (storagebarterref42_Put.l0 k t147 0 a1_0 a1_1 a1_2 a1_3 a1_4 a1_5 a1_6 l1_7))))))))) else (some ((⟨#[]⟩ : ByteArray), t139)))) = some (r1, r2) := h
  clear h
  replace H := Option.bind_eq_some_iff.mp H
  obtain ⟨t139, A30, H⟩ := H
  replace H : (if t139 = 0 then ((storagebarterref01_PutInt.f k a0 a1_0).bind fun t140 => ((storagebarterref01_PutInt.f k t140 a1_1).bind fun t141 => ((storagebarterref01_PutInt.f k t141 a1_2).bind fun t142 => ((storagebarterref01_PutInt.f k t142 a1_3).bind fun t143 => ((storagebarterref01_PutText.f k t143 a1_4).bind fun t144 => ((storagebarterref01_PutInt.f k t144 a1_5).bind fun t145 => ((storagebarterref01_PutInt.f k t145 a1_6).bind fun t146 => ((storagebarterref01_PutInt.f k t146 (l1_7.length : Int)).bind fun t147 => (storagebarterref42_Put.l0 k t147 0 a1_0 a1_1 a1_2 a1_3 a1_4 a1_5 a1_6 l1_7))))))))) else (some ((⟨#[]⟩ : ByteArray), t139))) = some (r1, r2) := H
  have A3 := Aside0.mk A30
  clear A30
  by_cases c4 : t139 = 0
  · rw [if_pos c4] at H
    have c4b0 : (t139 == 0) = true := beq_iff_eq.mpr c4
    have c4b1 : (t139 != 0) = false := bne_eq_false_iff_eq.mpr c4
    clear c4
    replace H := Option.bind_eq_some_iff.mp H
    obtain ⟨t140, A50, H⟩ := H
    replace H : ((storagebarterref01_PutInt.f k t140 a1_1).bind fun t141 => ((storagebarterref01_PutInt.f k t141 a1_2).bind fun t142 => ((storagebarterref01_PutInt.f k t142 a1_3).bind fun t143 => ((storagebarterref01_PutText.f k t143 a1_4).bind fun t144 => ((storagebarterref01_PutInt.f k t144 a1_5).bind fun t145 => ((storagebarterref01_PutInt.f k t145 a1_6).bind fun t146 => ((storagebarterref01_PutInt.f k t146 (l1_7.length : Int)).bind fun t147 => (storagebarterref42_Put.l0 k t147 0 a1_0 a1_1 a1_2 a1_3 a1_4 a1_5 a1_6 l1_7)))))))) = some (r1, r2) := H
    have A5 := Aside0.mk A50
    clear A50
    replace H := Option.bind_eq_some_iff.mp H
    obtain ⟨t141, A60, H⟩ := H
    replace H : ((storagebarterref01_PutInt.f k t141 a1_2).bind fun t142 => ((storagebarterref01_PutInt.f k t142 a1_3).bind fun t143 => ((storagebarterref01_PutText.f k t143 a1_4).bind fun t144 => ((storagebarterref01_PutInt.f k t144 a1_5).bind fun t145 => ((storagebarterref01_PutInt.f k t145 a1_6).bind fun t146 => ((storagebarterref01_PutInt.f k t146 (l1_7.length : Int)).bind fun t147 => (storagebarterref42_Put.l0 k t147 0 a1_0 a1_1 a1_2 a1_3 a1_4 a1_5 a1_6 l1_7))))))) = some (r1, r2) := H
    have A6 := Aside0.mk A60
    clear A60
    replace H := Option.bind_eq_some_iff.mp H
    obtain ⟨t142, A70, H⟩ := H
    replace H : ((storagebarterref01_PutInt.f k t142 a1_3).bind fun t143 => ((storagebarterref01_PutText.f k t143 a1_4).bind fun t144 => ((storagebarterref01_PutInt.f k t144 a1_5).bind fun t145 => ((storagebarterref01_PutInt.f k t145 a1_6).bind fun t146 => ((storagebarterref01_PutInt.f k t146 (l1_7.length : Int)).bind fun t147 => (storagebarterref42_Put.l0 k t147 0 a1_0 a1_1 a1_2 a1_3 a1_4 a1_5 a1_6 l1_7)))))) = some (r1, r2) := H
    have A7 := Aside0.mk A70
    clear A70
    replace H := Option.bind_eq_some_iff.mp H
    obtain ⟨t143, A80, H⟩ := H
    replace H : ((storagebarterref01_PutText.f k t143 a1_4).bind fun t144 => ((storagebarterref01_PutInt.f k t144 a1_5).bind fun t145 => ((storagebarterref01_PutInt.f k t145 a1_6).bind fun t146 => ((storagebarterref01_PutInt.f k t146 (l1_7.length : Int)).bind fun t147 => (storagebarterref42_Put.l0 k t147 0 a1_0 a1_1 a1_2 a1_3 a1_4 a1_5 a1_6 l1_7))))) = some (r1, r2) := H
    have A8 := Aside0.mk A80
    clear A80
    replace H := Option.bind_eq_some_iff.mp H
    obtain ⟨t144, A90, H⟩ := H
    replace H : ((storagebarterref01_PutInt.f k t144 a1_5).bind fun t145 => ((storagebarterref01_PutInt.f k t145 a1_6).bind fun t146 => ((storagebarterref01_PutInt.f k t146 (l1_7.length : Int)).bind fun t147 => (storagebarterref42_Put.l0 k t147 0 a1_0 a1_1 a1_2 a1_3 a1_4 a1_5 a1_6 l1_7)))) = some (r1, r2) := H
    have A9 := Aside0.mk A90
    clear A90
    replace H := Option.bind_eq_some_iff.mp H
    obtain ⟨t145, A100, H⟩ := H
    replace H : ((storagebarterref01_PutInt.f k t145 a1_6).bind fun t146 => ((storagebarterref01_PutInt.f k t146 (l1_7.length : Int)).bind fun t147 => (storagebarterref42_Put.l0 k t147 0 a1_0 a1_1 a1_2 a1_3 a1_4 a1_5 a1_6 l1_7))) = some (r1, r2) := H
    have A10 := Aside0.mk A100
    clear A100
    replace H := Option.bind_eq_some_iff.mp H
    obtain ⟨t146, A110, H⟩ := H
    replace H : ((storagebarterref01_PutInt.f k t146 (l1_7.length : Int)).bind fun t147 => (storagebarterref42_Put.l0 k t147 0 a1_0 a1_1 a1_2 a1_3 a1_4 a1_5 a1_6 l1_7)) = some (r1, r2) := H
    have A11 := Aside0.mk A110
    clear A110
    replace H := Option.bind_eq_some_iff.mp H
    obtain ⟨t147, A120, H⟩ := H
    replace H : (storagebarterref42_Put.l0 k t147 0 a1_0 a1_1 a1_2 a1_3 a1_4 a1_5 a1_6 l1_7) = some (r1, r2) := H
    have A12 := Aside0.mk A120
    clear A120
    have H' := Aside0.mk H
    clear H
    go_enter Try.func21, Try.ntmps21
    try go_wp2_with (first | ((with_reducible refine gate_dst (N := 3) rfl ?_); refine box_event ?hg (N := 3) ?hd (cs := #[.int .i64 a1_0, .int .i64 a1_1, .int .i64 a1_2, .int .i64 a1_3, .string a1_4, .int .i64 a1_5, .int .i64 a1_6, .slice A1_7 l1_7.length c1_7]) (t := 28) ?hr ?_; (case hd => rfl); (case hg => rfl); (case hr => first | (go_simp; done) | (go_simp; rfl)); intro gb138 hg w13 hbox hb; have n0_ := Aside0.mk (below_step (by repeat (first | (with_reducible first | exact HB.out | apply below_alloc | apply pw_below_drewN | apply below_drew1) | exact HB.out)) hb); have n1_ := Aside0.mk (hbox); have n2_ := Aside0.mk ((by rw [hg]; exact (below_size (by repeat (first | (with_reducible first | exact HB.out | apply below_alloc | apply pw_below_drewN | apply below_drew1) | exact HB.out))) : w.heap.size ≤ gb138)); have n3_ := Aside0.mk ((by rw [hg]; exact (below_size (by repeat (first | (with_reducible first | exact HB.out | apply below_alloc | apply pw_below_drewN | apply below_drew1) | exact HB.out))) : w.heap.size ≤ gb138)); clear HB; have HB := n0_; have BK138 := n1_; have GW138 := n2_; have GE138 := n3_; clear n0_ n1_ n2_ n3_; clear hb hbox hg; have hcz14_0 : w13.cell? ⟨gb138, 0, none⟩ = some (.int .i64 a1_0) := (blk_cell BK138.out 0).trans rfl; have hcz14_1 : w13.cell? ⟨gb138, 1, none⟩ = some (.int .i64 a1_1) := (blk_cell BK138.out 1).trans rfl; have hcz14_2 : w13.cell? ⟨gb138, 2, none⟩ = some (.int .i64 a1_2) := (blk_cell BK138.out 2).trans rfl; have hcz14_3 : w13.cell? ⟨gb138, 3, none⟩ = some (.int .i64 a1_3) := (blk_cell BK138.out 3).trans rfl; have hcz14_4 : w13.cell? ⟨gb138, 4, none⟩ = some (.string a1_4) := (blk_cell BK138.out 4).trans rfl; have hcz14_5 : w13.cell? ⟨gb138, 5, none⟩ = some (.int .i64 a1_5) := (blk_cell BK138.out 5).trans rfl; have hcz14_6 : w13.cell? ⟨gb138, 6, none⟩ = some (.int .i64 a1_6) := (blk_cell BK138.out 6).trans rfl; have hcz14_7 : w13.cell? ⟨gb138, 7, none⟩ = some (.slice A1_7 l1_7.length c1_7) := (blk_cell BK138.out 7).trans rfl; have hfz14_0 := blk_frozen BK138.out 0; have hfz14_1 := blk_frozen BK138.out 1; have hfz14_2 := blk_frozen BK138.out 2; have hfz14_3 := blk_frozen BK138.out 3; have hfz14_4 := blk_frozen BK138.out 4; have hfz14_5 := blk_frozen BK138.out 5; have hfz14_6 := blk_frozen BK138.out 6; have hfz14_7 := blk_frozen BK138.out 7) | ((with_reducible refine gate_callee (f := 23) rfl ?_); refine goesL_ (some 10) rfl rfl Try.func23 (by kernel_rfl) rfl #[.agg #[.int .i64 a1_0, .int .i64 a1_1, .int .i64 a1_2, .int .i64 a1_3, .string a1_4, .int .i64 a1_5, .int .i64 a1_6, .slice A1_7 l1_7.length c1_7]] rfl (by (try simp only [List.map_toArray, List.map_cons, List.map_nil]); first | done | rfl | (simp only [List.length_drop, List.length_take]; rfl)) ?_; (with_reducible refine (storagebarterref42_Check.calls a1_0 a1_1 a1_2 a1_3 a1_4 a1_5 a1_6 _ _ l1_7 t139 _ ?side1 ?side2 A3.out).mono ?_); (case side1 => repeat (first | exact (Kd.C_below HR1_7.out HB.out) | (with_reducible refine Kd.C_alloc ?_ _) | (with_reducible refine Kd.C_drewN ?_ _) | (with_reducible refine Kd.C_drew ?_))); (case side2 => exact HC1_7.out); rintro e w15 ⟨rfl, hb⟩; refine ⟨_, rfl, ?_⟩; have n0_ := Aside0.mk (blk_below (g := gb138) (o := .cells #[.int .i64 a1_0, .int .i64 a1_1, .int .i64 a1_2, .int .i64 a1_3, .string a1_4, .int .i64 a1_5, .int .i64 a1_6, .slice A1_7 l1_7.length c1_7] 28 (0, 0)) (by (with_reducible repeat (first | refine blk_drewN ?_ _ | refine blk_drew ?_ | refine blk_alloc ?_ _)); exact BK138.out) hb); have n1_ := Aside0.mk (below_step (by repeat (first | (with_reducible first | exact HB.out | apply below_alloc | apply pw_below_drewN | apply below_drew1 | refine below_set ?_ GE138.out) | exact HB.out)) hb); clear BK138; clear HB; have BK138 := n0_; have HB := n1_; clear n0_ n1_; (try clear hb); (try clear hb2); (try clear hk); (try clear hi)))
    have n0_ := Aside0.mk (blk_drew BK138.out)
    have n1_ := Aside0.mk (below_drew1 HB.out)
    clear BK138
    clear HB
    have BK138 := n0_
    have HB := n1_
    clear n0_ n1_
    refine start_ (n := 14) (S := fun w' => w'.cell? ⟨gb138, 0, none⟩ = some (.int .i64 a1_0) ∧ w'.cell? ⟨gb138, 1, none⟩ = some (.int .i64 a1_1) ∧ w'.cell? ⟨gb138, 2, none⟩ = some (.int .i64 a1_2) ∧ w'.cell? ⟨gb138, 3, none⟩ = some (.int .i64 a1_3) ∧ w'.cell? ⟨gb138, 4, none⟩ = some (.string a1_4) ∧ w'.cell? ⟨gb138, 5, none⟩ = some (.int .i64 a1_5) ∧ w'.cell? ⟨gb138, 6, none⟩ = some (.int .i64 a1_6) ∧ w'.cell? ⟨gb138, 7, none⟩ = some (.slice A1_7 l1_7.length c1_7)) (ds := []) #[false, false, false, false, false, false, false, false, false, false, false, false, false, false] (by kernel_rfl) rfl rfl ⟨(blk_cell BK138.out 0).trans rfl, (blk_cell BK138.out 1).trans rfl, (blk_cell BK138.out 2).trans rfl, (blk_cell BK138.out 3).trans rfl, (blk_cell BK138.out 4).trans rfl, (blk_cell BK138.out 5).trans rfl, (blk_cell BK138.out 6).trans rfl, (blk_cell BK138.out 7).trans rfl⟩ (fun hHeld => ?_); refine with_tabW storagebarterref42_Put.tab4 storagebarterref42_Put.bits4 (fun HT_ HW_ => ?_)
    generalize w15.drew = w16 at BK138 HB hHeld ⊢
    refine pure_ (i := 0) (N := some 14) (v := ?_) (a' := ?_) #[true, false, false, false, false, false, false, false, false, false, false, false, false, false] rfl rfl (any_of HT_.out (by kernel_rfl)) (fun _ _ _ h => h) (Or.inl ⟨by rfl, ?_⟩) ?_ ?_
    rotate_left
    · intro w'
      go_simp
      with_reducible rfl
    rotate_left
    · simp only [Act.put, List.setIfInBounds_toArray, List.set_cons_zero, List.set_cons_succ, i64_w, i32_w]
      rfl
    refine pure_ (i := 1) (N := some 15) (v := ?_) (a' := ?_) #[true, true, false, false, false, false, false, false, false, false, false, false, false, false] rfl rfl (any_of HT_.out (by kernel_rfl)) (fun _ _ _ h => h) (Or.inl ⟨by rfl, ?_⟩) ?_ ?_
    rotate_left
    · intro w'
      go_simp
      with_reducible rfl
    rotate_left
    · simp only [Act.put, List.setIfInBounds_toArray, List.set_cons_zero, List.set_cons_succ, i64_w, i32_w]
      rfl
    refine pure_ (i := 4) (N := some 18) (v := ?_) (a' := ?_) #[true, true, false, false, true, false, false, false, false, false, false, false, false, false] rfl rfl (any_of HT_.out (by kernel_rfl)) (fun _ _ _ h => h) (Or.inl ⟨by rfl, ?_⟩) ?_ ?_
    rotate_left
    · intro w'
      go_simp
      with_reducible rfl
    rotate_left
    · simp only [Act.put, List.setIfInBounds_toArray, List.set_cons_zero, List.set_cons_succ, i64_w, i32_w]
      rfl
    refine pure_ (i := 7) (N := some 21) (v := ?_) (a' := ?_) #[true, true, false, false, true, false, false, true, false, false, false, false, false, false] rfl rfl (any_of HT_.out (by kernel_rfl)) (fun _ _ _ h => h) (Or.inl ⟨by rfl, ?_⟩) ?_ ?_
    rotate_left
    · intro w'
      go_simp
      with_reducible rfl
    rotate_left
    · simp only [Act.put, List.setIfInBounds_toArray, List.set_cons_zero, List.set_cons_succ, i64_w, i32_w]
      rfl
    refine pure_ (i := 10) (N := some 24) (v := ?_) (a' := ?_) #[true, true, false, false, true, false, false, true, false, false, true, false, false, false] rfl rfl (any_of HT_.out (by kernel_rfl)) (fun _ _ _ h => h) (Or.inl ⟨by rfl, ?_⟩) ?_ ?_
    rotate_left
    · intro w'
      go_simp
      with_reducible rfl
    rotate_left
    · simp only [Act.put, List.setIfInBounds_toArray, List.set_cons_zero, List.set_cons_succ, i64_w, i32_w]
      rfl
    refine take_ (i := 2) (N := some 16) (v := ?_) (a' := ?_) #[true, true, true, false, true, false, false, true, false, false, true, false, false, false] rfl rfl (take_ofW HT_.out HW_.out (by kernel_rfl)) (fun _ _ _ h => h) (Or.inl ⟨by rfl, ?_⟩) hHeld ?_ ?_
    rotate_left
    · rintro w' ⟨s0, s1, s2, s3, s4, s5, s6, s7⟩
      go_simp
      with_reducible rfl
    rotate_left
    · simp only [Act.put, List.setIfInBounds_toArray, List.set_cons_zero, List.set_cons_succ, i64_w, i32_w]
      rfl
    refine take_ (i := 5) (N := some 19) (v := ?_) (a' := ?_) #[true, true, true, false, true, true, false, true, false, false, true, false, false, false] rfl rfl (take_ofW HT_.out HW_.out (by kernel_rfl)) (fun _ _ _ h => h) (Or.inl ⟨by rfl, ?_⟩) hHeld ?_ ?_
    rotate_left
    · rintro w' ⟨s0, s1, s2, s3, s4, s5, s6, s7⟩
      go_simp
      with_reducible rfl
    rotate_left
    · simp only [Act.put, List.setIfInBounds_toArray, List.set_cons_zero, List.set_cons_succ, i64_w, i32_w]
      rfl
    refine take_ (i := 8) (N := some 22) (v := ?_) (a' := ?_) #[true, true, true, false, true, true, false, true, true, false, true, false, false, false] rfl rfl (take_ofW HT_.out HW_.out (by kernel_rfl)) (fun _ _ _ h => h) (Or.inl ⟨by rfl, ?_⟩) hHeld ?_ ?_
    rotate_left
    · rintro w' ⟨s0, s1, s2, s3, s4, s5, s6, s7⟩
      go_simp
      with_reducible rfl
    rotate_left
    · simp only [Act.put, List.setIfInBounds_toArray, List.set_cons_zero, List.set_cons_succ, i64_w, i32_w]
      rfl
    refine take_ (i := 11) (N := some 25) (v := ?_) (a' := ?_) #[true, true, true, false, true, true, false, true, true, false, true, true, false, false] rfl rfl (take_ofW HT_.out HW_.out (by kernel_rfl)) (fun _ _ _ h => h) (Or.inl ⟨by rfl, ?_⟩) hHeld ?_ ?_
    rotate_left
    · rintro w' ⟨s0, s1, s2, s3, s4, s5, s6, s7⟩
      go_simp
      with_reducible rfl
    rotate_left
    · simp only [Act.put, List.setIfInBounds_toArray, List.set_cons_zero, List.set_cons_succ, i64_w, i32_w]
      rfl
    refine one_ (i := 3) (N := some 17) #[true, true, true, true, true, true, false, true, true, false, true, true, false, false] rfl rfl (one_of HT_.out (by kernel_rfl)) (by decide) (fun K hK => ?_)
    refine goes_ Try.func25 (by kernel_rfl) rfl #[.string a0, .int .i64 a1_0] (by rfl) rfl rfl (by (try simp only [List.map_toArray, List.map_cons, List.map_nil]); first | done | rfl | (simp only [List.length_drop, List.length_take]; rfl)) ?_
    with_reducible refine (storagebarterref01_PutInt.calls k a0 a1_0 t140 _ A5.out).mono ?_
    rintro e w17 ⟨rfl, hb⟩
    refine ⟨_, rfl, ?_⟩
    have n0_ := Aside0.mk (blk_below (g := gb138) (o := .cells #[.int .i64 a1_0, .int .i64 a1_1, .int .i64 a1_2, .int .i64 a1_3, .string a1_4, .int .i64 a1_5, .int .i64 a1_6, .slice A1_7 l1_7.length c1_7] 28 (0, 0)) (by (with_reducible repeat (first | refine blk_drewN ?_ _ | refine blk_drew ?_ | refine blk_alloc ?_ _)); exact BK138.out) hb)
    have n1_ := Aside0.mk (below_step (by repeat (first | (with_reducible first | exact HB.out | apply below_alloc | apply pw_below_drewN | apply below_drew1 | refine below_set ?_ GE138.out) | exact HB.out)) hb)
    clear BK138
    clear HB
    have BK138 := n0_
    have HB := n1_
    clear n0_ n1_
    (try clear hb)
    (try clear hb2)
    (try clear hk)
    (try clear hi)
    refine hK.out _ _ ⟨(blk_cell BK138.out 0).trans rfl, (blk_cell BK138.out 1).trans rfl, (blk_cell BK138.out 2).trans rfl, (blk_cell BK138.out 3).trans rfl, (blk_cell BK138.out 4).trans rfl, (blk_cell BK138.out 5).trans rfl, (blk_cell BK138.out 6).trans rfl, (blk_cell BK138.out 7).trans rfl⟩ (fun hHeld => ?_)
    clear hK K
    refine norm_ (a' := ?_) ?_ ?_
    rotate_left
    · show Act.put _ (some 17) _ = _
      simp only [Act.put, List.setIfInBounds_toArray, List.set_cons_zero, List.set_cons_succ, i64_w, i32_w]
      rfl
    refine one_ (i := 6) (N := some 20) #[true, true, true, true, true, true, true, true, true, false, true, true, false, false] rfl rfl (one_of HT_.out (by kernel_rfl)) (by decide) (fun K hK => ?_)
    refine goes_ Try.func25 (by kernel_rfl) rfl #[.string t140, .int .i64 a1_1] (by rfl) rfl rfl (by (try simp only [List.map_toArray, List.map_cons, List.map_nil]); first | done | rfl | (simp only [List.length_drop, List.length_take]; rfl)) ?_
    with_reducible refine (storagebarterref01_PutInt.calls k t140 a1_1 t141 _ A6.out).mono ?_
    rintro e w18 ⟨rfl, hb⟩
    refine ⟨_, rfl, ?_⟩
    have n0_ := Aside0.mk (blk_below (g := gb138) (o := .cells #[.int .i64 a1_0, .int .i64 a1_1, .int .i64 a1_2, .int .i64 a1_3, .string a1_4, .int .i64 a1_5, .int .i64 a1_6, .slice A1_7 l1_7.length c1_7] 28 (0, 0)) (by (with_reducible repeat (first | refine blk_drewN ?_ _ | refine blk_drew ?_ | refine blk_alloc ?_ _)); exact BK138.out) hb)
    have n1_ := Aside0.mk (below_step (by repeat (first | (with_reducible first | exact HB.out | apply below_alloc | apply pw_below_drewN | apply below_drew1 | refine below_set ?_ GE138.out) | exact HB.out)) hb)
    clear BK138
    clear HB
    have BK138 := n0_
    have HB := n1_
    clear n0_ n1_
    (try clear hb)
    (try clear hb2)
    (try clear hk)
    (try clear hi)
    refine hK.out _ _ ⟨(blk_cell BK138.out 0).trans rfl, (blk_cell BK138.out 1).trans rfl, (blk_cell BK138.out 2).trans rfl, (blk_cell BK138.out 3).trans rfl, (blk_cell BK138.out 4).trans rfl, (blk_cell BK138.out 5).trans rfl, (blk_cell BK138.out 6).trans rfl, (blk_cell BK138.out 7).trans rfl⟩ (fun hHeld => ?_)
    clear hK K
    refine norm_ (a' := ?_) ?_ ?_
    rotate_left
    · show Act.put _ (some 20) _ = _
      simp only [Act.put, List.setIfInBounds_toArray, List.set_cons_zero, List.set_cons_succ, i64_w, i32_w]
      rfl
    refine one_ (i := 9) (N := some 23) #[true, true, true, true, true, true, true, true, true, true, true, true, false, false] rfl rfl (one_of HT_.out (by kernel_rfl)) (by decide) (fun K hK => ?_)
    refine goes_ Try.func25 (by kernel_rfl) rfl #[.string t141, .int .i64 a1_2] (by rfl) rfl rfl (by (try simp only [List.map_toArray, List.map_cons, List.map_nil]); first | done | rfl | (simp only [List.length_drop, List.length_take]; rfl)) ?_
    with_reducible refine (storagebarterref01_PutInt.calls k t141 a1_2 t142 _ A7.out).mono ?_
    rintro e w19 ⟨rfl, hb⟩
    refine ⟨_, rfl, ?_⟩
    have n0_ := Aside0.mk (blk_below (g := gb138) (o := .cells #[.int .i64 a1_0, .int .i64 a1_1, .int .i64 a1_2, .int .i64 a1_3, .string a1_4, .int .i64 a1_5, .int .i64 a1_6, .slice A1_7 l1_7.length c1_7] 28 (0, 0)) (by (with_reducible repeat (first | refine blk_drewN ?_ _ | refine blk_drew ?_ | refine blk_alloc ?_ _)); exact BK138.out) hb)
    have n1_ := Aside0.mk (below_step (by repeat (first | (with_reducible first | exact HB.out | apply below_alloc | apply pw_below_drewN | apply below_drew1 | refine below_set ?_ GE138.out) | exact HB.out)) hb)
    clear BK138
    clear HB
    have BK138 := n0_
    have HB := n1_
    clear n0_ n1_
    (try clear hb)
    (try clear hb2)
    (try clear hk)
    (try clear hi)
    refine hK.out _ _ ⟨(blk_cell BK138.out 0).trans rfl, (blk_cell BK138.out 1).trans rfl, (blk_cell BK138.out 2).trans rfl, (blk_cell BK138.out 3).trans rfl, (blk_cell BK138.out 4).trans rfl, (blk_cell BK138.out 5).trans rfl, (blk_cell BK138.out 6).trans rfl, (blk_cell BK138.out 7).trans rfl⟩ (fun hHeld => ?_)
    clear hK K
    refine norm_ (a' := ?_) ?_ ?_
    rotate_left
    · show Act.put _ (some 23) _ = _
      simp only [Act.put, List.setIfInBounds_toArray, List.set_cons_zero, List.set_cons_succ, i64_w, i32_w]
      rfl
    refine one_ (i := 12) (N := some 26) #[true, true, true, true, true, true, true, true, true, true, true, true, true, false] rfl rfl (one_of HT_.out (by kernel_rfl)) (by decide) (fun K hK => ?_)
    refine goes_ Try.func25 (by kernel_rfl) rfl #[.string t142, .int .i64 a1_3] (by rfl) rfl rfl (by (try simp only [List.map_toArray, List.map_cons, List.map_nil]); first | done | rfl | (simp only [List.length_drop, List.length_take]; rfl)) ?_
    with_reducible refine (storagebarterref01_PutInt.calls k t142 a1_3 t143 _ A8.out).mono ?_
    rintro e w20 ⟨rfl, hb⟩
    refine ⟨_, rfl, ?_⟩
    have n0_ := Aside0.mk (blk_below (g := gb138) (o := .cells #[.int .i64 a1_0, .int .i64 a1_1, .int .i64 a1_2, .int .i64 a1_3, .string a1_4, .int .i64 a1_5, .int .i64 a1_6, .slice A1_7 l1_7.length c1_7] 28 (0, 0)) (by (with_reducible repeat (first | refine blk_drewN ?_ _ | refine blk_drew ?_ | refine blk_alloc ?_ _)); exact BK138.out) hb)
    have n1_ := Aside0.mk (below_step (by repeat (first | (with_reducible first | exact HB.out | apply below_alloc | apply pw_below_drewN | apply below_drew1 | refine below_set ?_ GE138.out) | exact HB.out)) hb)
    clear BK138
    clear HB
    have BK138 := n0_
    have HB := n1_
    clear n0_ n1_
    (try clear hb)
    (try clear hb2)
    (try clear hk)
    (try clear hi)
    refine hK.out _ _ ⟨(blk_cell BK138.out 0).trans rfl, (blk_cell BK138.out 1).trans rfl, (blk_cell BK138.out 2).trans rfl, (blk_cell BK138.out 3).trans rfl, (blk_cell BK138.out 4).trans rfl, (blk_cell BK138.out 5).trans rfl, (blk_cell BK138.out 6).trans rfl, (blk_cell BK138.out 7).trans rfl⟩ (fun hHeld => ?_)
    clear hK K
    refine norm_ (a' := ?_) ?_ ?_
    rotate_left
    · show Act.put _ (some 26) _ = _
      simp only [Act.put, List.setIfInBounds_toArray, List.set_cons_zero, List.set_cons_succ, i64_w, i32_w]
      rfl
    refine pure_ (i := 13) (N := some 0) (v := ?_) (a' := ?_) #[true, true, true, true, true, true, true, true, true, true, true, true, true, true] rfl rfl (any_of HT_.out (by kernel_rfl)) (fun _ _ _ h => h) (Or.inl ⟨by rfl, ?_⟩) ?_ ?_
    rotate_left
    · intro w'
      go_simp
      with_reducible rfl
    rotate_left
    · simp only [Act.put, List.setIfInBounds_toArray, List.set_cons_zero, List.set_cons_succ, i64_w, i32_w]
      rfl
    refine done_ (done_of HT_.out (by kernel_rfl)) ?_
    try go_wp2
    have n0_ := Aside0.mk (blk_drew BK138.out)
    have n1_ := Aside0.mk (below_drew1 HB.out)
    clear BK138
    clear HB
    have BK138 := n0_
    have HB := n1_
    clear n0_ n1_
    refine start_ (n := 13) (S := fun w' => w'.cell? ⟨gb138, 0, none⟩ = some (.int .i64 a1_0) ∧ w'.cell? ⟨gb138, 1, none⟩ = some (.int .i64 a1_1) ∧ w'.cell? ⟨gb138, 2, none⟩ = some (.int .i64 a1_2) ∧ w'.cell? ⟨gb138, 3, none⟩ = some (.int .i64 a1_3) ∧ w'.cell? ⟨gb138, 4, none⟩ = some (.string a1_4) ∧ w'.cell? ⟨gb138, 5, none⟩ = some (.int .i64 a1_5) ∧ w'.cell? ⟨gb138, 6, none⟩ = some (.int .i64 a1_6) ∧ w'.cell? ⟨gb138, 7, none⟩ = some (.slice A1_7 l1_7.length c1_7)) (ds := []) #[false, false, false, false, false, false, false, false, false, false, false, false, false] (by kernel_rfl) rfl rfl ⟨(blk_cell BK138.out 0).trans rfl, (blk_cell BK138.out 1).trans rfl, (blk_cell BK138.out 2).trans rfl, (blk_cell BK138.out 3).trans rfl, (blk_cell BK138.out 4).trans rfl, (blk_cell BK138.out 5).trans rfl, (blk_cell BK138.out 6).trans rfl, (blk_cell BK138.out 7).trans rfl⟩ (fun hHeld => ?_); refine with_tabW storagebarterref42_Put.tab5 storagebarterref42_Put.bits5 (fun HT_ HW_ => ?_)
    generalize w20.drew = w21 at BK138 HB hHeld ⊢
    refine pure_ (i := 0) (N := some 27) (v := ?_) (a' := ?_) #[true, false, false, false, false, false, false, false, false, false, false, false, false] rfl rfl (any_of HT_.out (by kernel_rfl)) (fun _ _ _ h => h) (Or.inl ⟨by rfl, ?_⟩) ?_ ?_
    rotate_left
    · intro w'
      go_simp
      with_reducible rfl
    rotate_left
    · simp only [Act.put, List.setIfInBounds_toArray, List.set_cons_zero, List.set_cons_succ, i64_w, i32_w]
      rfl
    refine pure_ (i := 1) (N := some 28) (v := ?_) (a' := ?_) #[true, true, false, false, false, false, false, false, false, false, false, false, false] rfl rfl (any_of HT_.out (by kernel_rfl)) (fun _ _ _ h => h) (Or.inl ⟨by rfl, ?_⟩) ?_ ?_
    rotate_left
    · intro w'
      go_simp
      with_reducible rfl
    rotate_left
    · simp only [Act.put, List.setIfInBounds_toArray, List.set_cons_zero, List.set_cons_succ, i64_w, i32_w]
      rfl
    refine pure_ (i := 4) (N := some 31) (v := ?_) (a' := ?_) #[true, true, false, false, true, false, false, false, false, false, false, false, false] rfl rfl (any_of HT_.out (by kernel_rfl)) (fun _ _ _ h => h) (Or.inl ⟨by rfl, ?_⟩) ?_ ?_
    rotate_left
    · intro w'
      go_simp
      with_reducible rfl
    rotate_left
    · simp only [Act.put, List.setIfInBounds_toArray, List.set_cons_zero, List.set_cons_succ, i64_w, i32_w]
      rfl
    refine pure_ (i := 5) (N := some 32) (v := ?_) (a' := ?_) #[true, true, false, false, true, true, false, false, false, false, false, false, false] rfl rfl (any_of HT_.out (by kernel_rfl)) (fun _ _ _ h => h) (Or.inl ⟨by rfl, ?_⟩) ?_ ?_
    rotate_left
    · intro w'
      go_simp
      with_reducible rfl
    rotate_left
    · simp only [Act.put, List.setIfInBounds_toArray, List.set_cons_zero, List.set_cons_succ, i64_w, i32_w]
      rfl
    refine pure_ (i := 8) (N := some 35) (v := ?_) (a' := ?_) #[true, true, false, false, true, true, false, false, true, false, false, false, false] rfl rfl (any_of HT_.out (by kernel_rfl)) (fun _ _ _ h => h) (Or.inl ⟨by rfl, ?_⟩) ?_ ?_
    rotate_left
    · intro w'
      go_simp
      with_reducible rfl
    rotate_left
    · simp only [Act.put, List.setIfInBounds_toArray, List.set_cons_zero, List.set_cons_succ, i64_w, i32_w]
      rfl
    refine pure_ (i := 9) (N := some 36) (v := ?_) (a' := ?_) #[true, true, false, false, true, true, false, false, true, true, false, false, false] rfl rfl (any_of HT_.out (by kernel_rfl)) (fun _ _ _ h => h) (Or.inl ⟨by rfl, ?_⟩) ?_ ?_
    rotate_left
    · intro w'
      go_simp
      with_reducible rfl
    rotate_left
    · simp only [Act.put, List.setIfInBounds_toArray, List.set_cons_zero, List.set_cons_succ, i64_w, i32_w]
      rfl
    refine take_ (i := 2) (N := some 29) (v := ?_) (a' := ?_) #[true, true, true, false, true, true, false, false, true, true, false, false, false] rfl rfl (take_ofW HT_.out HW_.out (by kernel_rfl)) (fun _ _ _ h => h) (Or.inl ⟨by rfl, ?_⟩) hHeld ?_ ?_
    rotate_left
    · rintro w' ⟨s0, s1, s2, s3, s4, s5, s6, s7⟩
      go_simp
      with_reducible rfl
    rotate_left
    · simp only [Act.put, List.setIfInBounds_toArray, List.set_cons_zero, List.set_cons_succ, i64_w, i32_w]
      rfl
    refine take_ (i := 6) (N := some 33) (v := ?_) (a' := ?_) #[true, true, true, false, true, true, true, false, true, true, false, false, false] rfl rfl (take_ofW HT_.out HW_.out (by kernel_rfl)) (fun _ _ _ h => h) (Or.inl ⟨by rfl, ?_⟩) hHeld ?_ ?_
    rotate_left
    · rintro w' ⟨s0, s1, s2, s3, s4, s5, s6, s7⟩
      go_simp
      with_reducible rfl
    rotate_left
    · simp only [Act.put, List.setIfInBounds_toArray, List.set_cons_zero, List.set_cons_succ, i64_w, i32_w]
      rfl
    refine take_ (i := 10) (N := some 37) (v := ?_) (a' := ?_) #[true, true, true, false, true, true, true, false, true, true, true, false, false] rfl rfl (take_ofW HT_.out HW_.out (by kernel_rfl)) (fun _ _ _ h => h) (Or.inl ⟨by rfl, ?_⟩) hHeld ?_ ?_
    rotate_left
    · rintro w' ⟨s0, s1, s2, s3, s4, s5, s6, s7⟩
      go_simp
      with_reducible rfl
    rotate_left
    · simp only [Act.put, List.setIfInBounds_toArray, List.set_cons_zero, List.set_cons_succ, i64_w, i32_w]
      rfl
    refine one_ (i := 3) (N := some 30) #[true, true, true, true, true, true, true, false, true, true, true, false, false] rfl rfl (one_of HT_.out (by kernel_rfl)) (by decide) (fun K hK => ?_)
    refine goes_ Try.func40 (by kernel_rfl) rfl #[.string t143, .string a1_4] (by rfl) rfl rfl (by (try simp only [List.map_toArray, List.map_cons, List.map_nil]); first | done | rfl | (simp only [List.length_drop, List.length_take]; rfl)) ?_
    with_reducible refine (storagebarterref01_PutText.calls k t143 a1_4 t144 _ A9.out).mono ?_
    rintro e w22 ⟨rfl, hb⟩
    refine ⟨_, rfl, ?_⟩
    have n0_ := Aside0.mk (blk_below (g := gb138) (o := .cells #[.int .i64 a1_0, .int .i64 a1_1, .int .i64 a1_2, .int .i64 a1_3, .string a1_4, .int .i64 a1_5, .int .i64 a1_6, .slice A1_7 l1_7.length c1_7] 28 (0, 0)) (by (with_reducible repeat (first | refine blk_drewN ?_ _ | refine blk_drew ?_ | refine blk_alloc ?_ _)); exact BK138.out) hb)
    have n1_ := Aside0.mk (below_step (by repeat (first | (with_reducible first | exact HB.out | apply below_alloc | apply pw_below_drewN | apply below_drew1 | refine below_set ?_ GE138.out) | exact HB.out)) hb)
    clear BK138
    clear HB
    have BK138 := n0_
    have HB := n1_
    clear n0_ n1_
    (try clear hb)
    (try clear hb2)
    (try clear hk)
    (try clear hi)
    refine hK.out _ _ ⟨(blk_cell BK138.out 0).trans rfl, (blk_cell BK138.out 1).trans rfl, (blk_cell BK138.out 2).trans rfl, (blk_cell BK138.out 3).trans rfl, (blk_cell BK138.out 4).trans rfl, (blk_cell BK138.out 5).trans rfl, (blk_cell BK138.out 6).trans rfl, (blk_cell BK138.out 7).trans rfl⟩ (fun hHeld => ?_)
    clear hK K
    refine norm_ (a' := ?_) ?_ ?_
    rotate_left
    · show Act.put _ (some 30) _ = _
      simp only [Act.put, List.setIfInBounds_toArray, List.set_cons_zero, List.set_cons_succ, i64_w, i32_w]
      rfl
    refine one_ (i := 7) (N := some 34) #[true, true, true, true, true, true, true, true, true, true, true, false, false] rfl rfl (one_of HT_.out (by kernel_rfl)) (by decide) (fun K hK => ?_)
    refine goes_ Try.func25 (by kernel_rfl) rfl #[.string t144, .int .i64 a1_5] (by rfl) rfl rfl (by (try simp only [List.map_toArray, List.map_cons, List.map_nil]); first | done | rfl | (simp only [List.length_drop, List.length_take]; rfl)) ?_
    with_reducible refine (storagebarterref01_PutInt.calls k t144 a1_5 t145 _ A10.out).mono ?_
    rintro e w23 ⟨rfl, hb⟩
    refine ⟨_, rfl, ?_⟩
    have n0_ := Aside0.mk (blk_below (g := gb138) (o := .cells #[.int .i64 a1_0, .int .i64 a1_1, .int .i64 a1_2, .int .i64 a1_3, .string a1_4, .int .i64 a1_5, .int .i64 a1_6, .slice A1_7 l1_7.length c1_7] 28 (0, 0)) (by (with_reducible repeat (first | refine blk_drewN ?_ _ | refine blk_drew ?_ | refine blk_alloc ?_ _)); exact BK138.out) hb)
    have n1_ := Aside0.mk (below_step (by repeat (first | (with_reducible first | exact HB.out | apply below_alloc | apply pw_below_drewN | apply below_drew1 | refine below_set ?_ GE138.out) | exact HB.out)) hb)
    clear BK138
    clear HB
    have BK138 := n0_
    have HB := n1_
    clear n0_ n1_
    (try clear hb)
    (try clear hb2)
    (try clear hk)
    (try clear hi)
    refine hK.out _ _ ⟨(blk_cell BK138.out 0).trans rfl, (blk_cell BK138.out 1).trans rfl, (blk_cell BK138.out 2).trans rfl, (blk_cell BK138.out 3).trans rfl, (blk_cell BK138.out 4).trans rfl, (blk_cell BK138.out 5).trans rfl, (blk_cell BK138.out 6).trans rfl, (blk_cell BK138.out 7).trans rfl⟩ (fun hHeld => ?_)
    clear hK K
    refine norm_ (a' := ?_) ?_ ?_
    rotate_left
    · show Act.put _ (some 34) _ = _
      simp only [Act.put, List.setIfInBounds_toArray, List.set_cons_zero, List.set_cons_succ, i64_w, i32_w]
      rfl
    refine one_ (i := 11) (N := some 38) #[true, true, true, true, true, true, true, true, true, true, true, true, false] rfl rfl (one_of HT_.out (by kernel_rfl)) (by decide) (fun K hK => ?_)
    refine goes_ Try.func25 (by kernel_rfl) rfl #[.string t145, .int .i64 a1_6] (by rfl) rfl rfl (by (try simp only [List.map_toArray, List.map_cons, List.map_nil]); first | done | rfl | (simp only [List.length_drop, List.length_take]; rfl)) ?_
    with_reducible refine (storagebarterref01_PutInt.calls k t145 a1_6 t146 _ A11.out).mono ?_
    rintro e w24 ⟨rfl, hb⟩
    refine ⟨_, rfl, ?_⟩
    have n0_ := Aside0.mk (blk_below (g := gb138) (o := .cells #[.int .i64 a1_0, .int .i64 a1_1, .int .i64 a1_2, .int .i64 a1_3, .string a1_4, .int .i64 a1_5, .int .i64 a1_6, .slice A1_7 l1_7.length c1_7] 28 (0, 0)) (by (with_reducible repeat (first | refine blk_drewN ?_ _ | refine blk_drew ?_ | refine blk_alloc ?_ _)); exact BK138.out) hb)
    have n1_ := Aside0.mk (below_step (by repeat (first | (with_reducible first | exact HB.out | apply below_alloc | apply pw_below_drewN | apply below_drew1 | refine below_set ?_ GE138.out) | exact HB.out)) hb)
    clear BK138
    clear HB
    have BK138 := n0_
    have HB := n1_
    clear n0_ n1_
    (try clear hb)
    (try clear hb2)
    (try clear hk)
    (try clear hi)
    refine hK.out _ _ ⟨(blk_cell BK138.out 0).trans rfl, (blk_cell BK138.out 1).trans rfl, (blk_cell BK138.out 2).trans rfl, (blk_cell BK138.out 3).trans rfl, (blk_cell BK138.out 4).trans rfl, (blk_cell BK138.out 5).trans rfl, (blk_cell BK138.out 6).trans rfl, (blk_cell BK138.out 7).trans rfl⟩ (fun hHeld => ?_)
    clear hK K
    refine norm_ (a' := ?_) ?_ ?_
    rotate_left
    · show Act.put _ (some 38) _ = _
      simp only [Act.put, List.setIfInBounds_toArray, List.set_cons_zero, List.set_cons_succ, i64_w, i32_w]
      rfl
    refine pure_ (i := 12) (N := some 0) (v := ?_) (a' := ?_) #[true, true, true, true, true, true, true, true, true, true, true, true, true] rfl rfl (any_of HT_.out (by kernel_rfl)) (fun _ _ _ h => h) (Or.inl ⟨by rfl, ?_⟩) ?_ ?_
    rotate_left
    · intro w'
      go_simp
      with_reducible rfl
    rotate_left
    · simp only [Act.put, List.setIfInBounds_toArray, List.set_cons_zero, List.set_cons_succ, i64_w, i32_w]
      rfl
    refine done_ (done_of HT_.out (by kernel_rfl)) ?_
    have hcz25_0 : w24.cell? ⟨gb138, 0, none⟩ = some (.int .i64 a1_0) := (blk_cell BK138.out 0).trans rfl
    have hcz25_1 : w24.cell? ⟨gb138, 1, none⟩ = some (.int .i64 a1_1) := (blk_cell BK138.out 1).trans rfl
    have hcz25_2 : w24.cell? ⟨gb138, 2, none⟩ = some (.int .i64 a1_2) := (blk_cell BK138.out 2).trans rfl
    have hcz25_3 : w24.cell? ⟨gb138, 3, none⟩ = some (.int .i64 a1_3) := (blk_cell BK138.out 3).trans rfl
    have hcz25_4 : w24.cell? ⟨gb138, 4, none⟩ = some (.string a1_4) := (blk_cell BK138.out 4).trans rfl
    have hcz25_5 : w24.cell? ⟨gb138, 5, none⟩ = some (.int .i64 a1_5) := (blk_cell BK138.out 5).trans rfl
    have hcz25_6 : w24.cell? ⟨gb138, 6, none⟩ = some (.int .i64 a1_6) := (blk_cell BK138.out 6).trans rfl
    have hcz25_7 : w24.cell? ⟨gb138, 7, none⟩ = some (.slice A1_7 l1_7.length c1_7) := (blk_cell BK138.out 7).trans rfl
    have hfz25_0 := blk_frozen BK138.out 0
    have hfz25_1 := blk_frozen BK138.out 1
    have hfz25_2 := blk_frozen BK138.out 2
    have hfz25_3 := blk_frozen BK138.out 3
    have hfz25_4 := blk_frozen BK138.out 4
    have hfz25_5 := blk_frozen BK138.out 5
    have hfz25_6 := blk_frozen BK138.out 6
    have hfz25_7 := blk_frozen BK138.out 7
    try go_wp2_with (first | ((with_reducible refine gate_callee (f := 25) rfl ?_); refine goesL_ (some 44) rfl rfl Try.func25 (by kernel_rfl) rfl #[.string t146, .int .i64 (l1_7.length : Int)] rfl (by (try simp only [List.map_toArray, List.map_cons, List.map_nil]); first | done | rfl | (simp only [List.length_drop, List.length_take]; rfl)) ?_; (with_reducible refine (storagebarterref01_PutInt.calls k t146 (l1_7.length : Int) t147 _ A12.out).mono ?_); rintro e w26 ⟨rfl, hb⟩; refine ⟨_, rfl, ?_⟩; have n0_ := Aside0.mk (blk_below (g := gb138) (o := .cells #[.int .i64 a1_0, .int .i64 a1_1, .int .i64 a1_2, .int .i64 a1_3, .string a1_4, .int .i64 a1_5, .int .i64 a1_6, .slice A1_7 l1_7.length c1_7] 28 (0, 0)) (by (with_reducible repeat (first | refine blk_drewN ?_ _ | refine blk_drew ?_ | refine blk_alloc ?_ _)); exact BK138.out) hb); have n1_ := Aside0.mk (below_step (by repeat (first | (with_reducible first | exact HB.out | apply below_alloc | apply pw_below_drewN | apply below_drew1 | refine below_set ?_ GE138.out) | exact HB.out)) hb); clear BK138; clear HB; have BK138 := n0_; have HB := n1_; clear n0_ n1_; (try clear hb); (try clear hb2); (try clear hk); (try clear hi)))
    go_loopg [0, 7] k (fun kq v0 v7 w' => ∃ (x0_1 : ByteArray) (x7_1 : Int), v0 = .string x0_1 ∧ v7 = .int .i64 x7_1 ∧ Aside0 (storagebarterref42_Put.l0 kq x0_1 x7_1 a1_0 a1_1 a1_2 a1_3 a1_4 a1_5 a1_6 l1_7 = some (r1, r2)) ∧ Aside0 (kq ≤ k) ∧ Aside0 (w'.heap[gb138]? = some (.cells #[.int .i64 a1_0, .int .i64 a1_1, .int .i64 a1_2, .int .i64 a1_3, .string a1_4, .int .i64 a1_5, .int .i64 a1_6, (.slice A1_7 l1_7.length c1_7)] 28 (0, 0))) ∧ Aside0 (Below w.heap.size w w'))
    case atStart => exact ⟨(t147), (0), (by first | rfl | (simp; done) | (simp [*]; done)), (by first | rfl | (simp; done) | (simp [*]; done)), H', ⟨Nat.le_refl _⟩, ⟨by (with_reducible repeat (first | refine blk_drewN ?_ _ | refine blk_drew ?_ | refine blk_alloc ?_ _)); exact BK138.out⟩, ⟨by repeat (first | (with_reducible first | exact HB.out | apply below_alloc | apply pw_below_drewN | apply below_drew1 | refine below_set ?_ GE138.out) | exact HB.out)⟩⟩
    case round =>
      clear H'
      try clear c1
      try clear c2
      try clear p2
      try clear c4
      try clear c4b0
      try clear c4b1
      try clear c21
      try clear c23
      try clear c25
      try clear hcz14_0
      try clear hcz14_1
      try clear hcz14_2
      try clear hcz14_3
      try clear hcz14_4
      try clear hcz14_5
      try clear hcz14_6
      try clear hcz14_7
      try clear hcz25_0
      try clear hcz25_1
      try clear hcz25_2
      try clear hcz25_3
      try clear hcz25_4
      try clear hcz25_5
      try clear hcz25_6
      try clear hcz25_7
      try clear hfz14_0
      try clear hfz14_1
      try clear hfz14_2
      try clear hfz14_3
      try clear hfz14_4
      try clear hfz14_5
      try clear hfz14_6
      try clear hfz14_7
      try clear hfz25_0
      try clear hfz25_1
      try clear hfz25_2
      try clear hfz25_3
      try clear hfz25_4
      try clear hfz25_5
      try clear hfz25_6
      try clear hfz25_7
      obtain ⟨x0_1, x7_1, rfl, rfl, HA, HK1, BK138, HB⟩ := hrel
      cases gk with
      | zero => exact absurd HA.out (by simp [storagebarterref42_Put.l0])
      | succ k1 =>
        have H := HA.out
        clear HA
        simp only [storagebarterref42_Put.l0] at H
        by_cases c27 : x7_1 < (l1_7.length : Int)
        · rw [if_pos c27] at H
          have c27b0 : decide (x7_1 < (l1_7.length : Int)) = true := decide_eq_true c27
          clear c27
          by_cases c28 : 0 ≤ x7_1
          · rw [if_pos c28] at H
            have c28b0 : decide (0 ≤ x7_1) = true := decide_eq_true c28
            clear c28
            obtain ⟨y150, hy150⟩ : ∃ y_ : List Int, y_ = (([(rd_T64 l1_7 x7_1).f0, (rd_T64 l1_7 x7_1).f1, (rd_T64 l1_7 x7_1).f2, (rd_T64 l1_7 x7_1).f3, (rd_T64 l1_7 x7_1).f4, (rd_T64 l1_7 x7_1).f5, (rd_T64 l1_7 x7_1).f6, (rd_T64 l1_7 x7_1).f7, (rd_T64 l1_7 x7_1).f8, (rd_T64 l1_7 x7_1).f9, (rd_T64 l1_7 x7_1).f10] : List Int)) := ⟨_, rfl⟩
            replace H : ((storagebarterref01_PutList.f k1 x0_1 y150).bind fun t153 => (storagebarterref42_Put.l0 k1 t153 (wrap64 (x7_1 + 1)) a1_0 a1_1 a1_2 a1_3 a1_4 a1_5 a1_6 l1_7)) = some (r1, r2) := by first | (rw [hy150]; with_reducible exact H) | (have H2_ := (Option.bind_some _ _).symm.trans H; rw [hy150]; with_reducible exact H2_) | (have H2_ := (Option.bind_some _ _).symm.trans H; with_reducible exact H2_) | with_reducible exact H | (rw [hy150]; exact H) | exact H
            have Ny150 := Aside0.mk hy150
            clear hy150
            replace H := Option.bind_eq_some_iff.mp H
            obtain ⟨t153, A290, H⟩ := H
            replace H : (storagebarterref42_Put.l0 k1 t153 (wrap64 (x7_1 + 1)) a1_0 a1_1 a1_2 a1_3 a1_4 a1_5 a1_6 l1_7) = some (r1, r2) := H
            have A29 := Aside0.mk A290
            clear A290
            have H' := Aside0.mk H
            clear H
            have hcz30_0 : wr.cell? ⟨gb138, 0, none⟩ = some (.int .i64 a1_0) := (blk_cell BK138.out 0).trans rfl
            have hcz30_1 : wr.cell? ⟨gb138, 1, none⟩ = some (.int .i64 a1_1) := (blk_cell BK138.out 1).trans rfl
            have hcz30_2 : wr.cell? ⟨gb138, 2, none⟩ = some (.int .i64 a1_2) := (blk_cell BK138.out 2).trans rfl
            have hcz30_3 : wr.cell? ⟨gb138, 3, none⟩ = some (.int .i64 a1_3) := (blk_cell BK138.out 3).trans rfl
            have hcz30_4 : wr.cell? ⟨gb138, 4, none⟩ = some (.string a1_4) := (blk_cell BK138.out 4).trans rfl
            have hcz30_5 : wr.cell? ⟨gb138, 5, none⟩ = some (.int .i64 a1_5) := (blk_cell BK138.out 5).trans rfl
            have hcz30_6 : wr.cell? ⟨gb138, 6, none⟩ = some (.int .i64 a1_6) := (blk_cell BK138.out 6).trans rfl
            have hcz30_7 : wr.cell? ⟨gb138, 7, none⟩ = some (.slice A1_7 l1_7.length c1_7) := (blk_cell BK138.out 7).trans rfl
            have hfz30_0 := blk_frozen BK138.out 0
            have hfz30_1 := blk_frozen BK138.out 1
            have hfz30_2 := blk_frozen BK138.out 2
            have hfz30_3 := blk_frozen BK138.out 3
            have hfz30_4 := blk_frozen BK138.out 4
            have hfz30_5 := blk_frozen BK138.out 5
            have hfz30_6 := blk_frozen BK138.out 6
            have hfz30_7 := blk_frozen BK138.out 7
            have p148 : 0 ≤ (x7_1 : Int) := of_decide_eq_true (by first | (with_reducible assumption) | assumption)
            have q148 : x7_1 < (l1_7.length : Int) := of_decide_eq_true (by first | (with_reducible assumption) | assumption)
            obtain ⟨ad148, e148, hx148_0, hx148_1, hx148_2, hx148_3, hx148_4, hx148_5, hx148_6, hx148_7, hx148_8, hx148_9, hx148_10⟩ := at_T64 HR1_7.out x7_1 p148 q148
            cases e148
            replace hx148_0 := (HB.out.cell (World.block_lt_of_cell? w _ hx148_0)).trans hx148_0
            replace hx148_1 := (HB.out.cell (World.block_lt_of_cell? w _ hx148_1)).trans hx148_1
            replace hx148_2 := (HB.out.cell (World.block_lt_of_cell? w _ hx148_2)).trans hx148_2
            replace hx148_3 := (HB.out.cell (World.block_lt_of_cell? w _ hx148_3)).trans hx148_3
            replace hx148_4 := (HB.out.cell (World.block_lt_of_cell? w _ hx148_4)).trans hx148_4
            replace hx148_5 := (HB.out.cell (World.block_lt_of_cell? w _ hx148_5)).trans hx148_5
            replace hx148_6 := (HB.out.cell (World.block_lt_of_cell? w _ hx148_6)).trans hx148_6
            replace hx148_7 := (HB.out.cell (World.block_lt_of_cell? w _ hx148_7)).trans hx148_7
            replace hx148_8 := (HB.out.cell (World.block_lt_of_cell? w _ hx148_8)).trans hx148_8
            replace hx148_9 := (HB.out.cell (World.block_lt_of_cell? w _ hx148_9)).trans hx148_9
            replace hx148_10 := (HB.out.cell (World.block_lt_of_cell? w _ hx148_10)).trans hx148_10
            replace p148 := eq_true p148
            replace q148 := eq_true q148
            go_wp2_with (first | ((with_reducible refine gate_dst (N := 8) rfl ?_); refine box_event ?hg (N := 8) ?hd (cs := #[.int .i64 0, .int .i64 0, .int .i64 0, .int .i64 0, .int .i64 0, .int .i64 0, .int .i64 0, .int .i64 0, .int .i64 0, .int .i64 0, .int .i64 0]) (t := 64) ?hr ?_; (case hd => rfl); (case hg => rfl); (case hr => first | (go_simp; done) | (go_simp; rfl)); intro gb149 hg w31 hbox hb; have n0_ := Aside0.mk (blk_below (g := gb138) (o := .cells #[.int .i64 a1_0, .int .i64 a1_1, .int .i64 a1_2, .int .i64 a1_3, .string a1_4, .int .i64 a1_5, .int .i64 a1_6, .slice (some ad148) l1_7.length c1_7] 28 (0, 0)) (by (with_reducible repeat (first | refine blk_drewN ?_ _ | refine blk_drew ?_ | refine blk_alloc ?_ _)); exact BK138.out) hb); have n1_ := Aside0.mk (below_step (by repeat (first | (with_reducible first | exact HB.out | apply below_alloc | apply pw_below_drewN | apply below_drew1 | refine below_set ?_ GE138.out) | exact HB.out)) hb); have n2_ := Aside0.mk (hbox); have n3_ := Aside0.mk ((by rw [hg]; exact (below_size (by repeat (first | (with_reducible first | exact HB.out | apply below_alloc | apply pw_below_drewN | apply below_drew1 | refine below_set ?_ GE138.out) | exact HB.out))) : w.heap.size ≤ gb149)); have n4_ := Aside0.mk ((by rw [hg]; exact (below_size (by repeat (first | (with_reducible first | exact HB.out | apply below_alloc | apply pw_below_drewN | apply below_drew1 | refine below_set ?_ GE138.out) | exact HB.out))) : w.heap.size ≤ gb149)); have n5_ := Aside0.mk ((by rw [hg]; exact Nat.ne_of_lt (blk_lt (g := gb138) (o := .cells #[.int .i64 a1_0, .int .i64 a1_1, .int .i64 a1_2, .int .i64 a1_3, .string a1_4, .int .i64 a1_5, .int .i64 a1_6, .slice (some ad148) l1_7.length c1_7] 28 (0, 0)) (by (with_reducible repeat (first | refine blk_drewN ?_ _ | refine blk_drew ?_ | refine blk_alloc ?_ _)); exact BK138.out)) : gb138 ≠ gb149)); have n6_ := Aside0.mk ((by rw [hg]; exact Nat.ne_of_gt (blk_lt (g := gb138) (o := .cells #[.int .i64 a1_0, .int .i64 a1_1, .int .i64 a1_2, .int .i64 a1_3, .string a1_4, .int .i64 a1_5, .int .i64 a1_6, .slice (some ad148) l1_7.length c1_7] 28 (0, 0)) (by (with_reducible repeat (first | refine blk_drewN ?_ _ | refine blk_drew ?_ | refine blk_alloc ?_ _)); exact BK138.out)) : gb149 ≠ gb138)); clear BK138; clear HB; have BK138 := n0_; have HB := n1_; have BK149 := n2_; have GW149 := n3_; have GE149 := n4_; have NB138_149 := n5_; have NB149_138 := n6_; clear n0_ n1_ n2_ n3_ n4_ n5_ n6_; clear hb hbox hg; have hnb32 := NB149_138.out; have hnc32 := NB138_149.out; have hcz33_0 : w31.cell? ⟨gb149, 0, none⟩ = some (.int .i64 0) := (blk_cell BK149.out 0).trans rfl; have hcz33_1 : w31.cell? ⟨gb149, 1, none⟩ = some (.int .i64 0) := (blk_cell BK149.out 1).trans rfl; have hcz33_2 : w31.cell? ⟨gb149, 2, none⟩ = some (.int .i64 0) := (blk_cell BK149.out 2).trans rfl; have hcz33_3 : w31.cell? ⟨gb149, 3, none⟩ = some (.int .i64 0) := (blk_cell BK149.out 3).trans rfl; have hcz33_4 : w31.cell? ⟨gb149, 4, none⟩ = some (.int .i64 0) := (blk_cell BK149.out 4).trans rfl; have hcz33_5 : w31.cell? ⟨gb149, 5, none⟩ = some (.int .i64 0) := (blk_cell BK149.out 5).trans rfl; have hcz33_6 : w31.cell? ⟨gb149, 6, none⟩ = some (.int .i64 0) := (blk_cell BK149.out 6).trans rfl; have hcz33_7 : w31.cell? ⟨gb149, 7, none⟩ = some (.int .i64 0) := (blk_cell BK149.out 7).trans rfl; have hcz33_8 : w31.cell? ⟨gb149, 8, none⟩ = some (.int .i64 0) := (blk_cell BK149.out 8).trans rfl; have hcz33_9 : w31.cell? ⟨gb149, 9, none⟩ = some (.int .i64 0) := (blk_cell BK149.out 9).trans rfl; have hcz33_10 : w31.cell? ⟨gb149, 10, none⟩ = some (.int .i64 0) := (blk_cell BK149.out 10).trans rfl; have hfz33_0 := blk_frozen BK149.out 0; have hfz33_1 := blk_frozen BK149.out 1; have hfz33_2 := blk_frozen BK149.out 2; have hfz33_3 := blk_frozen BK149.out 3; have hfz33_4 := blk_frozen BK149.out 4; have hfz33_5 := blk_frozen BK149.out 5; have hfz33_6 := blk_frozen BK149.out 6; have hfz33_7 := blk_frozen BK149.out 7; have hfz33_8 := blk_frozen BK149.out 8; have hfz33_9 := blk_frozen BK149.out 9; have hfz33_10 := blk_frozen BK149.out 10) | ((with_reducible refine gate_dst (N := 82) rfl ?_); refine Kd.R_lit (Kd.int .i64) _ 3 ?hg (N := 82) ?hd (xs := ([(rd_T64 l1_7 x7_1).f0, (rd_T64 l1_7 x7_1).f1, (rd_T64 l1_7 x7_1).f2, (rd_T64 l1_7 x7_1).f3, (rd_T64 l1_7 x7_1).f4, (rd_T64 l1_7 x7_1).f5, (rd_T64 l1_7 x7_1).f6, (rd_T64 l1_7 x7_1).f7, (rd_T64 l1_7 x7_1).f8, (rd_T64 l1_7 x7_1).f9, (rd_T64 l1_7 x7_1).f10] : List Int)) (inner := [.int .i64 ((rd_T64 l1_7 x7_1).f0), .int .i64 ((rd_T64 l1_7 x7_1).f1), .int .i64 ((rd_T64 l1_7 x7_1).f2), .int .i64 ((rd_T64 l1_7 x7_1).f3), .int .i64 ((rd_T64 l1_7 x7_1).f4), .int .i64 ((rd_T64 l1_7 x7_1).f5), .int .i64 ((rd_T64 l1_7 x7_1).f6), .int .i64 ((rd_T64 l1_7 x7_1).f7), .int .i64 ((rd_T64 l1_7 x7_1).f8), .int .i64 ((rd_T64 l1_7 x7_1).f9), .int .i64 ((rd_T64 l1_7 x7_1).f10)]) (ok := fun _ => True) (okp := fun _ => True) ?hr ?hp (fun _ hk => hk) trivial (Below.refl _ _) (Nat.le_refl _) (by simp) ?_; (case hd => rfl); (case hg => rfl); (case hr => first | (go_simp; done) | (go_simp; rfl)); (case hp => exact (Reps.one (show Kd.M (Kd.int .i64) _ _ _ ((rd_T64 l1_7 x7_1).f0) [.int .i64 ((rd_T64 l1_7 x7_1).f0)] from rfl) (Reps.one (show Kd.M (Kd.int .i64) _ _ _ ((rd_T64 l1_7 x7_1).f1) [.int .i64 ((rd_T64 l1_7 x7_1).f1)] from rfl) (Reps.one (show Kd.M (Kd.int .i64) _ _ _ ((rd_T64 l1_7 x7_1).f2) [.int .i64 ((rd_T64 l1_7 x7_1).f2)] from rfl) (Reps.one (show Kd.M (Kd.int .i64) _ _ _ ((rd_T64 l1_7 x7_1).f3) [.int .i64 ((rd_T64 l1_7 x7_1).f3)] from rfl) (Reps.one (show Kd.M (Kd.int .i64) _ _ _ ((rd_T64 l1_7 x7_1).f4) [.int .i64 ((rd_T64 l1_7 x7_1).f4)] from rfl) (Reps.one (show Kd.M (Kd.int .i64) _ _ _ ((rd_T64 l1_7 x7_1).f5) [.int .i64 ((rd_T64 l1_7 x7_1).f5)] from rfl) (Reps.one (show Kd.M (Kd.int .i64) _ _ _ ((rd_T64 l1_7 x7_1).f6) [.int .i64 ((rd_T64 l1_7 x7_1).f6)] from rfl) (Reps.one (show Kd.M (Kd.int .i64) _ _ _ ((rd_T64 l1_7 x7_1).f7) [.int .i64 ((rd_T64 l1_7 x7_1).f7)] from rfl) (Reps.one (show Kd.M (Kd.int .i64) _ _ _ ((rd_T64 l1_7 x7_1).f8) [.int .i64 ((rd_T64 l1_7 x7_1).f8)] from rfl) (Reps.one (show Kd.M (Kd.int .i64) _ _ _ ((rd_T64 l1_7 x7_1).f9) [.int .i64 ((rd_T64 l1_7 x7_1).f9)] from rfl) (Reps.one (show Kd.M (Kd.int .i64) _ _ _ ((rd_T64 l1_7 x7_1).f10) [.int .i64 ((rd_T64 l1_7 x7_1).f10)] from rfl) (Reps.none _ _))))))))))))); intro v151 w34 ho35 hb hg_ hnew_; clear hg_ hnew_; (first | rw [← Ny150.out] at ho35 | (simp only [Int.reduceToNat] at ho35; rw [← Ny150.out] at ho35)); have n0_ := Aside0.mk (Kd.R_lower ho35 (below_size (by repeat (first | (with_reducible first | exact HB.out | apply below_alloc | apply pw_below_drewN | apply below_drew1 | refine below_set ?_ GE138.out | refine below_set ?_ GE149.out) | exact HB.out)))); have n1_ := Aside0.mk (blk_below (g := gb138) (o := .cells #[.int .i64 a1_0, .int .i64 a1_1, .int .i64 a1_2, .int .i64 a1_3, .string a1_4, .int .i64 a1_5, .int .i64 a1_6, .slice (some ad148) l1_7.length c1_7] 28 (0, 0)) (by (with_reducible repeat (first | refine blk_drewN ?_ _ | refine blk_drew ?_ | refine blk_alloc ?_ _)); refine blk_far ?_ NB138_149.out _; (with_reducible repeat (first | refine blk_drewN ?_ _ | refine blk_drew ?_ | refine blk_alloc ?_ _)); refine blk_far ?_ NB138_149.out _; (with_reducible repeat (first | refine blk_drewN ?_ _ | refine blk_drew ?_ | refine blk_alloc ?_ _)); refine blk_far ?_ NB138_149.out _; (with_reducible repeat (first | refine blk_drewN ?_ _ | refine blk_drew ?_ | refine blk_alloc ?_ _)); refine blk_far ?_ NB138_149.out _; (with_reducible repeat (first | refine blk_drewN ?_ _ | refine blk_drew ?_ | refine blk_alloc ?_ _)); refine blk_far ?_ NB138_149.out _; (with_reducible repeat (first | refine blk_drewN ?_ _ | refine blk_drew ?_ | refine blk_alloc ?_ _)); refine blk_far ?_ NB138_149.out _; (with_reducible repeat (first | refine blk_drewN ?_ _ | refine blk_drew ?_ | refine blk_alloc ?_ _)); refine blk_far ?_ NB138_149.out _; (with_reducible repeat (first | refine blk_drewN ?_ _ | refine blk_drew ?_ | refine blk_alloc ?_ _)); refine blk_far ?_ NB138_149.out _; (with_reducible repeat (first | refine blk_drewN ?_ _ | refine blk_drew ?_ | refine blk_alloc ?_ _)); refine blk_far ?_ NB138_149.out _; (with_reducible repeat (first | refine blk_drewN ?_ _ | refine blk_drew ?_ | refine blk_alloc ?_ _)); refine blk_far ?_ NB138_149.out _; (with_reducible repeat (first | refine blk_drewN ?_ _ | refine blk_drew ?_ | refine blk_alloc ?_ _)); refine blk_far ?_ NB138_149.out _; (with_reducible repeat (first | refine blk_drewN ?_ _ | refine blk_drew ?_ | refine blk_alloc ?_ _)); exact BK138.out) hb); have n2_ := Aside0.mk (blk_below (g := gb149) (o := .cells #[.int .i64 ((rd_T64 l1_7 x7_1).f0), .int .i64 ((rd_T64 l1_7 x7_1).f1), .int .i64 ((rd_T64 l1_7 x7_1).f2), .int .i64 ((rd_T64 l1_7 x7_1).f3), .int .i64 ((rd_T64 l1_7 x7_1).f4), .int .i64 ((rd_T64 l1_7 x7_1).f5), .int .i64 ((rd_T64 l1_7 x7_1).f6), .int .i64 ((rd_T64 l1_7 x7_1).f7), .int .i64 ((rd_T64 l1_7 x7_1).f8), .int .i64 ((rd_T64 l1_7 x7_1).f9), .int .i64 ((rd_T64 l1_7 x7_1).f10)] 64 (0, 0)) (by (with_reducible repeat (first | refine blk_drewN ?_ _ | refine blk_drew ?_ | refine blk_alloc ?_ _)); refine blk_put (cs := #[.int .i64 ((rd_T64 l1_7 x7_1).f0), .int .i64 ((rd_T64 l1_7 x7_1).f1), .int .i64 ((rd_T64 l1_7 x7_1).f2), .int .i64 ((rd_T64 l1_7 x7_1).f3), .int .i64 ((rd_T64 l1_7 x7_1).f4), .int .i64 ((rd_T64 l1_7 x7_1).f5), .int .i64 ((rd_T64 l1_7 x7_1).f6), .int .i64 ((rd_T64 l1_7 x7_1).f7), .int .i64 ((rd_T64 l1_7 x7_1).f8), .int .i64 ((rd_T64 l1_7 x7_1).f9), .int .i64 0]) ?_ 10 _ rfl; (with_reducible repeat (first | refine blk_drewN ?_ _ | refine blk_drew ?_ | refine blk_alloc ?_ _)); refine blk_put (cs := #[.int .i64 ((rd_T64 l1_7 x7_1).f0), .int .i64 ((rd_T64 l1_7 x7_1).f1), .int .i64 ((rd_T64 l1_7 x7_1).f2), .int .i64 ((rd_T64 l1_7 x7_1).f3), .int .i64 ((rd_T64 l1_7 x7_1).f4), .int .i64 ((rd_T64 l1_7 x7_1).f5), .int .i64 ((rd_T64 l1_7 x7_1).f6), .int .i64 ((rd_T64 l1_7 x7_1).f7), .int .i64 ((rd_T64 l1_7 x7_1).f8), .int .i64 0, .int .i64 0]) ?_ 9 _ rfl; (with_reducible repeat (first | refine blk_drewN ?_ _ | refine blk_drew ?_ | refine blk_alloc ?_ _)); refine blk_put (cs := #[.int .i64 ((rd_T64 l1_7 x7_1).f0), .int .i64 ((rd_T64 l1_7 x7_1).f1), .int .i64 ((rd_T64 l1_7 x7_1).f2), .int .i64 ((rd_T64 l1_7 x7_1).f3), .int .i64 ((rd_T64 l1_7 x7_1).f4), .int .i64 ((rd_T64 l1_7 x7_1).f5), .int .i64 ((rd_T64 l1_7 x7_1).f6), .int .i64 ((rd_T64 l1_7 x7_1).f7), .int .i64 0, .int .i64 0, .int .i64 0]) ?_ 8 _ rfl; (with_reducible repeat (first | refine blk_drewN ?_ _ | refine blk_drew ?_ | refine blk_alloc ?_ _)); refine blk_put (cs := #[.int .i64 ((rd_T64 l1_7 x7_1).f0), .int .i64 ((rd_T64 l1_7 x7_1).f1), .int .i64 ((rd_T64 l1_7 x7_1).f2), .int .i64 ((rd_T64 l1_7 x7_1).f3), .int .i64 ((rd_T64 l1_7 x7_1).f4), .int .i64 ((rd_T64 l1_7 x7_1).f5), .int .i64 ((rd_T64 l1_7 x7_1).f6), .int .i64 0, .int .i64 0, .int .i64 0, .int .i64 0]) ?_ 7 _ rfl; (with_reducible repeat (first | refine blk_drewN ?_ _ | refine blk_drew ?_ | refine blk_alloc ?_ _)); refine blk_put (cs := #[.int .i64 ((rd_T64 l1_7 x7_1).f0), .int .i64 ((rd_T64 l1_7 x7_1).f1), .int .i64 ((rd_T64 l1_7 x7_1).f2), .int .i64 ((rd_T64 l1_7 x7_1).f3), .int .i64 ((rd_T64 l1_7 x7_1).f4), .int .i64 ((rd_T64 l1_7 x7_1).f5), .int .i64 0, .int .i64 0, .int .i64 0, .int .i64 0, .int .i64 0]) ?_ 6 _ rfl; (with_reducible repeat (first | refine blk_drewN ?_ _ | refine blk_drew ?_ | refine blk_alloc ?_ _)); refine blk_put (cs := #[.int .i64 ((rd_T64 l1_7 x7_1).f0), .int .i64 ((rd_T64 l1_7 x7_1).f1), .int .i64 ((rd_T64 l1_7 x7_1).f2), .int .i64 ((rd_T64 l1_7 x7_1).f3), .int .i64 ((rd_T64 l1_7 x7_1).f4), .int .i64 0, .int .i64 0, .int .i64 0, .int .i64 0, .int .i64 0, .int .i64 0]) ?_ 5 _ rfl; (with_reducible repeat (first | refine blk_drewN ?_ _ | refine blk_drew ?_ | refine blk_alloc ?_ _)); refine blk_put (cs := #[.int .i64 ((rd_T64 l1_7 x7_1).f0), .int .i64 ((rd_T64 l1_7 x7_1).f1), .int .i64 ((rd_T64 l1_7 x7_1).f2), .int .i64 ((rd_T64 l1_7 x7_1).f3), .int .i64 0, .int .i64 0, .int .i64 0, .int .i64 0, .int .i64 0, .int .i64 0, .int .i64 0]) ?_ 4 _ rfl; (with_reducible repeat (first | refine blk_drewN ?_ _ | refine blk_drew ?_ | refine blk_alloc ?_ _)); refine blk_put (cs := #[.int .i64 ((rd_T64 l1_7 x7_1).f0), .int .i64 ((rd_T64 l1_7 x7_1).f1), .int .i64 ((rd_T64 l1_7 x7_1).f2), .int .i64 0, .int .i64 0, .int .i64 0, .int .i64 0, .int .i64 0, .int .i64 0, .int .i64 0, .int .i64 0]) ?_ 3 _ rfl; (with_reducible repeat (first | refine blk_drewN ?_ _ | refine blk_drew ?_ | refine blk_alloc ?_ _)); refine blk_put (cs := #[.int .i64 ((rd_T64 l1_7 x7_1).f0), .int .i64 ((rd_T64 l1_7 x7_1).f1), .int .i64 0, .int .i64 0, .int .i64 0, .int .i64 0, .int .i64 0, .int .i64 0, .int .i64 0, .int .i64 0, .int .i64 0]) ?_ 2 _ rfl; (with_reducible repeat (first | refine blk_drewN ?_ _ | refine blk_drew ?_ | refine blk_alloc ?_ _)); refine blk_put (cs := #[.int .i64 ((rd_T64 l1_7 x7_1).f0), .int .i64 0, .int .i64 0, .int .i64 0, .int .i64 0, .int .i64 0, .int .i64 0, .int .i64 0, .int .i64 0, .int .i64 0, .int .i64 0]) ?_ 1 _ rfl; (with_reducible repeat (first | refine blk_drewN ?_ _ | refine blk_drew ?_ | refine blk_alloc ?_ _)); refine blk_put (cs := #[.int .i64 0, .int .i64 0, .int .i64 0, .int .i64 0, .int .i64 0, .int .i64 0, .int .i64 0, .int .i64 0, .int .i64 0, .int .i64 0, .int .i64 0]) ?_ 0 _ rfl; (with_reducible repeat (first | refine blk_drewN ?_ _ | refine blk_drew ?_ | refine blk_alloc ?_ _)); exact BK149.out) hb); have n3_ := Aside0.mk (below_step (by repeat (first | (with_reducible first | exact HB.out | apply below_alloc | apply pw_below_drewN | apply below_drew1 | refine below_set ?_ GE138.out | refine below_set ?_ GE149.out) | exact HB.out)) hb); clear BK138; clear BK149; clear HB; have HO152 := n0_; have BK138 := n1_; have BK149 := n2_; have HB := n3_; clear n0_ n1_ n2_ n3_; clear hb ho35; obtain ⟨Ao36, co36, eo36⟩ := Kd.R_slice HO152.out; subst eo36) | ((with_reducible refine gate_callee (f := 41) rfl ?_); refine goesL_ (some 83) rfl rfl Try.func41 (by kernel_rfl) rfl #[.string x0_1, .slice Ao36 y150.length co36] rfl (by (try simp only [List.map_toArray, List.map_cons, List.map_nil]); first | done | rfl | (simp only [List.length_drop, List.length_take]; rfl)) ?_; (with_reducible refine (storagebarterref01_PutList.calls k1 x0_1 _ _ y150 t153 _ ?side1 ?side2 A29.out).mono ?_); (case side1 => repeat (first | exact (Kd.R_reads' HO152.out).2.2 | (with_reducible refine Kd.C_alloc ?_ _) | (with_reducible refine Kd.C_drewN ?_ _) | (with_reducible refine Kd.C_drew ?_))); (case side2 => exact (Kd.R_reads' HO152.out).2.1); rintro e w37 ⟨rfl, hb⟩; refine ⟨_, rfl, ?_⟩; have n0_ := Aside0.mk (Kd.R_below (by (with_reducible repeat (first | apply Kd.R_alloc | apply Kd.R_drewN | apply Kd.R_drew)); exact HO152.out) hb); have n1_ := Aside0.mk (blk_below (g := gb138) (o := .cells #[.int .i64 a1_0, .int .i64 a1_1, .int .i64 a1_2, .int .i64 a1_3, .string a1_4, .int .i64 a1_5, .int .i64 a1_6, .slice (some ad148) l1_7.length c1_7] 28 (0, 0)) (by (with_reducible repeat (first | refine blk_drewN ?_ _ | refine blk_drew ?_ | refine blk_alloc ?_ _)); exact BK138.out) hb); have n2_ := Aside0.mk (blk_below (g := gb149) (o := .cells #[.int .i64 ((rd_T64 l1_7 x7_1).f0), .int .i64 ((rd_T64 l1_7 x7_1).f1), .int .i64 ((rd_T64 l1_7 x7_1).f2), .int .i64 ((rd_T64 l1_7 x7_1).f3), .int .i64 ((rd_T64 l1_7 x7_1).f4), .int .i64 ((rd_T64 l1_7 x7_1).f5), .int .i64 ((rd_T64 l1_7 x7_1).f6), .int .i64 ((rd_T64 l1_7 x7_1).f7), .int .i64 ((rd_T64 l1_7 x7_1).f8), .int .i64 ((rd_T64 l1_7 x7_1).f9), .int .i64 ((rd_T64 l1_7 x7_1).f10)] 64 (0, 0)) (by (with_reducible repeat (first | refine blk_drewN ?_ _ | refine blk_drew ?_ | refine blk_alloc ?_ _)); exact BK149.out) hb); have n3_ := Aside0.mk (below_step (by repeat (first | (with_reducible first | exact HB.out | apply below_alloc | apply pw_below_drewN | apply below_drew1 | refine below_set ?_ GE138.out | refine below_set ?_ GE149.out) | exact HB.out)) hb); clear HO152; clear BK138; clear BK149; clear HB; have HO152 := n0_; have BK138 := n1_; have BK149 := n2_; have HB := n3_; clear n0_ n1_ n2_ n3_; (try clear hb); (try clear hb2); (try clear hk); (try clear hi)))
            go_roundg k1
            case measure => have := HK1.out; omega
            case rel => exact ⟨(t153), (wrap64 (x7_1 + 1)), (by first | rfl | (simp; done) | (simp [*]; done)), (by first | rfl | (simp; done) | (simp [*]; done)), H', ⟨by have := HK1.out; omega⟩, ⟨by (with_reducible repeat (first | refine blk_drewN ?_ _ | refine blk_drew ?_ | refine blk_alloc ?_ _)); exact BK138.out⟩, ⟨by repeat (first | (with_reducible first | exact HB.out | apply below_alloc | apply pw_below_drewN | apply below_drew1 | refine below_set ?_ GE138.out | refine below_set ?_ GE149.out) | exact HB.out)⟩⟩
          · rw [if_neg c28] at H
            exact absurd H (by simp)
        · rw [if_neg c27] at H
          have c27b0 : decide (x7_1 < (l1_7.length : Int)) = false := decide_eq_false c27
          clear c27
          simp only [Option.some.injEq, Prod.mk.injEq] at H
          obtain ⟨rfl, rfl⟩ := H
          have hcz38_0 : wr.cell? ⟨gb138, 0, none⟩ = some (.int .i64 a1_0) := (blk_cell BK138.out 0).trans rfl
          have hcz38_1 : wr.cell? ⟨gb138, 1, none⟩ = some (.int .i64 a1_1) := (blk_cell BK138.out 1).trans rfl
          have hcz38_2 : wr.cell? ⟨gb138, 2, none⟩ = some (.int .i64 a1_2) := (blk_cell BK138.out 2).trans rfl
          have hcz38_3 : wr.cell? ⟨gb138, 3, none⟩ = some (.int .i64 a1_3) := (blk_cell BK138.out 3).trans rfl
          have hcz38_4 : wr.cell? ⟨gb138, 4, none⟩ = some (.string a1_4) := (blk_cell BK138.out 4).trans rfl
          have hcz38_5 : wr.cell? ⟨gb138, 5, none⟩ = some (.int .i64 a1_5) := (blk_cell BK138.out 5).trans rfl
          have hcz38_6 : wr.cell? ⟨gb138, 6, none⟩ = some (.int .i64 a1_6) := (blk_cell BK138.out 6).trans rfl
          have hcz38_7 : wr.cell? ⟨gb138, 7, none⟩ = some (.slice A1_7 l1_7.length c1_7) := (blk_cell BK138.out 7).trans rfl
          have hfz38_0 := blk_frozen BK138.out 0
          have hfz38_1 := blk_frozen BK138.out 1
          have hfz38_2 := blk_frozen BK138.out 2
          have hfz38_3 := blk_frozen BK138.out 3
          have hfz38_4 := blk_frozen BK138.out 4
          have hfz38_5 := blk_frozen BK138.out 5
          have hfz38_6 := blk_frozen BK138.out 6
          have hfz38_7 := blk_frozen BK138.out 7
          go_wp2
          go_ret2
          exact ⟨by first | rfl | (simp [errW_none, errW_some] <;> rfl) | (simp [*, errW_none, errW_some] <;> rfl), by repeat (first | (with_reducible first | exact HB.out | apply below_alloc | apply pw_below_drewN | apply below_drew1 | refine below_set ?_ GE138.out) | exact HB.out)⟩
  · rw [if_neg c4] at H
    have c4b0 : (t139 == 0) = false := beq_eq_false_iff_ne.mpr c4
    have c4b1 : (t139 != 0) = true := bne_iff_ne.mpr c4
    simp only [Option.some.injEq, Prod.mk.injEq] at H
    obtain ⟨rfl, rfl⟩ := H
    go_enter Try.func21, Try.ntmps21
    go_wp2_with (first | ((with_reducible refine gate_dst (N := 3) rfl ?_); refine box_event ?hg (N := 3) ?hd (cs := #[.int .i64 a1_0, .int .i64 a1_1, .int .i64 a1_2, .int .i64 a1_3, .string a1_4, .int .i64 a1_5, .int .i64 a1_6, .slice A1_7 l1_7.length c1_7]) (t := 28) ?hr ?_; (case hd => rfl); (case hg => rfl); (case hr => first | (go_simp; done) | (go_simp; rfl)); intro gb138 hg w39 hbox hb; have n0_ := Aside0.mk (below_step (by repeat (first | (with_reducible first | exact HB.out | apply below_alloc | apply pw_below_drewN | apply below_drew1) | exact HB.out)) hb); have n1_ := Aside0.mk (hbox); have n2_ := Aside0.mk ((by rw [hg]; exact (below_size (by repeat (first | (with_reducible first | exact HB.out | apply below_alloc | apply pw_below_drewN | apply below_drew1) | exact HB.out))) : w.heap.size ≤ gb138)); have n3_ := Aside0.mk ((by rw [hg]; exact (below_size (by repeat (first | (with_reducible first | exact HB.out | apply below_alloc | apply pw_below_drewN | apply below_drew1) | exact HB.out))) : w.heap.size ≤ gb138)); clear HB; have HB := n0_; have BK138 := n1_; have GW138 := n2_; have GE138 := n3_; clear n0_ n1_ n2_ n3_; clear hb hbox hg; have hcz40_0 : w39.cell? ⟨gb138, 0, none⟩ = some (.int .i64 a1_0) := (blk_cell BK138.out 0).trans rfl; have hcz40_1 : w39.cell? ⟨gb138, 1, none⟩ = some (.int .i64 a1_1) := (blk_cell BK138.out 1).trans rfl; have hcz40_2 : w39.cell? ⟨gb138, 2, none⟩ = some (.int .i64 a1_2) := (blk_cell BK138.out 2).trans rfl; have hcz40_3 : w39.cell? ⟨gb138, 3, none⟩ = some (.int .i64 a1_3) := (blk_cell BK138.out 3).trans rfl; have hcz40_4 : w39.cell? ⟨gb138, 4, none⟩ = some (.string a1_4) := (blk_cell BK138.out 4).trans rfl; have hcz40_5 : w39.cell? ⟨gb138, 5, none⟩ = some (.int .i64 a1_5) := (blk_cell BK138.out 5).trans rfl; have hcz40_6 : w39.cell? ⟨gb138, 6, none⟩ = some (.int .i64 a1_6) := (blk_cell BK138.out 6).trans rfl; have hcz40_7 : w39.cell? ⟨gb138, 7, none⟩ = some (.slice A1_7 l1_7.length c1_7) := (blk_cell BK138.out 7).trans rfl; have hfz40_0 := blk_frozen BK138.out 0; have hfz40_1 := blk_frozen BK138.out 1; have hfz40_2 := blk_frozen BK138.out 2; have hfz40_3 := blk_frozen BK138.out 3; have hfz40_4 := blk_frozen BK138.out 4; have hfz40_5 := blk_frozen BK138.out 5; have hfz40_6 := blk_frozen BK138.out 6; have hfz40_7 := blk_frozen BK138.out 7) | ((with_reducible refine gate_callee (f := 23) rfl ?_); refine goesL_ (some 10) rfl rfl Try.func23 (by kernel_rfl) rfl #[.agg #[.int .i64 a1_0, .int .i64 a1_1, .int .i64 a1_2, .int .i64 a1_3, .string a1_4, .int .i64 a1_5, .int .i64 a1_6, .slice A1_7 l1_7.length c1_7]] rfl (by (try simp only [List.map_toArray, List.map_cons, List.map_nil]); first | done | rfl | (simp only [List.length_drop, List.length_take]; rfl)) ?_; (with_reducible refine (storagebarterref42_Check.calls a1_0 a1_1 a1_2 a1_3 a1_4 a1_5 a1_6 _ _ l1_7 t139 _ ?side1 ?side2 A3.out).mono ?_); (case side1 => repeat (first | exact (Kd.C_below HR1_7.out HB.out) | (with_reducible refine Kd.C_alloc ?_ _) | (with_reducible refine Kd.C_drewN ?_ _) | (with_reducible refine Kd.C_drew ?_))); (case side2 => exact HC1_7.out); rintro e w41 ⟨rfl, hb⟩; refine ⟨_, rfl, ?_⟩; have n0_ := Aside0.mk (blk_below (g := gb138) (o := .cells #[.int .i64 a1_0, .int .i64 a1_1, .int .i64 a1_2, .int .i64 a1_3, .string a1_4, .int .i64 a1_5, .int .i64 a1_6, .slice A1_7 l1_7.length c1_7] 28 (0, 0)) (by (with_reducible repeat (first | refine blk_drewN ?_ _ | refine blk_drew ?_ | refine blk_alloc ?_ _)); exact BK138.out) hb); have n1_ := Aside0.mk (below_step (by repeat (first | (with_reducible first | exact HB.out | apply below_alloc | apply pw_below_drewN | apply below_drew1 | refine below_set ?_ GE138.out) | exact HB.out)) hb); clear BK138; clear HB; have BK138 := n0_; have HB := n1_; clear n0_ n1_; (try clear hb); (try clear hb2); (try clear hk); (try clear hi)))
    go_ret2
    exact ⟨by first | rfl | (simp [errW_none, errW_some] <;> rfl) | (simp [*, errW_none, errW_some] <;> rfl), by repeat (first | (with_reducible first | exact HB.out | apply below_alloc | apply pw_below_drewN | apply below_drew1 | refine below_set ?_ GE138.out) | exact HB.out)⟩
end Go.Proofs.Ytcjdnahgffkbdaa.Q

namespace Go.Proofs.Ytcjdnahgffkbdaa.Q
open Go.RowKit Go.Proofs.YtcjdnahgffkbdaaW.PrintWords Go.Proofs.YtcjdnahgffkbdaaW.PrintLast Go.Proofs.YtcjdnahgffkbdaaW.PrintMore Go.Proofs.Ytcjdnahgffkbdaa.Gput Go.Proofs.Ytcjdnahgffkbdaa.Gputl
attribute [local go_sem] max2_int min2_int max_two min_two max_three min_three max_four min_four   -- for this text's walks alone
set_option linter.unusedVariables false
set_option linter.unusedSimpArgs false
def storagebarterref42_Encode.l0 : Nat → List (S28) → ByteArray → Int → Option (ByteArray × Int)
  | 0, _, _, _ => none
  | k + 1, x0, x4, x5 => if x5 < (x0.length : Int) then (if 0 ≤ x5 then ((storagebarterref42_Put.f k x4 ((rd_T28 x0 x5).f0) ((rd_T28 x0 x5).f1) ((rd_T28 x0 x5).f2) ((rd_T28 x0 x5).f3) ((rd_T28 x0 x5).f4) ((rd_T28 x0 x5).f5.f0) ((rd_T28 x0 x5).f5.f1) ((rd_T28 x0 x5).f5.f2)).bind fun bt156 => (if bt156.2 = 0 then (storagebarterref42_Encode.l0 k x0 bt156.1 (wrap64 (x5 + 1))) else (some ((⟨#[]⟩ : ByteArray), bt156.2)))) else (none)) else (some (x4, 0))
def storagebarterref42_Encode.f (k : Nat) (l0 : List (S28)) : Option (ByteArray × Int) := if (l0.length : Int) > 256 then (some ((⟨#[]⟩ : ByteArray), 4)) else ((storagebarterref01_PutInt.f k (⟨#[]⟩ : ByteArray) (l0.length : Int)).bind fun t154 => (storagebarterref42_Encode.l0 k l0 t154 0))
theorem storagebarterref42_Encode.mono_l : ∀ k, (∀ y0 y1 y2, LeO (storagebarterref42_Encode.l0 k y0 y1 y2) (storagebarterref42_Encode.l0 (k + 1) y0 y1 y2))
  | 0 => fun _ _ _ r h => by simp [storagebarterref42_Encode.l0] at h
  | k + 1 => by
    have ih0 := storagebarterref42_Encode.mono_l k
    · intro y0 y1 y2
      unfold storagebarterref42_Encode.l0
      repeat' first
      | (with_reducible exact ih0 _ _ _)
      | (with_reducible exact storagebarterref01_PutInt.mono _ _ _)
      | (with_reducible exact storagebarterref42_Put.mono _ _ _ _ _ _ _ _ _ _)
      | (with_reducible exact LeO.refl _)
      | (with_reducible exact LeO.none _)
      | (with_reducible refine LeO.ite ?_ ?_)
      | (with_reducible refine LeO.bind ?_ (fun _ => ?_))
      | exact ih0 _ _ _
      | exact storagebarterref01_PutInt.mono _ _ _
      | exact storagebarterref42_Put.mono _ _ _ _ _ _ _ _ _ _
      | exact LeO.none _
      | refine LeO.ite ?_ ?_
      | refine LeO.bind ?_ (fun _ => ?_)
theorem storagebarterref42_Encode.mono : ∀ a0 k, LeO (storagebarterref42_Encode.f k a0) (storagebarterref42_Encode.f (k + 1) a0) := by
  intro a0 k
  have ih0 := storagebarterref42_Encode.mono_l k
  unfold storagebarterref42_Encode.f
  repeat' first
      | (with_reducible exact ih0 _ _ _)
      | (with_reducible exact storagebarterref01_PutInt.mono _ _ _)
      | (with_reducible exact storagebarterref42_Put.mono _ _ _ _ _ _ _ _ _ _)
      | (with_reducible exact LeO.refl _)
      | (with_reducible exact LeO.none _)
      | (with_reducible refine LeO.ite ?_ ?_)
      | (with_reducible refine LeO.bind ?_ (fun _ => ?_))
      | exact ih0 _ _ _
      | exact storagebarterref01_PutInt.mono _ _ _
      | exact storagebarterref42_Put.mono _ _ _ _ _ _ _ _ _ _
      | exact LeO.none _
      | refine LeO.ite ?_ ?_
      | refine LeO.bind ?_ (fun _ => ?_)
set_option maxHeartbeats 8000000 in
set_option maxRecDepth 100000 in
theorem storagebarterref42_Encode.calls (k : Nat) (A0 : Option Addr) (c0 : Nat) (l0 : List (S28)) (r1 : ByteArray) (r2 : Int) (w : World) (hr0 : Kd.C k28 w A0 l0.length l0) (hc0 : l0.length ≤ c0) (h : storagebarterref42_Encode.f k l0 = some (r1, r2)) :
    Calls Try.prog 9 #[.slice A0 l0.length c0] w fun e w' => e = .returned (.tuple #[.string r1, .int .i64 r2]) ∧ Below w.heap.size w w' := by
  have hu28 := Try.underlying28
  have HR0 := Aside0.mk hr0
  have HC0 := Aside0.mk hc0
  clear hr0 hc0
  have HB := Aside0.mk (Below.refl w.heap.size w)
  have H : (if (l0.length : Int) > 256 then (some ((⟨#[]⟩ : ByteArray), 4)) else ((storagebarterref01_PutInt.f k (⟨#[]⟩ : ByteArray) (l0.length : Int)).bind fun t154 => (storagebarterref42_Encode.l0 k l0 t154 0))) = some (r1, r2) := h
  clear h
  by_cases c2 : (l0.length : Int) > 256
  · rw [if_pos c2] at H
    have c2b0 : decide (256 < (l0.length : Int)) = true := decide_eq_true c2
    have c2b1 : decide (256 < l0.length) = true := decide_eq_true (by omega)
    clear c2
    simp only [Option.some.injEq, Prod.mk.injEq] at H
    obtain ⟨rfl, rfl⟩ := H
    go_enter Try.func9, Try.ntmps9
    go_wp2
    go_ret2
    exact ⟨by first | rfl | (simp [errW_none, errW_some] <;> rfl) | (simp [*, errW_none, errW_some] <;> rfl), by repeat (first | (with_reducible first | exact HB.out | apply below_alloc | apply pw_below_drewN | apply below_drew1) | exact HB.out)⟩
  · rw [if_neg c2] at H
    have c2b0 : decide (256 < (l0.length : Int)) = false := decide_eq_false c2
    have c2b1 : decide (256 < l0.length) = false := decide_eq_false (by omega)
    clear c2
    replace H := Option.bind_eq_some_iff.mp H
    obtain ⟨t154, A30, H⟩ := H
    replace H : (storagebarterref42_Encode.l0 k l0 t154 0) = some (r1, r2) := H
    have A3 := Aside0.mk A30
    clear A30
    have H' := Aside0.mk H
    clear H
    go_enter Try.func9, Try.ntmps9
    go_wp2_with (first | ((with_reducible refine gate_callee (f := 25) rfl ?_); refine goesL_ (some 13) rfl rfl Try.func25 (by kernel_rfl) rfl #[.string (⟨#[]⟩ : ByteArray), .int .i64 (l0.length : Int)] rfl (by (try simp only [List.map_toArray, List.map_cons, List.map_nil]); first | done | rfl | (simp only [List.length_drop, List.length_take]; rfl)) ?_; (with_reducible refine (storagebarterref01_PutInt.calls k (⟨#[]⟩ : ByteArray) (l0.length : Int) t154 _ A3.out).mono ?_); rintro e w4 ⟨rfl, hb⟩; refine ⟨_, rfl, ?_⟩; have n0_ := Aside0.mk (below_step (by repeat (first | (with_reducible first | exact HB.out | apply below_alloc | apply pw_below_drewN | apply below_drew1) | exact HB.out)) hb); clear HB; have HB := n0_; clear n0_; (try clear hb); (try clear hb2); (try clear hk); (try clear hi)))
    go_loopg [4, 5] k (fun kq v4 v5 w' => ∃ (x4_1 : ByteArray) (x5_1 : Int), v4 = .string x4_1 ∧ v5 = .int .i64 x5_1 ∧ Aside0 (storagebarterref42_Encode.l0 kq l0 x4_1 x5_1 = some (r1, r2)) ∧ Aside0 (kq ≤ k) ∧ Aside0 (Below w.heap.size w w'))
    case atStart => exact ⟨(t154), (0), (by first | rfl | (simp; done) | (simp [*]; done)), (by first | rfl | (simp; done) | (simp [*]; done)), H', ⟨Nat.le_refl _⟩, ⟨by repeat (first | (with_reducible first | exact HB.out | apply below_alloc | apply pw_below_drewN | apply below_drew1) | exact HB.out)⟩⟩
    case round =>
      clear H'
      try clear c2
      try clear c2b0
      try clear c2b1
      try clear p2
      obtain ⟨x4_1, x5_1, rfl, rfl, HA, HK1, HB⟩ := hrel
      cases gk with
      | zero => exact absurd HA.out (by simp [storagebarterref42_Encode.l0])
      | succ k1 =>
        have H := HA.out
        clear HA
        simp only [storagebarterref42_Encode.l0] at H
        by_cases c5 : x5_1 < (l0.length : Int)
        · rw [if_pos c5] at H
          have c5b0 : decide (x5_1 < (l0.length : Int)) = true := decide_eq_true c5
          clear c5
          by_cases c6 : 0 ≤ x5_1
          · rw [if_pos c6] at H
            have c6b0 : decide (0 ≤ x5_1) = true := decide_eq_true c6
            clear c6
            replace H := Option.bind_eq_some_iff.mp H
            obtain ⟨⟨t156, t157⟩, A70, H⟩ := H
            replace H : (if t157 = 0 then (storagebarterref42_Encode.l0 k1 l0 t156 (wrap64 (x5_1 + 1))) else (some ((⟨#[]⟩ : ByteArray), t157))) = some (r1, r2) := H
            have A7 := Aside0.mk A70
            clear A70
            by_cases c8 : t157 = 0
            · rw [if_pos c8] at H
              have c8b0 : (t157 == 0) = true := beq_iff_eq.mpr c8
              have c8b1 : (t157 != 0) = false := bne_eq_false_iff_eq.mpr c8
              clear c8
              have H' := Aside0.mk H
              clear H
              have p155 : 0 ≤ (x5_1 : Int) := of_decide_eq_true (by first | (with_reducible assumption) | assumption)
              have q155 : x5_1 < (l0.length : Int) := of_decide_eq_true (by first | (with_reducible assumption) | assumption)
              obtain ⟨ad155, A155_7, c155_7, e155, hx155_0, hx155_1, hx155_2, hx155_3, hx155_4, hx155_5, hx155_6, hx155_7, hl155_7, hi155_7⟩ := at_T28 HR0.out x5_1 p155 q155
              cases e155
              replace hx155_0 := (HB.out.cell (World.block_lt_of_cell? w _ hx155_0)).trans hx155_0
              replace hx155_1 := (HB.out.cell (World.block_lt_of_cell? w _ hx155_1)).trans hx155_1
              replace hx155_2 := (HB.out.cell (World.block_lt_of_cell? w _ hx155_2)).trans hx155_2
              replace hx155_3 := (HB.out.cell (World.block_lt_of_cell? w _ hx155_3)).trans hx155_3
              replace hx155_4 := (HB.out.cell (World.block_lt_of_cell? w _ hx155_4)).trans hx155_4
              replace hx155_5 := (HB.out.cell (World.block_lt_of_cell? w _ hx155_5)).trans hx155_5
              replace hx155_6 := (HB.out.cell (World.block_lt_of_cell? w _ hx155_6)).trans hx155_6
              replace hx155_7 := (HB.out.cell (World.block_lt_of_cell? w _ hx155_7)).trans hx155_7
              have HR155_7 := Aside0.mk hi155_7
              have HC155_7 := Aside0.mk hl155_7
              clear hi155_7 hl155_7
              replace p155 := eq_true p155
              replace q155 := eq_true q155
              go_wp2_with (first | ((with_reducible refine gate_callee (f := 21) rfl ?_); refine goesL_ (some 26) rfl rfl Try.func21 (by kernel_rfl) rfl #[.string x4_1, .agg #[.int .i64 ((rd_T28 l0 x5_1).f0), .int .i64 ((rd_T28 l0 x5_1).f1), .int .i64 ((rd_T28 l0 x5_1).f2), .int .i64 ((rd_T28 l0 x5_1).f3), .string ((rd_T28 l0 x5_1).f4), .int .i64 ((rd_T28 l0 x5_1).f5.f0), .int .i64 ((rd_T28 l0 x5_1).f5.f1), .slice A155_7 ((rd_T28 l0 x5_1).f5.f2).length c155_7]] rfl (by (try simp only [List.map_toArray, List.map_cons, List.map_nil]); first | done | rfl | (simp only [List.length_drop, List.length_take]; rfl)) ?_; (with_reducible refine (storagebarterref42_Put.calls k1 x4_1 ((rd_T28 l0 x5_1).f0) ((rd_T28 l0 x5_1).f1) ((rd_T28 l0 x5_1).f2) ((rd_T28 l0 x5_1).f3) ((rd_T28 l0 x5_1).f4) ((rd_T28 l0 x5_1).f5.f0) ((rd_T28 l0 x5_1).f5.f1) _ _ ((rd_T28 l0 x5_1).f5.f2) t156 t157 _ ?side1 ?side2 A7.out).mono ?_); (case side1 => repeat (first | exact (Kd.C_below HR155_7.out HB.out) | (with_reducible refine Kd.C_alloc ?_ _) | (with_reducible refine Kd.C_drewN ?_ _) | (with_reducible refine Kd.C_drew ?_))); (case side2 => exact HC155_7.out); rintro e w9 ⟨rfl, hb⟩; refine ⟨_, rfl, ?_⟩; have n0_ := Aside0.mk (below_step (by repeat (first | (with_reducible first | exact HB.out | apply below_alloc | apply pw_below_drewN | apply below_drew1) | exact HB.out)) hb); clear HB; have HB := n0_; clear n0_; (try clear hb); (try clear hb2); (try clear hk); (try clear hi)))
              go_roundg k1
              case measure => have := HK1.out; omega
              case rel => exact ⟨(t156), (wrap64 (x5_1 + 1)), (by first | rfl | (simp; done) | (simp [*]; done)), (by first | rfl | (simp; done) | (simp [*]; done)), H', ⟨by have := HK1.out; omega⟩, ⟨by repeat (first | (with_reducible first | exact HB.out | apply below_alloc | apply pw_below_drewN | apply below_drew1) | exact HB.out)⟩⟩
            · rw [if_neg c8] at H
              have c8b0 : (t157 == 0) = false := beq_eq_false_iff_ne.mpr c8
              have c8b1 : (t157 != 0) = true := bne_iff_ne.mpr c8
              simp only [Option.some.injEq, Prod.mk.injEq] at H
              obtain ⟨rfl, rfl⟩ := H
              have p155 : 0 ≤ (x5_1 : Int) := of_decide_eq_true (by first | (with_reducible assumption) | assumption)
              have q155 : x5_1 < (l0.length : Int) := of_decide_eq_true (by first | (with_reducible assumption) | assumption)
              obtain ⟨ad155, A155_7, c155_7, e155, hx155_0, hx155_1, hx155_2, hx155_3, hx155_4, hx155_5, hx155_6, hx155_7, hl155_7, hi155_7⟩ := at_T28 HR0.out x5_1 p155 q155
              cases e155
              replace hx155_0 := (HB.out.cell (World.block_lt_of_cell? w _ hx155_0)).trans hx155_0
              replace hx155_1 := (HB.out.cell (World.block_lt_of_cell? w _ hx155_1)).trans hx155_1
              replace hx155_2 := (HB.out.cell (World.block_lt_of_cell? w _ hx155_2)).trans hx155_2
              replace hx155_3 := (HB.out.cell (World.block_lt_of_cell? w _ hx155_3)).trans hx155_3
              replace hx155_4 := (HB.out.cell (World.block_lt_of_cell? w _ hx155_4)).trans hx155_4
              replace hx155_5 := (HB.out.cell (World.block_lt_of_cell? w _ hx155_5)).trans hx155_5
              replace hx155_6 := (HB.out.cell (World.block_lt_of_cell? w _ hx155_6)).trans hx155_6
              replace hx155_7 := (HB.out.cell (World.block_lt_of_cell? w _ hx155_7)).trans hx155_7
              have HR155_7 := Aside0.mk hi155_7
              have HC155_7 := Aside0.mk hl155_7
              clear hi155_7 hl155_7
              replace p155 := eq_true p155
              replace q155 := eq_true q155
              go_wp2_with (first | ((with_reducible refine gate_callee (f := 21) rfl ?_); refine goesL_ (some 26) rfl rfl Try.func21 (by kernel_rfl) rfl #[.string x4_1, .agg #[.int .i64 ((rd_T28 l0 x5_1).f0), .int .i64 ((rd_T28 l0 x5_1).f1), .int .i64 ((rd_T28 l0 x5_1).f2), .int .i64 ((rd_T28 l0 x5_1).f3), .string ((rd_T28 l0 x5_1).f4), .int .i64 ((rd_T28 l0 x5_1).f5.f0), .int .i64 ((rd_T28 l0 x5_1).f5.f1), .slice A155_7 ((rd_T28 l0 x5_1).f5.f2).length c155_7]] rfl (by (try simp only [List.map_toArray, List.map_cons, List.map_nil]); first | done | rfl | (simp only [List.length_drop, List.length_take]; rfl)) ?_; (with_reducible refine (storagebarterref42_Put.calls k1 x4_1 ((rd_T28 l0 x5_1).f0) ((rd_T28 l0 x5_1).f1) ((rd_T28 l0 x5_1).f2) ((rd_T28 l0 x5_1).f3) ((rd_T28 l0 x5_1).f4) ((rd_T28 l0 x5_1).f5.f0) ((rd_T28 l0 x5_1).f5.f1) _ _ ((rd_T28 l0 x5_1).f5.f2) t156 t157 _ ?side1 ?side2 A7.out).mono ?_); (case side1 => repeat (first | exact (Kd.C_below HR155_7.out HB.out) | (with_reducible refine Kd.C_alloc ?_ _) | (with_reducible refine Kd.C_drewN ?_ _) | (with_reducible refine Kd.C_drew ?_))); (case side2 => exact HC155_7.out); rintro e w10 ⟨rfl, hb⟩; refine ⟨_, rfl, ?_⟩; have n0_ := Aside0.mk (below_step (by repeat (first | (with_reducible first | exact HB.out | apply below_alloc | apply pw_below_drewN | apply below_drew1) | exact HB.out)) hb); clear HB; have HB := n0_; clear n0_; (try clear hb); (try clear hb2); (try clear hk); (try clear hi)))
              go_ret2
              exact ⟨by first | rfl | (simp [errW_none, errW_some] <;> rfl) | (simp [*, errW_none, errW_some] <;> rfl), by repeat (first | (with_reducible first | exact HB.out | apply below_alloc | apply pw_below_drewN | apply below_drew1) | exact HB.out)⟩
          · rw [if_neg c6] at H
            exact absurd H (by simp)
        · rw [if_neg c5] at H
          have c5b0 : decide (x5_1 < (l0.length : Int)) = false := decide_eq_false c5
          clear c5
          simp only [Option.some.injEq, Prod.mk.injEq] at H
          obtain ⟨rfl, rfl⟩ := H
          go_wp2
          go_ret2
          exact ⟨by first | rfl | (simp [errW_none, errW_some] <;> rfl) | (simp [*, errW_none, errW_some] <;> rfl), by repeat (first | (with_reducible first | exact HB.out | apply below_alloc | apply pw_below_drewN | apply below_drew1) | exact HB.out)⟩
end Go.Proofs.Ytcjdnahgffkbdaa.Q

namespace Go.Proofs.Ytcjdnahgffkbdaa.Son
open Go Go.RowKit Go.Proofs Go.Proofs.Ytcjdnahgffkbdaa.Gm Go.Proofs.Ytcjdnahgffkbdaa.Gwa Go.Proofs.Ytcjdnahgffkbdaa.Gwb Go.Proofs.Ytcjdnahgffkbdaa.Gwd Go.Proofs.Ytcjdnahgffkbdaa.Spt Go.Proofs.Ytcjdnahgffkbdaa.Sen Go.Proofs.Ytcjdnahgffkbdaa.Srt Go.Proofs.Ytcjdnahgffkbdaa.Snx Go.Proofs.Ytcjdnahgffkbdaa.Q Go.Proofs.Ytcjdnahgffkbdaa.Gput Go.Proofs.YtcjdnahgffkbdaaW.PrintWords Go.Proofs.YtcjdnahgffkbdaaW.PrintLast Go.Proofs.YtcjdnahgffkbdaaW.PrintMore
set_option linter.unusedVariables false
def num (a b : Int) : Int := if a < b then -1 else if a > b then 1 else 0
theorem num_eq (a b : Int) : storagebarterref23_number.f a b = some (num a b) := by
  unfold storagebarterref23_number.f num
  by_cases h : a < b
  · rw [if_pos h, if_pos h]
  · rw [if_neg h, if_neg h]
    by_cases h2 : a > b
    · rw [if_pos h2, if_pos h2]
    · rw [if_neg h2, if_neg h2]
theorem num_zero {a b : Int} : num a b = 0 ↔ a = b := by
  unfold num
  by_cases h : a < b
  · rw [if_pos h]; omega
  · rw [if_neg h]
    by_cases h2 : a > b
    · rw [if_pos h2]; omega
    · rw [if_neg h2]; omega
/-- The first number that is not 0. -/
def fnz : List Int → Int
  | [] => 0
  | x :: xs => if x = 0 then fnz xs else x
theorem fnz_zero : ∀ (l : List Int), fnz l = 0 ↔ ∀ x ∈ l, x = 0
  | [] => by simp [fnz]
  | x :: xs => by
    have ih := fnz_zero xs
    by_cases h : x = 0
    · simp [fnz, h, ih]
    · simp [fnz, h]
theorem first_l0 (l : List Int) (hl : l.length ≤ 1000000) : ∀ (d i k : Nat), l.length - i = d → i ≤ l.length → d < k → storagebarterref23_first.l0 k l (i : Int) = some (fnz (l.drop i)) := by
  intro d
  induction d with
  | zero =>
    intro i k hd hi hk
    obtain ⟨k, rfl⟩ : ∃ m, k = m + 1 := ⟨k - 1, by omega⟩
    rw [storagebarterref23_first.l0, if_neg (by omega), List.drop_of_length_le (by omega)]
    rfl
  | succ d ih =>
    intro i k hd hi hk
    obtain ⟨k, rfl⟩ : ∃ m, k = m + 1 := ⟨k - 1, by omega⟩
    have hil : i < l.length := by omega
    have e : rd l (i : Int) = l[i] := by simp [rd, List.getD, hil]
    rw [storagebarterref23_first.l0, if_pos (by omega), if_pos (by omega), e, List.drop_eq_getElem_cons hil, fnz]
    by_cases h : l[i] = 0
    · rw [if_pos h, if_pos h, Gwa.w64 (x := (i : Int) + 1) (by omega), show ((i : Int) + 1) = ((i + 1 : Nat) : Int) by omega]
      exact ih (i + 1) k (by omega) (by omega) (by omega)
    · rw [if_neg h, if_neg h]
theorem first_eq (l : List Int) (k : Nat) (hl : l.length ≤ 1000000) (hk : l.length < k) : storagebarterref23_first.f k l = some (fnz l) := by
  have h := first_l0 l hl l.length 0 k rfl (by omega) hk
  rw [List.drop_zero] at h
  exact h
theorem say_eq (s u : S64) (k : Nat) (hk : 12 ≤ k) : ∃ c, storagebarterref23_say.f k s.f0 s.f1 s.f2 s.f3 s.f4 s.f5 s.f6 s.f7 s.f8 s.f9 s.f10 u.f0 u.f1 u.f2 u.f3 u.f4 u.f5 u.f6 u.f7 u.f8 u.f9 u.f10 = some c ∧ (c = 0 ↔ s = u) := by
  unfold storagebarterref23_say.f
  simp only [num_eq, Option.bind_some]
  rw [first_eq _ k (by simp) (by simp; omega), Option.bind_some]
  refine ⟨_, rfl, ?_⟩
  rw [fnz_zero]
  simp only [List.mem_cons, List.not_mem_nil, or_false, forall_eq_or_imp, forall_eq, num_zero]
  constructor
  · rintro ⟨h0, h1, h2, h3, h4, h5, h6, h7, h8, h9, h10⟩
    cases s
    cases u
    simp_all
  · rintro rfl
    simp
theorem says_l0 (a b : List S64) (hab : a.length = b.length) (hl : a.length ≤ 1000000) : ∀ (d i k : Nat), a.length - i = d → i ≤ a.length → d + 13 ≤ k → ∃ c, storagebarterref23_says.l0 k a b (i : Int) = some c ∧ (c = 0 ↔ a.drop i = b.drop i) := by
  intro d
  induction d with
  | zero =>
    intro i k hd hi hk
    obtain ⟨k, rfl⟩ : ∃ m, k = m + 1 := ⟨k - 1, by omega⟩
    rw [storagebarterref23_says.l0, if_neg (by omega), List.drop_of_length_le (by omega), List.drop_of_length_le (by omega)]
    exact ⟨0, rfl, by simp⟩
  | succ d ih =>
    intro i k hd hi hk
    obtain ⟨k, rfl⟩ : ∃ m, k = m + 1 := ⟨k - 1, by omega⟩
    have hia : i < a.length := by omega
    have hib : i < b.length := by omega
    have ea : rd_T64 a (i : Int) = a[i] := by simp [rd_T64, List.getD, hia]
    have eb : rd_T64 b (i : Int) = b[i] := by simp [rd_T64, List.getD, hib]
    obtain ⟨c, hc, hz⟩ := say_eq a[i] b[i] k (by omega)
    rw [storagebarterref23_says.l0, if_pos (by omega), if_pos (by omega), if_pos (by omega), ea, eb, hc, Option.bind_some, show a.drop i = a[i] :: a.drop (i + 1) from List.drop_eq_getElem_cons hia, show b.drop i = b[i] :: b.drop (i + 1) from List.drop_eq_getElem_cons hib]
    by_cases h : c = 0
    · rw [if_pos h, Gwa.w64 (x := (i : Int) + 1) (by omega), show ((i : Int) + 1) = ((i + 1 : Nat) : Int) by omega]
      obtain ⟨c', h1, h2⟩ := ih (i + 1) k (by omega) (by omega) (by omega)
      exact ⟨c', h1, by rw [h2, List.cons.injEq]; exact ⟨fun z => ⟨hz.1 h, z⟩, fun z => z.2⟩⟩
    · rw [if_neg h]
      exact ⟨c, rfl, by simp only [List.cons.injEq]; constructor; · intro z; exact absurd z h
                        · rintro ⟨z, -⟩; exact hz.2 z⟩
theorem says_eq (a b : List S64) (k : Nat) (hl : a.length ≤ 1000000) (hk : a.length + 13 ≤ k) : ∃ c, storagebarterref23_says.f k a b = some c ∧ (c = 0 ↔ a = b) := by
  unfold storagebarterref23_says.f
  by_cases h : a.length = b.length
  · rw [if_pos (by omega)]
    have := says_l0 a b h hl a.length 0 k rfl (by omega) (by omega)
    simpa using this
  · rw [if_neg (by omega), num_eq, Option.bind_some]
    refine ⟨_, rfl, ?_⟩
    rw [num_zero]
    constructor
    · intro z; omega
    · rintro rfl; exact absurd rfl h
theorem text_nil : storagebarterref23_text.f (⟨#[]⟩ : ByteArray) (⟨#[]⟩ : ByteArray) = some 0 := by
  unfold storagebarterref23_text.f
  rw [show (⟨#[]⟩ : ByteArray).toList = [] from B_toList []]
  rfl
theorem toList_inj {a b : ByteArray} : a.toList = b.toList ↔ a = b := by
  obtain ⟨x, rfl⟩ := exB a
  obtain ⟨y, rfl⟩ := exB b
  rw [B_toList, B_toList]
  exact ⟨fun h => by rw [h], fun h => by have := congrArg (fun z => z.data.toList) h; simpa [B_data] using this⟩
/-- One event, another one. -/
theorem one_eq (x y : S28) (k : Nat) (hl : x.f5.f2.length ≤ 1000000) (hk : x.f5.f2.length + 20 ≤ k) :
    ∃ b, storagebarterref42_One.f k x.f0 x.f1 x.f2 x.f3 x.f4 x.f5.f0 x.f5.f1 x.f5.f2 y.f0 y.f1 y.f2 y.f3 y.f4 y.f5.f0 y.f5.f1 y.f5.f2 = some b ∧ (b = true ↔ x = y) := by
  have hx : x = y ↔ x.f0 = y.f0 ∧ x.f1 = y.f1 ∧ x.f2 = y.f2 ∧ x.f3 = y.f3 ∧ x.f4 = y.f4 ∧ x.f5.f0 = y.f5.f0 ∧ x.f5.f1 = y.f5.f1 ∧ x.f5.f2 = y.f5.f2 := by
    obtain ⟨x0, x1, x2, x3, x4, ⟨x5, x6, x7⟩⟩ := x
    obtain ⟨y0, y1, y2, y3, y4, ⟨y5, y6, y7⟩⟩ := y
    simp
  unfold storagebarterref42_One.f storagebarterref23_Same.f storagebarterref23_Compare.f
  rw [hx]
  by_cases h0 : x.f0 = y.f0
  case neg => rw [if_neg h0]; exact ⟨false, rfl, by simp [h0]⟩
  by_cases h1 : x.f1 = y.f1
  case neg => rw [if_pos h0, if_neg h1]; exact ⟨false, rfl, by simp [h1]⟩
  by_cases h2 : x.f2 = y.f2
  case neg => rw [if_pos h0, if_pos h1, if_neg h2]; exact ⟨false, rfl, by simp [h2]⟩
  by_cases h3 : x.f3 = y.f3
  case neg => rw [if_pos h0, if_pos h1, if_pos h2, if_neg h3]; exact ⟨false, rfl, by simp [h3]⟩
  by_cases h4 : x.f4 = y.f4
  case neg => rw [if_pos h0, if_pos h1, if_pos h2, if_pos h3, if_neg (fun z => h4 (toList_inj.1 z))]; exact ⟨false, rfl, by simp [h4]⟩
  obtain ⟨c0, e0, z0⟩ := says_eq ([] : List S64) [] k (by simp) (by simp; omega)
  obtain ⟨c, e, z⟩ := says_eq x.f5.f2 y.f5.f2 k hl (by omega)
  rw [if_pos h0, if_pos h1, if_pos h2, if_pos h3, if_pos (toList_inj.2 h4)]
  simp only [num_eq, text_nil, e0, e, Option.bind_some]
  rw [first_eq _ k (by simp) (by simp; omega)]
  simp only [Option.bind_some]
  refine ⟨_, rfl, ?_⟩
  rw [beq_iff_eq, fnz_zero]
  simp only [List.mem_cons, List.not_mem_nil, or_false, forall_eq_or_imp, forall_eq, num_zero, z, z0]
  simp [h0, h1, h2, h3, h4]
end Go.Proofs.Ytcjdnahgffkbdaa.Son

namespace Go.Proofs.Ytcjdnahgffkbdaa.Sjn
open Go Go.RowKit Go.Proofs Go.Proofs.Ytcjdnahgffkbdaa.Gm Go.Proofs.Ytcjdnahgffkbdaa.Spt Go.Proofs.Ytcjdnahgffkbdaa.Sgt Go.Proofs.Ytcjdnahgffkbdaa.Srt Go.Proofs.Ytcjdnahgffkbdaa.Ssa Go.Proofs.Ytcjdnahgffkbdaa.Spd Go.Proofs.Ytcjdnahgffkbdaa.Spe Go.Proofs.Ytcjdnahgffkbdaa.Sps Go.Proofs.Ytcjdnahgffkbdaa.Slw Go.Proofs.Ytcjdnahgffkbdaa.Son Go.Proofs.Ytcjdnahgffkbdaa.Q Go.Proofs.YtcjdnahgffkbdaaW.PrintWords Go.Proofs.YtcjdnahgffkbdaaW.PrintLast Go.Proofs.YtcjdnahgffkbdaaW.PrintMore
set_option linter.unusedVariables false
/-- A row of one's own stands, where another one of another type was written. -/
theorem R_over {α β : Type} {d : Kd α} {d2 : Kd β} {e e2 : Nat} {w w1 : World} {base base2 : Nat} {ok ok2 : Nat → Prop} {u v : Value} {xs : List α} {ys : List β} (h : d.R e w base ok u xs) (h2 : d2.R e2 w base2 ok2 v ys) (ht : ∀ q, q ∈ e :: d.E → q ≠ e2) (hg : w.grownBy w1 v.ownBlock) : d.R e w1 base ok u xs := by
  refine Kd.R_mono (Kd.R_move (Kd.R_bound h) (fun k hk => hg.block k hk.2.2.1 (fun he => ?_))) (fun _ hk => hk.1)
  obtain ⟨_, _, _, q, hq, cells, hc⟩ := hk
  obtain ⟨hok, inner, ho, hr⟩ := h2
  rcases ho.2 with ⟨h1, h2⟩ | ⟨g', cap, cur, h1, hg, hb, h2, h3, h4, h5⟩
  · rw [h1] at he
    cases he
  · rw [h1] at he
    have e' : k = g' := by simpa [Value.ownBlock] using he
    subst e'
    rw [hb] at hc
    injection hc with hc
    injection hc with _ hc
    exact ht q hq hc.symm
/-- 'head'. -/
def hd_ : List UInt8 := [104, 101, 97, 100]
def pre (es : List S28) (j : Nat) : List UInt8 := hd_ ++ putEs (es.take j)
def en (es : List S28) (j : Nat) : Int := ((pre es j).length : Int)
def ends (es : List S28) (k : Nat) : List Int := (List.range (k + 1)).map (en es)
theorem ends_succ (es : List S28) (k : Nat) : ends es (k + 1) = ends es k ++ [en es (k + 1)] := by unfold ends; rw [List.range_succ, List.map_append]; rfl
theorem ends_len (es : List S28) (k : Nat) : (ends es k).length = k + 1 := by unfold ends; simp
theorem pre_succ (es : List S28) (k : Nat) (h : k < es.length) : pre es (k + 1) = pre es k ++ putE es[k] := by
  unfold pre putEs
  rw [List.take_succ_eq_append_getElem h, List.flatMap_append]
  simp
theorem pre_len (es : List S28) (h : ∀ x ∈ es, EvS x) (hl : es.length ≤ 20) (j : Nat) : (pre es j).length ≤ 2000000 := by
  have h1 := putEs_len (es.take j) (fun x hx => h x (List.mem_of_mem_take hx))
  have h2 : (es.take j).length ≤ 20 := by rw [List.length_take]; omega
  unfold pre hd_
  rw [List.length_append]
  simp only [List.length_cons, List.length_nil]
  omega
theorem B_pre (p q : List UInt8) : (B (p ++ q)).extract 0 p.length = B p := by
  rw [B_extract]
  simp
theorem putE_pos (x : S28) : 0 < (putE x).length := by
  have := putI_pos x.f0
  unfold putE
  simp only [List.length_append]
  omega
/-- The script, and the places so far. -/
structure JW (w W : World) (A : Option Addr) (c : Nat) (es : List S28) (v : Value) (xs : List Int) : Prop where
  hb : Below w.heap.size w W
  ce : Kd.R k28 28 W w.heap.size (fun _ => True) (.slice A es.length c) es
  cr : Kd.R (Kd.int .i64) 3 W w.heap.size (fun _ => True) v xs
section
variable {w W W' : World} {A : Option Addr} {c : Nat} {es : List S28} {v v1 : Value} {xs xs' : List Int}
theorem JW.below (h : JW w W A c es v xs) (hb : Below W.heap.size W W') : JW w W' A c es v xs := ⟨below_step h.hb hb, Kd.R_below h.ce hb, Kd.R_below h.cr hb⟩
theorem JW.app (h : JW w W A c es v xs) (hr : Kd.R (Kd.int .i64) 3 W' w.heap.size (fun _ => True) v1 xs') (hg : W.grownBy W' v.ownBlock) : JW w W' A c es v1 xs' :=
  ⟨h.hb.grown hg h.hb.size (fun b e => Kd.R_base h.cr b e), R_over h.ce h.cr (by first | decide | (intro q hq; rcases List.mem_cons.1 hq with h_ | h_; (subst h_; decide); (first | (cases h_; done) | (simp [k28, k26, k64] at h_; first | done | (subst h_; decide))))) hg, hr⟩
end
theorem evr_x {w W : World} {gd : Nat} {L : List Int} (h : DI w W gd L) (m : Int) (hm : 0 ≤ m ∧ m ≤ 15) : Calls Try.prog 13 #[.pointer (some ⟨gd, 0, none⟩), .int .i64 m] W fun e w' =>
    ∃ (A : Option Addr) (c : Nat) (es : List S28), e = .returned (.slice A es.length c) ∧ Kd.R k28 28 w' w.heap.size (fun _ => True) (.slice A es.length c) es ∧ (∀ x ∈ es, EvS x) ∧ (4 ≤ es.length ∧ es.length ≤ 20) ∧ Below w.heap.size w w' := by
  obtain ⟨n, rfl⟩ : ∃ n : Nat, m = (n : Int) := ⟨m.toNat, by omega⟩
  refine (events_x h n (by omega)).mono fun e w' z => ?_
  obtain ⟨A, c, es, rfl, hR, hok, hl, hd, hk⟩ := z
  exact ⟨A, c, es, rfl, Kd.R_lower hR h.hb.size, hok, by omega, hd.hb⟩
theorem R_ad {α : Type} {d : Kd α} {e : Nat} {w : World} {base n c : Nat} {ok : Nat → Prop} {A : Option Addr} {xs : List α} (h : d.R e w base ok (.slice A n c) xs) (hn : 0 < n) : ∃ g, A = some ⟨g, 0, none⟩ := by
  obtain ⟨hok, inner, ho, hr⟩ := h
  rcases ho.2 with ⟨h1, h2⟩ | ⟨g', cap, cur, h1, hg, hb, h2, h3, h4, h5⟩
  · simp only [Value.slice.injEq] at h1
    omega
  · simp only [Value.slice.injEq] at h1
    exact ⟨g', h1.1⟩
theorem add0 (g i : Nat) : (⟨g, 0, none⟩ : Addr).add i = ⟨g, i, none⟩ := by cases i <;> simp [Addr.add]
theorem ends_rd (es : List S28) (n j : Nat) (h : j ≤ n) : rd (ends es n) (j : Int) = en es j := by
  unfold ends rd
  rw [Int.toNat_natCast, List.getD_eq_getElem?_getD, List.getElem?_map, List.getElem?_range (by omega)]
  rfl
theorem get_pre (es : List S28) (j : Nat) (h : j < es.length) (hok : okE es[j]) : getR (pre es es.length) (en es j) = (es[j], en es (j + 1), 0) := by
  have e : pre es es.length = pre es j ++ (putE es[j] ++ putEs (es.drop (j + 1))) := by
    unfold pre putEs
    rw [List.take_length]
    conv => lhs; rw [← List.take_append_drop j es, List.flatMap_append, List.drop_eq_getElem_cons h, List.flatMap_cons]
    rw [List.append_assoc]
  rw [e]
  have := get_put (p := pre es j) (q := putEs (es.drop (j + 1))) hok
  unfold en
  rw [pre_succ es j h]
  exact this
theorem one_same (x : S28) (h : x.f5.f2.length ≤ 10) : storagebarterref42_One.f 30 x.f0 x.f1 x.f2 x.f3 x.f4 x.f5.f0 x.f5.f1 x.f5.f2 x.f0 x.f1 x.f2 x.f3 x.f4 x.f5.f0 x.f5.f1 x.f5.f2 = some true := by
  obtain ⟨b, h1, h2⟩ := one_eq x x 30 (by omega) (by omega)
  rw [h1, h2.2 rfl]
theorem getB_x (tb : ByteArray) (l : List UInt8) (hb_ : tb = B l) (a : Int) (hs : l.length ≤ 17592186044416) (w : World) (x : S28) (b e : Int) (hr : getR l a = (x, b, e)) :
    Calls Try.prog 15 #[.string tb, .int .i64 a] w fun e' w' => ∃ v : Value, e' = .returned (.tuple #[.agg #[.int .i64 x.f0, .int .i64 x.f1, .int .i64 x.f2, .int .i64 x.f3, .string x.f4, .int .i64 x.f5.f0, .int .i64 x.f5.f1, v], .int .i64 b, .int .i64 e]) ∧ Kd.R k64 64 w' w.heap.size (fun _ => True) v x.f5.f2 ∧ Below w.heap.size w w' := by
  subst hb_
  exact get_x l a hs w x b e hr
theorem putB_x (tb : ByteArray) (b : List UInt8) (hb_ : tb = B b) (x0 x1 x2 x3 : Int) (tl : List UInt8) (x5 x6 : Int) (A : Option Addr) (c : Nat) (ss : List S64) (w : World) (hC : Kd.C k64 w A ss.length ss) (hc : ss.length ≤ c) (hx : WE ⟨x0, x1, x2, x3, B tl, ⟨x5, x6, ss⟩⟩) (hb : b.length ≤ 100000000) (r : ByteArray) (e : Int) (hr : putR b ⟨x0, x1, x2, x3, B tl, ⟨x5, x6, ss⟩⟩ = (r, e)) :
    Calls Try.prog 14 #[.string tb, .agg #[.int .i64 x0, .int .i64 x1, .int .i64 x2, .int .i64 x3, .string (B tl), .int .i64 x5, .int .i64 x6, .slice A ss.length c]] w fun e' w' => e' = .returned (.tuple #[.string r, .int .i64 e]) ∧ Below w.heap.size w w' := by
  subst hb_
  exact put_x b x0 x1 x2 x3 tl x5 x6 A c ss w hC hc hx hb r e hr
theorem R_one {w W : World} (hb : Below w.heap.size w W) {es : List S28} : Kd.R (Kd.int .i64) 3 (W.alloc (.cells #[.int .i64 4] 3)) w.heap.size (fun _ => True) (.slice (some ⟨W.heap.size, 0, none⟩) 1 1) (ends es 0) := by
  have he : ends es 0 = [4] := by unfold ends en pre putEs hd_; simp
  rw [he]
  exact R_of_block rfl trivial hb.size (heap_alloc_new _ _) (Nat.le_refl _) (by decide) rfl (Reps.snoc (Reps.none _ _) rfl rfl)
set_option maxRecDepth 100000 in
set_option maxHeartbeats 8000000 in
theorem joins_x (A0 : Option Addr) (c0 : Nat) (l0 : List Int) (w : World) (hr : Kd.C (Kd.int .u8) w A0 l0.length l0) (hc : l0.length ≤ c0) (hw : ∀ n ∈ l0, (Lit.int .u8 n).wf = true) :
    Calls Try.prog 4 #[.slice A0 l0.length c0] w fun e w' => e = .returned (.bool true) ∧ Below w.heap.size w w' := by
  have mixed : (Try.prog).follows .mixedOrders = true := by kernel_rfl
  have hu28 := Try.underlying28
  have hu26 := Try.underlying26
  have HR := Aside0.mk hr
  have HC := Aside0.mk hc
  have HW := Aside0.mk hw
  clear hr hc hw
  go_enter Try.func4, Try.ntmps4
  go_upto_region 5 with (first | (go_at_call 7; go_loud (with_reducible refine (sane_x _).mono ?_); go_loud (rintro e w1 ⟨rfl, hb⟩; have HB := Aside0.mk hb; clear hb)) | (go_at_call 12; go_loud (with_reducible refine (new_x A0 c0 l0 w _ HB.out HR.out HC.out HW.out).mono ?_); go_loud (rintro e w2 ⟨g, L, rfl, hd⟩; have HD := Aside0.mk hd; clear HB hd)) | (go_at_call 13; go_loud (with_reducible refine (evr_x HD.out 6 (by decide)).mono ?_); go_loud (rintro e w3 ⟨A, c, es, rfl, hR, hok, hl, hb⟩; have HE := Aside0.mk hR; have HO := Aside0.mk hok; have HL := Aside0.mk hl.2; have HB := Aside0.mk hb; clear HD hR hok hl hb)))
  go_wp2
  go_loopw [4, 5, 23] (fun s4 s5 s23 wr => ∃ (k : Nat) (v : Value) (tb : ByteArray), k ≤ es.length ∧ s23 = .int .i64 k ∧ s4 = .string tb ∧ s5 = v ∧ Aside0 (tb = B (pre es k)) ∧ Aside0 (JW w wr A c es v (ends es k))) (fun _ _ s23 _ => es.length - (intOf s23).toNat)
  case atStart => exact ⟨0, _, _, by omega, rfl, rfl, rfl, ⟨by unfold pre putEs hd_; rfl⟩, ⟨JW.mk (below_alloc HB.out _) (Kd.R_below HE.out (below_alloc (Below.refl _ _) _)) (R_one HB.out)⟩⟩
  case round =>
    clear HE HB
    obtain ⟨k, v, tb, hk, rfl, rfl, rfl, HTB, HX⟩ := hrel
    obtain ⟨A1, c1, hv⟩ := Kd.R_slice HX.out.cr
    subst hv
    by_cases hks : k < es.length
    case neg =>
      obtain rfl : k = es.length := by omega
      have hnn : es.length ≤ 20 := HL.out
      obtain ⟨ge, hge⟩ := R_ad HX.out.cr (by rw [ends_len]; omega)
      subst hge
      obtain ⟨ne, hne⟩ : ∃ ne, (ends es es.length).length = ne := ⟨_, rfl⟩
      have hn1 : ne ≤ es.length + 1 := by rw [← hne, ends_len]; omega
      have hn2 : es.length + 1 ≤ ne := by rw [← hne, ends_len]; omega
      rw [hne] at HX ⊢
      have HNE := Aside0.mk hne
      clear hne
      go_wp2
      go_loopw [59] (fun s59 wr2 => ∃ j : Nat, j ≤ es.length ∧ s59 = .int .i64 j ∧ Aside0 (JW w wr2 A c es (.slice (some ⟨ge, 0, none⟩) ne c1) (ends es es.length))) (fun s59 _ => es.length - (intOf s59).toNat)
      case atStart => exact ⟨0, by omega, rfl, HX⟩
      case round =>
        clear HX
        obtain ⟨j, hj, rfl, HX⟩ := hrel
        by_cases hjs : j < es.length
        case neg =>
          obtain rfl : j = es.length := by omega
          go_wp2
          go_ret
          exact ⟨rfl, HX.out.hb⟩
        case pos =>
        have hji : (j : Int) < (es.length : Int) := by omega
        obtain ⟨x, hxk⟩ : ∃ x, x = es[j] := ⟨_, rfl⟩
        obtain ⟨ad, A7, c7, ead, hx0, hx1, hx2, hx3, hx4, hx5, hx6, hx7, hl7, hi7⟩ := at_T28 (Kd.R_reads' HX.out.ce).2.2 (j : Int) (by omega) (by omega)
        cases ead
        rw [show rd_T28 es (j : Int) = x by rw [hxk]; simp [rd_T28, List.getD, hjs]] at hx0 hx1 hx2 hx3 hx4 hx5 hx6 hx7 hl7 hi7
        simp only [Int.toNat_natCast] at hx0 hx1 hx2 hx3 hx4 hx5 hx6 hx7
        obtain ⟨ae, eae, he0⟩ := Kd.at_int (Kd.R_reads' HX.out.cr).2.2 (j : Int) (by omega) (by rw [HNE.out]; omega)
        cases eae
        obtain ⟨ae2, eae, he1⟩ := Kd.at_int (Kd.R_reads' HX.out.cr).2.2 ((j : Int) + 1) (by omega) (by rw [HNE.out]; omega)
        cases eae
        rw [show ((j : Int) + 1).toNat = j + 1 by omega] at he1
        rw [Int.toNat_natCast] at he0
        rw [ends_rd es es.length j (by omega)] at he0
        rw [show (j : Int) + 1 = ((j + 1 : Nat) : Int) by omega, ends_rd es es.length (j + 1) (by omega)] at he1
        have HES : Aside0 (EvS x) := ⟨by rw [hxk]; exact HO.out _ (List.getElem_mem hjs)⟩
        obtain ⟨p1, hp1⟩ : ∃ p1, en es j = p1 := ⟨_, rfl⟩
        obtain ⟨p2, hp2⟩ : ∃ p2, en es (j + 1) = p2 := ⟨_, rfl⟩
        have HG : Aside0 (getR (pre es es.length) p1 = (x, p2, 0)) := ⟨by rw [← hp1, ← hp2, hxk]; exact get_pre es j hjs (by rw [← hxk]; exact HES.out.ok)⟩
        rw [hp1] at he0
        rw [hp2] at he1
        replace he0 : wr.cell? ⟨ge, j, none⟩ = some (.int .i64 p1) := by rw [add0 ge j] at he0; exact he0
        replace he1 : wr.cell? ⟨ge, j + 1, none⟩ = some (.int .i64 p2) := by rw [add0 ge (j + 1)] at he1; exact he1
        have hae0 := World.block_lt_of_cell? wr _ he0
        have HE1 := Aside0.mk he1
        have HI7 := Aside0.mk hi7
        clear hxk hi7 hp1 hp2 he1
        obtain ⟨x0, x1, x2, x3, x4, ⟨x5, x6, ss⟩⟩ := x
        dsimp only at hx0 hx1 hx2 hx3 hx4 hx5 hx6 hx7 hl7
        have HO1 := Aside0.mk (one_same ⟨x0, x1, x2, x3, x4, ⟨x5, x6, ss⟩⟩ (by have := HES.out.sy; omega))
        have hjb : j + 1 ≤ 20 := by omega
        have hj1 : IntKind.i64.wrap ((j : Int) + 1) = (j : Int) + 1 := wsml (by omega)
        have hji0 : (j : Int) < (ne : Int) := by omega
        have hji1 : (j : Int) + 1 < (ne : Int) := by omega
        go_wp2_with (first | (go_at_call 15; go_loud (with_reducible refine (getB_x tb (pre es es.length) HTB.out p1 (by have := pre_len es HO.out HL.out es.length; omega) _ ⟨x0, x1, x2, x3, x4, ⟨x5, x6, ss⟩⟩ p2 0 HG.out).mono ?_); go_loud (rintro e w5 ⟨v, rfl, hR, hb⟩; obtain ⟨AS, cS, ev⟩ := Kd.R_slice hR; subst ev; have HBW := Aside0.mk (below_step (below_alloc (Below.refl wr.heap.size wr) (.cells #[.int .i64 x0, .int .i64 x1, .int .i64 x2, .int .i64 x3, .string x4, .int .i64 x5, .int .i64 x6, .slice A7 ss.length c7] 28)) hb); have n_ := Aside0.mk (HX.out.below HBW.out); have HN := Aside0.mk (blk_below (heap_alloc_new wr (.cells #[.int .i64 x0, .int .i64 x1, .int .i64 x2, .int .i64 x3, .string x4, .int .i64 x5, .int .i64 x6, .slice A7 ss.length c7] 28)) hb); have n11 := blk_lt HN.out; have HCS := Aside0.mk (Kd.R_reads' hR); have HC7 := Aside0.mk (Kd.C_below HI7.out HBW.out); clear HX hb hR; have HX := n_; clear n_; have he1_ := (HBW.out.cell (World.block_lt_of_cell? wr _ HE1.out)).trans HE1.out; have hae1 := World.block_lt_of_cell? w5 _ he1_; have q11_0 : w5.cell? ⟨wr.heap.size, 0, none⟩ = some (.int .i64 x0) := (blk_cell HN.out 0).trans rfl; have q11_1 : w5.cell? ⟨wr.heap.size, 1, none⟩ = some (.int .i64 x1) := (blk_cell HN.out 1).trans rfl; have q11_2 : w5.cell? ⟨wr.heap.size, 2, none⟩ = some (.int .i64 x2) := (blk_cell HN.out 2).trans rfl; have q11_3 : w5.cell? ⟨wr.heap.size, 3, none⟩ = some (.int .i64 x3) := (blk_cell HN.out 3).trans rfl; have q11_4 : w5.cell? ⟨wr.heap.size, 4, none⟩ = some (.string x4) := (blk_cell HN.out 4).trans rfl; have q11_5 : w5.cell? ⟨wr.heap.size, 5, none⟩ = some (.int .i64 x5) := (blk_cell HN.out 5).trans rfl; have q11_6 : w5.cell? ⟨wr.heap.size, 6, none⟩ = some (.int .i64 x6) := (blk_cell HN.out 6).trans rfl; have q11_7 : w5.cell? ⟨wr.heap.size, 7, none⟩ = some (.slice A7 ss.length c7) := (blk_cell HN.out 7).trans rfl)) | (go_at_call 16; go_loud (with_reducible refine (storagebarterref42_One.calls 30 x0 x1 x2 x3 x4 x5 x6 AS cS ss x0 x1 x2 x3 x4 x5 x6 A7 c7 ss true _ (Kd.C_below HCS.out.2.2 (below_alloc (Below.refl w5.heap.size w5) _)) HCS.out.2.1 (Kd.C_below HC7.out (below_alloc (Below.refl w5.heap.size w5) _)) hl7 HO1.out).mono ?_); go_loud (rintro e w6 ⟨rfl, hb⟩; have n_ := Aside0.mk (HX.out.below (below_step (below_alloc (Below.refl w5.heap.size w5) _) hb)); clear HX hb; have HX := n_; clear n_)))
        go_roundw
        case rel => first | exact ⟨j + 1, by omega, by go_num, HX⟩ | ((repeat apply Exists.intro); exact ⟨⟨j + 1, by omega, by go_num, HX⟩, rfl⟩)
        case measure => simp only [intOf]; omega
    case pos =>
    have hksi : (k : Int) < (es.length : Int) := by omega
    obtain ⟨x, hxk⟩ : ∃ x, x = es[k] := ⟨_, rfl⟩
    obtain ⟨ad, A7, c7, ead, hx0, hx1, hx2, hx3, hx4, hx5, hx6, hx7, hl7, hi7⟩ := at_T28 (Kd.R_reads' HX.out.ce).2.2 (k : Int) (by omega) (by omega)
    cases ead
    rw [show rd_T28 es (k : Int) = x by rw [hxk]; simp [rd_T28, List.getD, hks]] at hx0 hx1 hx2 hx3 hx4 hx5 hx6 hx7 hl7 hi7
    simp only [Int.toNat_natCast] at hx0 hx1 hx2 hx3 hx4 hx5 hx6 hx7
    have HES : Aside0 (EvS x) := ⟨by rw [hxk]; exact HO.out _ (List.getElem_mem hks)⟩
    have HPS : Aside0 (pre es (k + 1) = pre es k ++ putE x) := ⟨by rw [hxk]; exact pre_succ es k hks⟩
    have HK1 : Aside0 (k + 1 ≤ es.length) := ⟨hks⟩
    clear hxk
    obtain ⟨x0, x1, x2, x3, x4, ⟨x5, x6, ss⟩⟩ := x
    obtain ⟨tl, rfl⟩ := exB x4
    dsimp only at hx0 hx1 hx2 hx3 hx4 hx5 hx6 hx7 hl7 hi7
    have HI7 := Aside0.mk hi7
    clear hi7
    have HTB2 := HTB.out
    subst HTB2
    obtain ⟨tx, htx⟩ : ∃ t, t = B (pre es k ++ putE ⟨x0, x1, x2, x3, B tl, ⟨x5, x6, ss⟩⟩) := ⟨_, rfl⟩
    have HTX := Aside0.mk htx
    have HP : Aside0 (putR (pre es k) ⟨x0, x1, x2, x3, B tl, ⟨x5, x6, ss⟩⟩ = (tx, 0)) := ⟨by
      have h1 := HES.out.tx
      have h2 := HES.out.sy
      unfold putR
      rw [if_neg (by simp only at h1 h2 ⊢; omega), htx]⟩
    obtain ⟨tb, htb⟩ : ∃ t, t = B (pre es k) := ⟨_, rfl⟩
    have hlt : ¬ tx.size ≤ tb.size := by
      rw [htx, htb, B_size, B_size, List.length_append]
      have := putE_pos ⟨x0, x1, x2, x3, B tl, ⟨x5, x6, ss⟩⟩
      omega
    have hle : tb.size ≤ tx.size := by omega
    have hex : tx.extract 0 tb.size = tb := by rw [htx, htb, B_size]; exact B_pre _ _
    rw [← htb]
    have HTB3 := Aside0.mk htb
    clear htx htb
    go_upto_region 10 with (go_at_call 14; go_loud (with_reducible refine (putB_x tb (pre es k) HTB3.out x0 x1 x2 x3 tl x5 x6 A7 c7 ss _ (Kd.C_below HI7.out (below_alloc (Below.refl wr.heap.size wr) (.cells #[.int .i64 x0, .int .i64 x1, .int .i64 x2, .int .i64 x3, .string (B tl), .int .i64 x5, .int .i64 x6, .slice A7 ss.length c7] 28))) hl7 HES.out.we (by have := pre_len es HO.out HL.out k; omega) _ _ HP.out).mono ?_); go_loud (rintro e w4 ⟨rfl, hb⟩; have n_ := Aside0.mk (HX.out.below (below_step (below_alloc (Below.refl wr.heap.size wr) (.cells #[.int .i64 x0, .int .i64 x1, .int .i64 x2, .int .i64 x3, .string (B tl), .int .i64 x5, .int .i64 x6, .slice A7 ss.length c7] 28)) hb)); clear HX hb; have HX := n_; clear n_))
    go_upto_region 13 with fail
    have hle1 : ((ends es k).length + 1) * 8 ≤ 140737488355328 := by have := HL.out; rw [ends_len]; omega
    have hkb : k + 1 ≤ 20 := by have := HL.out; have := HK1.out; omega
    go_wp2_with (at_builtin; go_loud (refine Kd.R_append (Kd.int .i64) (w0 := w4) (W := w4) w.heap.size rfl (.tmp 51) (.tmp 54) 41 3 (.int .i64 0) 8 rfl Try.underlying41 info3 rfl (by decide) (by omega) (.slice A1 (ends es k).length c1) (ends es k) (tx.size : Int) [.int .i64 (tx.size : Int)] (fun _ => True) (fun _ => False) rfl rfl rfl (fun _ h => h.elim) (fun _ _ => trivial) HX.out.cr (Below.refl _ _) HX.out.hb.size hle1 ?_); go_loud (intro v1 w2_ ho hb hg hat; obtain ⟨A2, c2, e2_⟩ := Kd.R_slice ho; subst e2_; have n_ := Aside0.mk (HX.out.app ho hg); clear HX ho hb hg hat; have HX := n_; clear n_))
    go_roundw
    case rel => exact ⟨k + 1, .slice A2 (ends es k ++ [(tx.size : Int)]).length c2, tx, HK1.out, by go_num, rfl, by simp, ⟨by rw [HPS.out]; exact HTX.out⟩, ⟨by rw [ends_succ, show en es (k + 1) = (tx.size : Int) from (by unfold en; rw [HPS.out, HTX.out, B_size])]; exact HX.out⟩⟩
    case measure => simp only [intOf]; have := HK1.out; omega
end Go.Proofs.Ytcjdnahgffkbdaa.Sjn

namespace Go.Proofs.Ytcjdnahgffkbdaa.scriptJoins
open Go.ChangeShapes Go.WideShapes Go.ChangeAt Go.RowKit
open Go.ChangeMaps (open_string shut_string)
set_option linter.unusedVariables false
theorem own : ownKnob Try.prog.godebug = none := by kernel_rfl
theorem laidOut : laidOutB Try.prog = true := by kernel_rfl
def IsRow (k : IntKind) (w : World) (a : Option Addr) (len cap : Nat) (zs : List Int) : Prop :=
  (a = none ∧ len = 0 ∧ cap = 0 ∧ zs = []) ∨
  ∃ x, a = some x ∧ len ≤ cap ∧ cap ≤ maxLen ∧ zs.length = cap ∧ (∀ i, i < zs.length → w.cell? (x.add i) = some (.int k (zs.getD i 0))) ∧ ∀ n ∈ zs, (Lit.int k n).wf = true
set_option maxRecDepth 100000 in
theorem lifted (os : Os) (started : os.Started) (H : Type) (enc : TypeId × Value → H) :
    ReturnsInHanded {} Try.checked os 4 .any (Rows.scriptJoinsSpec.pre6 enc Try.prog Try.f4 Rows.scriptJoinsRow.domain false) (Rows.scriptJoinsSpec.post enc Try.prog Try.f4 false true false false) := by
  refine returnsInHanded_of_change_sized (C := Try.checked) own started (by kernel_rfl) Try.func4
    (ChangeSpec.witness6 (enc := enc) (C := Try.checked) false ⟨#[], #[.slice none 0 0], []⟩ 8 (by kernel_rfl) (by kernel_rfl) (by kernel_rfl) (by kernel_rfl)) ?_
  intro W base args ds gs before hval0 hW hcnd hsz0 _
  have hsz : (DataW.weightsEach Try.prog (Try.f4.params.toList ++ Rows.scriptJoinsSpec.plain.varTypes Try.prog) (ds ++ gs)).all (· ≤ reachBytes) = true := hsz0
  have hval : ∀ (j : Nat) t v, Try.f4.params[j]? = some t → args[j]? = some v → Value.okWide Try.prog W .any base t v := hval0
  have hW' := hW
  obtain ⟨p, q, hA0, hV, rfl, hfz, hnd⟩ := hW
  have hA : DataW.TrodAll enc Try.prog W 0 (fun _ => true) true Try.f4.params.toList args.toList ds p := hA0
  rw [Try.params4] at hA hval hsz
  obtain ⟨v0, vs0, d0, ds0, p0, q0, hargs, rfl, rfl, h0, r0⟩ := trodAll_cons hA
  obtain ⟨rfl, rfl, rfl⟩ := trodAll_nil r0
  obtain rfl : args = #[v0] := by cases args; simp_all
  obtain ⟨rfl, rfl⟩ := trodVars_none hV
  obtain ⟨A0, len0, cap0, rfl⟩ := okWide_slice Try.underlying23 (hval 0 23 v0 rfl rfl)
  have k0 := h0
  have lt0 : ∀ x ∈ p0, x.block < W.heap.size := by obtain ⟨m, hm⟩ := k0; exact DataW.trod_lt m _ _ _ hm
  have y0 : len0 * 1 ≤ 140737488351232 := Go.Proofs.YtcjdnahgffkbdaaW.PrintWords.sized_ints hsz (j := 0) (t := 23) rfl rfl Try.underlying23 Try.underlying5 (by kernel_rfl) (by kernel_rfl) h0
  obtain ⟨z0, w0⟩ : ∃ zs, IsRow .u8 W A0 len0 cap0 zs := by
    obtain ⟨fuel, hf⟩ := h0
    rcases open_ints Try.underlying23 Try.underlying5 (by kernel_rfl) hf with ⟨hcs, _⟩ | ⟨x, l, c, zs, hcs, _, hl, hm, hz, _, hcell, hwz⟩
    · simp [Value.cells] at hcs
      obtain ⟨rfl, rfl, rfl⟩ := hcs
      exact ⟨[], .inl ⟨rfl, rfl, rfl, rfl⟩⟩
    · simp [Value.cells] at hcs
      obtain ⟨rfl, rfl, rfl⟩ := hcs
      exact ⟨zs, .inr ⟨_, rfl, hl, hm, by simpa using hz, hcell, hwz⟩⟩
  clear hA0 hval0 hsz0 hsz
  obtain ⟨l0, rfl, hr0, hm0, hw0, hc0⟩ := Go.Proofs.YtcjdnahgffkbdaaW.PrintWords.ReadsInt.ofRowC w0
  refine (Sjn.joins_x A0 cap0 l0 W (Go.Proofs.YtcjdnahgffkbdaaW.PrintWords.Kd.C_of_reads (d := (0 : Int)) (h1 := fun _ => rfl) hr0) hc0 hw0).mono fun e W' ⟨he, bel⟩ => ?_
  subst he
  exact ⟨_, rfl, _, _, _, [], _, [], hW', trodAll_mk1 (shut_bool Try.underlying4 _), (trodAll_cons_mk (Below.trod laidOut (by kernel_rfl) (of_decide_eq_true (by kernel_rfl)) k0 bel lt0) trodAll_mk0), rfl, bel.frame _, fun h => by cases h⟩
theorem over : Rows.scriptJoinsRow.holds Try.pinned (OpenSpec.ofChange Rows.scriptJoinsSpec) :=
  OpenClaim.holds_of_wide 4 Try.f4 rfl rfl rfl rfl rfl rfl rfl ⟨rfl, rfl, rfl, rfl, rfl⟩ rfl rfl rfl rfl rfl (by kernel_rfl) Try.func4 (by kernel_rfl)
    (of_decide_eq_true (by kernel_rfl)) (by unfold Func.isWrapper; first | (rw [if_pos (by decide +kernel)]; kernel_rfl) | (rw [if_neg (by decide +kernel)]; exact ⟨rfl, rfl⟩))
    (fun os started H enc _ => lifted os started H enc)
theorem proved : Rows.ScriptJoinsSaid := over
#print axioms proved
end Go.Proofs.Ytcjdnahgffkbdaa.scriptJoins
namespace Go.Proofs.Ytcjdnahgffkbdaa
/-- The row, under a short name, for the claim. -/
theorem scriptJoins_holds : Rows.ScriptJoinsSaid := scriptJoins.proved
end Go.Proofs.Ytcjdnahgffkbdaa
