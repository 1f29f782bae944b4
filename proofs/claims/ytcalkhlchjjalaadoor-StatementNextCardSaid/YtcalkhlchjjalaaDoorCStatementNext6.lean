/- StatementNextCardSaid -/
import Derived.Test.YtcalkhlchjjalaaDoorCStatementNext3
import Derived.Test.YtcalkhlchjjalaaDoorCStatementNext5
import Derived.Test.YtcalkhlchjjalaaDoorCStatementNext4
import Derived.Deep.DeepCutAuto
import Derived.IntWalk
namespace Go.Proofs.YtcalkhlchjjalaaDoor.Q
open Go.RowKit Go.Proofs.YtcalkhlchjjalaaDoorW.PrintWords Go.Proofs.YtcalkhlchjjalaaDoorW.PrintLast Go.Proofs.YtcalkhlchjjalaaDoorW.PrintMore Go.Proofs.YtcalkhlchjjalaaDoor.Gput
attribute [local go_sem] max2_int min2_int max_two min_two max_three min_three max_four min_four   -- for this text's walks alone
set_option linter.unusedVariables false
set_option linter.unusedSimpArgs false
mutual
def storagebarterref15_parts.j0 : Nat → Bool → Bool → Int → Int → Int → Int → Int → Int → Int → Int → Int → Int → Int → Option (Bool)
  | 0, _, _, _, _, _, _, _, _, _, _, _, _, _ => none
  | k + 1, x3, x4, x153000, x153001, x153002, x153003, x153004, x153005, x153006, x153007, x153008, x153009, x153010 => (storagebarterref15_in.f x153009 (wrap64 (x153004 + 1)) (wrap64 (x153004 + 65536))).bind fun t156 => (if t156 = true then (storagebarterref15_parts.j1 k x3 x4 (decide (x153009 ≤ 1048576)) x153000 x153001 x153002 x153003 x153004 x153005 x153006 x153007 x153008 x153009 x153010) else (storagebarterref15_parts.j1 k x3 x4 false x153000 x153001 x153002 x153003 x153004 x153005 x153006 x153007 x153008 x153009 x153010))
def storagebarterref15_parts.j1 : Nat → Bool → Bool → Bool → Int → Int → Int → Int → Int → Int → Int → Int → Int → Int → Int → Option (Bool)
  | 0, _, _, _, _, _, _, _, _, _, _, _, _, _, _ => none
  | k + 1, x3, x4, x5, x153000, x153001, x153002, x153003, x153004, x153005, x153006, x153007, x153008, x153009, x153010 => if x153007 = 0 then (storagebarterref15_parts.j2 k x3 x4 x5 (x153008 == 0) x153000 x153001 x153002 x153003 x153004 x153005 x153006 x153007 x153008 x153009 x153010) else (storagebarterref15_parts.j2 k x3 x4 x5 false x153000 x153001 x153002 x153003 x153004 x153005 x153006 x153007 x153008 x153009 x153010)
def storagebarterref15_parts.j2 : Nat → Bool → Bool → Bool → Bool → Int → Int → Int → Int → Int → Int → Int → Int → Int → Int → Int → Option (Bool)
  | 0, _, _, _, _, _, _, _, _, _, _, _, _, _, _, _ => none
  | k + 1, x3, x4, x5, x6, x153000, x153001, x153002, x153003, x153004, x153005, x153006, x153007, x153008, x153009, x153010 => if x153005 = 1 then (if x3 = true then (if x4 = true then (some x5) else (some false)) else (some false)) else (if x153005 = 2 then (if x3 = true then (if x6 = true then (some x5) else (some false)) else (some false)) else (if x153005 = 3 then (storagebarterref15_parts.j3 k x3 x4 x6 x153005 (x153005 == 3) x153000 x153001 x153002 x153003 x153004 x153005 x153006 x153007 x153008 x153009 x153010) else (storagebarterref15_parts.j3 k x3 x4 x6 x153005 (x153005 == 5) x153000 x153001 x153002 x153003 x153004 x153005 x153006 x153007 x153008 x153009 x153010)))
def storagebarterref15_parts.j3 : Nat → Bool → Bool → Bool → Int → Bool → Int → Int → Int → Int → Int → Int → Int → Int → Int → Int → Int → Option (Bool)
  | 0, _, _, _, _, _, _, _, _, _, _, _, _, _, _, _, _ => none
  | k + 1, x3, x4, x6, x41, x60, x153000, x153001, x153002, x153003, x153004, x153005, x153006, x153007, x153008, x153009, x153010 => if x60 = true then (if x3 = true then (if x6 = true then (some (x153009 == 0)) else (some false)) else (some false)) else (if x41 = 4 then (if x3 = true then (if x4 = true then (some (x153009 == 0)) else (some false)) else (some false)) else (if x41 = 6 then ((storagebarterref15_in.f x153006 0 2147483646).bind fun t157 => (if t157 = true then ((storagebarterref15_in.f x153007 0 2147483646).bind fun t158 => (if t158 = true then ((storagebarterref15_in.f x153008 0 256).bind fun t159 => (if t159 = true then (some (x153009 == 0)) else (some false))) else (some false))) else (some false))) else (if x41 = 7 then ((storagebarterref15_in.f x153006 0 2147483646).bind fun t160 => (if t160 = true then (if x4 = true then ((storagebarterref15_lock.f x153009).bind fun t161 => (some t161)) else (some false)) else (some false))) else (if x41 = 8 then ((storagebarterref15_in.f x153006 0 2147483646).bind fun t162 => (if t162 = true then ((storagebarterref15_in.f x153007 0 4294967293).bind fun t163 => (if t163 = true then (if x153008 = 0 then (some (x153009 == 0)) else (some false)) else (some false))) else (some false))) else (some false)))))
end
def storagebarterref15_parts.f (k : Nat) (a0_0 : Int) (a0_1 : Int) (a0_2 : Int) (a0_3 : Int) (a0_4 : Int) (a0_5 : Int) (a0_6 : Int) (a0_7 : Int) (a0_8 : Int) (a0_9 : Int) (a0_10 : Int) : Option (Bool) := (storagebarterref15_in.f a0_6 0 63).bind fun t153 => ((storagebarterref15_in.f a0_7 0 2147483646).bind fun t154 => (if t154 = true then ((storagebarterref15_in.f a0_8 1 1024).bind fun t155 => (storagebarterref15_parts.j0 k t153 t155 a0_0 a0_1 a0_2 a0_3 a0_4 a0_5 a0_6 a0_7 a0_8 a0_9 a0_10)) else (storagebarterref15_parts.j0 k t153 false a0_0 a0_1 a0_2 a0_3 a0_4 a0_5 a0_6 a0_7 a0_8 a0_9 a0_10)))
theorem storagebarterref15_parts.mono_l : ∀ k, (∀ y0 y1 y2 y3 y4 y5 y6 y7 y8 y9 y10 y11 y12, LeO (storagebarterref15_parts.j0 k y0 y1 y2 y3 y4 y5 y6 y7 y8 y9 y10 y11 y12) (storagebarterref15_parts.j0 (k + 1) y0 y1 y2 y3 y4 y5 y6 y7 y8 y9 y10 y11 y12)) ∧ (∀ y0 y1 y2 y3 y4 y5 y6 y7 y8 y9 y10 y11 y12 y13, LeO (storagebarterref15_parts.j1 k y0 y1 y2 y3 y4 y5 y6 y7 y8 y9 y10 y11 y12 y13) (storagebarterref15_parts.j1 (k + 1) y0 y1 y2 y3 y4 y5 y6 y7 y8 y9 y10 y11 y12 y13)) ∧ (∀ y0 y1 y2 y3 y4 y5 y6 y7 y8 y9 y10 y11 y12 y13 y14, LeO (storagebarterref15_parts.j2 k y0 y1 y2 y3 y4 y5 y6 y7 y8 y9 y10 y11 y12 y13 y14) (storagebarterref15_parts.j2 (k + 1) y0 y1 y2 y3 y4 y5 y6 y7 y8 y9 y10 y11 y12 y13 y14)) ∧ (∀ y0 y1 y2 y3 y4 y5 y6 y7 y8 y9 y10 y11 y12 y13 y14 y15, LeO (storagebarterref15_parts.j3 k y0 y1 y2 y3 y4 y5 y6 y7 y8 y9 y10 y11 y12 y13 y14 y15) (storagebarterref15_parts.j3 (k + 1) y0 y1 y2 y3 y4 y5 y6 y7 y8 y9 y10 y11 y12 y13 y14 y15))
  | 0 => ⟨fun _ _ _ _ _ _ _ _ _ _ _ _ _ r h => by simp [storagebarterref15_parts.j0] at h, fun _ _ _ _ _ _ _ _ _ _ _ _ _ _ r h => by simp [storagebarterref15_parts.j1] at h, fun _ _ _ _ _ _ _ _ _ _ _ _ _ _ _ r h => by simp [storagebarterref15_parts.j2] at h, fun _ _ _ _ _ _ _ _ _ _ _ _ _ _ _ _ r h => by simp [storagebarterref15_parts.j3] at h⟩
  | k + 1 => by
    obtain ⟨ih0, ih1, ih2, ih3⟩ := storagebarterref15_parts.mono_l k
    refine ⟨?_, ?_, ?_, ?_⟩
    · intro y0 y1 y2 y3 y4 y5 y6 y7 y8 y9 y10 y11 y12
      unfold storagebarterref15_parts.j0
      repeat' first
      | (with_reducible exact ih0 _ _ _ _ _ _ _ _ _ _ _ _ _)
      | (with_reducible exact ih1 _ _ _ _ _ _ _ _ _ _ _ _ _ _)
      | (with_reducible exact ih2 _ _ _ _ _ _ _ _ _ _ _ _ _ _ _)
      | (with_reducible exact ih3 _ _ _ _ _ _ _ _ _ _ _ _ _ _ _ _)
      | (with_reducible exact LeO.refl _)
      | (with_reducible exact LeO.none _)
      | (with_reducible refine LeO.ite ?_ ?_)
      | (with_reducible refine LeO.bind ?_ (fun _ => ?_))
      | exact ih0 _ _ _ _ _ _ _ _ _ _ _ _ _
      | exact ih1 _ _ _ _ _ _ _ _ _ _ _ _ _ _
      | exact ih2 _ _ _ _ _ _ _ _ _ _ _ _ _ _ _
      | exact ih3 _ _ _ _ _ _ _ _ _ _ _ _ _ _ _ _
      | exact LeO.none _
      | refine LeO.ite ?_ ?_
      | refine LeO.bind ?_ (fun _ => ?_)
    · intro y0 y1 y2 y3 y4 y5 y6 y7 y8 y9 y10 y11 y12 y13
      unfold storagebarterref15_parts.j1
      repeat' first
      | (with_reducible exact ih0 _ _ _ _ _ _ _ _ _ _ _ _ _)
      | (with_reducible exact ih1 _ _ _ _ _ _ _ _ _ _ _ _ _ _)
      | (with_reducible exact ih2 _ _ _ _ _ _ _ _ _ _ _ _ _ _ _)
      | (with_reducible exact ih3 _ _ _ _ _ _ _ _ _ _ _ _ _ _ _ _)
      | (with_reducible exact LeO.refl _)
      | (with_reducible exact LeO.none _)
      | (with_reducible refine LeO.ite ?_ ?_)
      | (with_reducible refine LeO.bind ?_ (fun _ => ?_))
      | exact ih0 _ _ _ _ _ _ _ _ _ _ _ _ _
      | exact ih1 _ _ _ _ _ _ _ _ _ _ _ _ _ _
      | exact ih2 _ _ _ _ _ _ _ _ _ _ _ _ _ _ _
      | exact ih3 _ _ _ _ _ _ _ _ _ _ _ _ _ _ _ _
      | exact LeO.none _
      | refine LeO.ite ?_ ?_
      | refine LeO.bind ?_ (fun _ => ?_)
    · intro y0 y1 y2 y3 y4 y5 y6 y7 y8 y9 y10 y11 y12 y13 y14
      unfold storagebarterref15_parts.j2
      repeat' first
      | (with_reducible exact ih0 _ _ _ _ _ _ _ _ _ _ _ _ _)
      | (with_reducible exact ih1 _ _ _ _ _ _ _ _ _ _ _ _ _ _)
      | (with_reducible exact ih2 _ _ _ _ _ _ _ _ _ _ _ _ _ _ _)
      | (with_reducible exact ih3 _ _ _ _ _ _ _ _ _ _ _ _ _ _ _ _)
      | (with_reducible exact LeO.refl _)
      | (with_reducible exact LeO.none _)
      | (with_reducible refine LeO.ite ?_ ?_)
      | (with_reducible refine LeO.bind ?_ (fun _ => ?_))
      | exact ih0 _ _ _ _ _ _ _ _ _ _ _ _ _
      | exact ih1 _ _ _ _ _ _ _ _ _ _ _ _ _ _
      | exact ih2 _ _ _ _ _ _ _ _ _ _ _ _ _ _ _
      | exact ih3 _ _ _ _ _ _ _ _ _ _ _ _ _ _ _ _
      | exact LeO.none _
      | refine LeO.ite ?_ ?_
      | refine LeO.bind ?_ (fun _ => ?_)
    · intro y0 y1 y2 y3 y4 y5 y6 y7 y8 y9 y10 y11 y12 y13 y14 y15
      unfold storagebarterref15_parts.j3
      repeat' first
      | (with_reducible exact ih0 _ _ _ _ _ _ _ _ _ _ _ _ _)
      | (with_reducible exact ih1 _ _ _ _ _ _ _ _ _ _ _ _ _ _)
      | (with_reducible exact ih2 _ _ _ _ _ _ _ _ _ _ _ _ _ _ _)
      | (with_reducible exact ih3 _ _ _ _ _ _ _ _ _ _ _ _ _ _ _ _)
      | (with_reducible exact LeO.refl _)
      | (with_reducible exact LeO.none _)
      | (with_reducible refine LeO.ite ?_ ?_)
      | (with_reducible refine LeO.bind ?_ (fun _ => ?_))
      | exact ih0 _ _ _ _ _ _ _ _ _ _ _ _ _
      | exact ih1 _ _ _ _ _ _ _ _ _ _ _ _ _ _
      | exact ih2 _ _ _ _ _ _ _ _ _ _ _ _ _ _ _
      | exact ih3 _ _ _ _ _ _ _ _ _ _ _ _ _ _ _ _
      | exact LeO.none _
      | refine LeO.ite ?_ ?_
      | refine LeO.bind ?_ (fun _ => ?_)
theorem storagebarterref15_parts.mono : ∀ a0 a1 a2 a3 a4 a5 a6 a7 a8 a9 a10 k, LeO (storagebarterref15_parts.f k a0 a1 a2 a3 a4 a5 a6 a7 a8 a9 a10) (storagebarterref15_parts.f (k + 1) a0 a1 a2 a3 a4 a5 a6 a7 a8 a9 a10) := by
  intro a0 a1 a2 a3 a4 a5 a6 a7 a8 a9 a10 k
  obtain ⟨ih0, ih1, ih2, ih3⟩ := storagebarterref15_parts.mono_l k
  unfold storagebarterref15_parts.f
  repeat' first
      | (with_reducible exact ih0 _ _ _ _ _ _ _ _ _ _ _ _ _)
      | (with_reducible exact ih1 _ _ _ _ _ _ _ _ _ _ _ _ _ _)
      | (with_reducible exact ih2 _ _ _ _ _ _ _ _ _ _ _ _ _ _ _)
      | (with_reducible exact ih3 _ _ _ _ _ _ _ _ _ _ _ _ _ _ _ _)
      | (with_reducible exact LeO.refl _)
      | (with_reducible exact LeO.none _)
      | (with_reducible refine LeO.ite ?_ ?_)
      | (with_reducible refine LeO.bind ?_ (fun _ => ?_))
      | exact ih0 _ _ _ _ _ _ _ _ _ _ _ _ _
      | exact ih1 _ _ _ _ _ _ _ _ _ _ _ _ _ _
      | exact ih2 _ _ _ _ _ _ _ _ _ _ _ _ _ _ _
      | exact ih3 _ _ _ _ _ _ _ _ _ _ _ _ _ _ _ _
      | exact LeO.none _
      | refine LeO.ite ?_ ?_
      | refine LeO.bind ?_ (fun _ => ?_)
set_option maxHeartbeats 8000000 in
set_option maxRecDepth 100000 in
theorem storagebarterref15_parts.calls (k : Nat) (a0_0 : Int) (a0_1 : Int) (a0_2 : Int) (a0_3 : Int) (a0_4 : Int) (a0_5 : Int) (a0_6 : Int) (a0_7 : Int) (a0_8 : Int) (a0_9 : Int) (a0_10 : Int) (r : Bool) (w : World) (h : storagebarterref15_parts.f k a0_0 a0_1 a0_2 a0_3 a0_4 a0_5 a0_6 a0_7 a0_8 a0_9 a0_10 = some r) :
    Calls Tryd.prog 47 #[.agg #[.int .i64 a0_0, .int .i64 a0_1, .int .i64 a0_2, .int .i64 a0_3, .int .i64 a0_4, .int .i64 a0_5, .int .i64 a0_6, .int .i64 a0_7, .int .i64 a0_8, .int .i64 a0_9, .int .i64 a0_10]] w fun e w' => e = .returned (.bool r) ∧ Below w.heap.size w w' := by
  have hu39 := Tryd.underlying39
  have HB := Aside0.mk (Below.refl w.heap.size w)
  have H : ((storagebarterref15_in.f a0_6 0 63).bind fun t153 => ((storagebarterref15_in.f a0_7 0 2147483646).bind fun t154 => (if t154 = true then ((storagebarterref15_in.f a0_8 1 1024).bind fun t155 => (storagebarterref15_parts.j0 k t153 t155 a0_0 a0_1 a0_2 a0_3 a0_4 a0_5 a0_6 a0_7 a0_8 a0_9 a0_10)) else (storagebarterref15_parts.j0 k t153 false a0_0 a0_1 a0_2 a0_3 a0_4 a0_5 a0_6 a0_7 a0_8 a0_9 a0_10)))) = some r := h
  clear h
  replace H := Option.bind_eq_some_iff.mp H
  obtain ⟨t153, A20, H⟩ := H
  try dsimp only at H
  have A2 := Aside0.mk A20
  clear A20
  have HC3 := Aside0.mk H
  clear H
  go_enter Tryd.func47, Tryd.ntmps47
  go_upto_region 2 with (first | ((with_reducible refine gate_dst (N := 1) rfl ?_); refine box_event ?hg (N := 1) ?hd (cs := #[.int .i64 a0_0, .int .i64 a0_1, .int .i64 a0_2, .int .i64 a0_3, .int .i64 a0_4, .int .i64 a0_5, .int .i64 a0_6, .int .i64 a0_7, .int .i64 a0_8, .int .i64 a0_9, .int .i64 a0_10]) (t := 39) ?hr ?_; (case hd => rfl); (case hg => rfl); (case hr => first | (go_simp; done) | (go_simp; rfl)); intro gb152 hg w4 hbox hb; have n0_ := Aside0.mk (below_step (by repeat (first | (with_reducible first | exact HB.out | apply below_alloc | apply pw_below_drewN | apply below_drew1) | exact HB.out)) hb); have n1_ := Aside0.mk (hbox); have n2_ := Aside0.mk ((by rw [hg]; exact (below_size (by repeat (first | (with_reducible first | exact HB.out | apply below_alloc | apply pw_below_drewN | apply below_drew1) | exact HB.out))) : w.heap.size ≤ gb152)); have n3_ := Aside0.mk ((by rw [hg]; exact (below_size (by repeat (first | (with_reducible first | exact HB.out | apply below_alloc | apply pw_below_drewN | apply below_drew1) | exact HB.out))) : w.heap.size ≤ gb152)); clear HB; have HB := n0_; have BK152 := n1_; have GW152 := n2_; have GE152 := n3_; clear n0_ n1_ n2_ n3_; clear hb hbox hg; have hcz5_0 : w4.cell? ⟨gb152, 0, none⟩ = some (.int .i64 a0_0) := (blk_cell BK152.out 0).trans rfl; have hcz5_1 : w4.cell? ⟨gb152, 1, none⟩ = some (.int .i64 a0_1) := (blk_cell BK152.out 1).trans rfl; have hcz5_2 : w4.cell? ⟨gb152, 2, none⟩ = some (.int .i64 a0_2) := (blk_cell BK152.out 2).trans rfl; have hcz5_3 : w4.cell? ⟨gb152, 3, none⟩ = some (.int .i64 a0_3) := (blk_cell BK152.out 3).trans rfl; have hcz5_4 : w4.cell? ⟨gb152, 4, none⟩ = some (.int .i64 a0_4) := (blk_cell BK152.out 4).trans rfl; have hcz5_5 : w4.cell? ⟨gb152, 5, none⟩ = some (.int .i64 a0_5) := (blk_cell BK152.out 5).trans rfl; have hcz5_6 : w4.cell? ⟨gb152, 6, none⟩ = some (.int .i64 a0_6) := (blk_cell BK152.out 6).trans rfl; have hcz5_7 : w4.cell? ⟨gb152, 7, none⟩ = some (.int .i64 a0_7) := (blk_cell BK152.out 7).trans rfl; have hcz5_8 : w4.cell? ⟨gb152, 8, none⟩ = some (.int .i64 a0_8) := (blk_cell BK152.out 8).trans rfl; have hcz5_9 : w4.cell? ⟨gb152, 9, none⟩ = some (.int .i64 a0_9) := (blk_cell BK152.out 9).trans rfl; have hcz5_10 : w4.cell? ⟨gb152, 10, none⟩ = some (.int .i64 a0_10) := (blk_cell BK152.out 10).trans rfl; have hfz5_0 := blk_frozen BK152.out 0; have hfz5_1 := blk_frozen BK152.out 1; have hfz5_2 := blk_frozen BK152.out 2; have hfz5_3 := blk_frozen BK152.out 3; have hfz5_4 := blk_frozen BK152.out 4; have hfz5_5 := blk_frozen BK152.out 5; have hfz5_6 := blk_frozen BK152.out 6; have hfz5_7 := blk_frozen BK152.out 7; have hfz5_8 := blk_frozen BK152.out 8; have hfz5_9 := blk_frozen BK152.out 9; have hfz5_10 := blk_frozen BK152.out 10) | ((with_reducible refine gate_callee (f := 30) rfl ?_); refine goesL_ (some 9) rfl rfl Tryd.func30 (by kernel_rfl) rfl #[.int .i64 a0_6, .int .i64 0, .int .i64 63] rfl (by (try simp only [List.map_toArray, List.map_cons, List.map_nil]); first | done | rfl | (simp only [List.length_drop, List.length_take]; rfl)) ?_; (with_reducible refine (storagebarterref15_in.calls a0_6 0 63 t153 _ A2.out).mono ?_); rintro e w' ⟨rfl, ⟨nd, rfl⟩⟩; refine ⟨_, rfl, ?_⟩))
  (try simp only [Act.put, List.setIfInBounds_toArray, List.set_cons_zero, List.set_cons_succ])
  go_cut [4] (fun v4 wc => ∃ (kq : Nat) (x4_2 : Bool), v4 = .bool x4_2 ∧ Aside0 (storagebarterref15_parts.j0 kq t153 x4_2 a0_0 a0_1 a0_2 a0_3 a0_4 a0_5 a0_6 a0_7 a0_8 a0_9 a0_10 = some r) ∧ Aside0 (kq ≤ k) ∧ Aside0 (wc.heap[gb152]? = some (.cells #[.int .i64 a0_0, .int .i64 a0_1, .int .i64 a0_2, .int .i64 a0_3, .int .i64 a0_4, .int .i64 a0_5, .int .i64 a0_6, .int .i64 a0_7, .int .i64 a0_8, .int .i64 a0_9, .int .i64 a0_10] 39 (0, 0))) ∧ Aside0 (Below w.heap.size w wc))
  case first =>
    have H := HC3.out
    clear HC3
    replace H := Option.bind_eq_some_iff.mp H
    obtain ⟨t154, A60, H⟩ := H
    try dsimp only at H
    have A6 := Aside0.mk A60
    clear A60
    by_cases c7 : t154 = true
    focus
      subst c7
      rw [if_pos rfl] at H
      replace H := Option.bind_eq_some_iff.mp H
      obtain ⟨t155, A80, H⟩ := H
      try dsimp only at H
      have A8 := Aside0.mk A80
      clear A80
      have H' := Aside0.mk H
      clear H
      have hcz9_0 : w4.cell? ⟨gb152, 0, none⟩ = some (.int .i64 a0_0) := (blk_cell BK152.out 0).trans rfl
      have hcz9_1 : w4.cell? ⟨gb152, 1, none⟩ = some (.int .i64 a0_1) := (blk_cell BK152.out 1).trans rfl
      have hcz9_2 : w4.cell? ⟨gb152, 2, none⟩ = some (.int .i64 a0_2) := (blk_cell BK152.out 2).trans rfl
      have hcz9_3 : w4.cell? ⟨gb152, 3, none⟩ = some (.int .i64 a0_3) := (blk_cell BK152.out 3).trans rfl
      have hcz9_4 : w4.cell? ⟨gb152, 4, none⟩ = some (.int .i64 a0_4) := (blk_cell BK152.out 4).trans rfl
      have hcz9_5 : w4.cell? ⟨gb152, 5, none⟩ = some (.int .i64 a0_5) := (blk_cell BK152.out 5).trans rfl
      have hcz9_6 : w4.cell? ⟨gb152, 6, none⟩ = some (.int .i64 a0_6) := (blk_cell BK152.out 6).trans rfl
      have hcz9_7 : w4.cell? ⟨gb152, 7, none⟩ = some (.int .i64 a0_7) := (blk_cell BK152.out 7).trans rfl
      have hcz9_8 : w4.cell? ⟨gb152, 8, none⟩ = some (.int .i64 a0_8) := (blk_cell BK152.out 8).trans rfl
      have hcz9_9 : w4.cell? ⟨gb152, 9, none⟩ = some (.int .i64 a0_9) := (blk_cell BK152.out 9).trans rfl
      have hcz9_10 : w4.cell? ⟨gb152, 10, none⟩ = some (.int .i64 a0_10) := (blk_cell BK152.out 10).trans rfl
      have hfz9_0 := blk_frozen BK152.out 0
      have hfz9_1 := blk_frozen BK152.out 1
      have hfz9_2 := blk_frozen BK152.out 2
      have hfz9_3 := blk_frozen BK152.out 3
      have hfz9_4 := blk_frozen BK152.out 4
      have hfz9_5 := blk_frozen BK152.out 5
      have hfz9_6 := blk_frozen BK152.out 6
      have hfz9_7 := blk_frozen BK152.out 7
      have hfz9_8 := blk_frozen BK152.out 8
      have hfz9_9 := blk_frozen BK152.out 9
      have hfz9_10 := blk_frozen BK152.out 10
    rotate_left 1
    focus
      replace c7 := Bool.eq_false_iff.mpr c7
      subst c7
      rw [if_neg (show ¬ (false = true) by decide)] at H
      have H' := Aside0.mk H
      clear H
      have hcz10_0 : w4.cell? ⟨gb152, 0, none⟩ = some (.int .i64 a0_0) := (blk_cell BK152.out 0).trans rfl
      have hcz10_1 : w4.cell? ⟨gb152, 1, none⟩ = some (.int .i64 a0_1) := (blk_cell BK152.out 1).trans rfl
      have hcz10_2 : w4.cell? ⟨gb152, 2, none⟩ = some (.int .i64 a0_2) := (blk_cell BK152.out 2).trans rfl
      have hcz10_3 : w4.cell? ⟨gb152, 3, none⟩ = some (.int .i64 a0_3) := (blk_cell BK152.out 3).trans rfl
      have hcz10_4 : w4.cell? ⟨gb152, 4, none⟩ = some (.int .i64 a0_4) := (blk_cell BK152.out 4).trans rfl
      have hcz10_5 : w4.cell? ⟨gb152, 5, none⟩ = some (.int .i64 a0_5) := (blk_cell BK152.out 5).trans rfl
      have hcz10_6 : w4.cell? ⟨gb152, 6, none⟩ = some (.int .i64 a0_6) := (blk_cell BK152.out 6).trans rfl
      have hcz10_7 : w4.cell? ⟨gb152, 7, none⟩ = some (.int .i64 a0_7) := (blk_cell BK152.out 7).trans rfl
      have hcz10_8 : w4.cell? ⟨gb152, 8, none⟩ = some (.int .i64 a0_8) := (blk_cell BK152.out 8).trans rfl
      have hcz10_9 : w4.cell? ⟨gb152, 9, none⟩ = some (.int .i64 a0_9) := (blk_cell BK152.out 9).trans rfl
      have hcz10_10 : w4.cell? ⟨gb152, 10, none⟩ = some (.int .i64 a0_10) := (blk_cell BK152.out 10).trans rfl
      have hfz10_0 := blk_frozen BK152.out 0
      have hfz10_1 := blk_frozen BK152.out 1
      have hfz10_2 := blk_frozen BK152.out 2
      have hfz10_3 := blk_frozen BK152.out 3
      have hfz10_4 := blk_frozen BK152.out 4
      have hfz10_5 := blk_frozen BK152.out 5
      have hfz10_6 := blk_frozen BK152.out 6
      have hfz10_7 := blk_frozen BK152.out 7
      have hfz10_8 := blk_frozen BK152.out 8
      have hfz10_9 := blk_frozen BK152.out 9
      have hfz10_10 := blk_frozen BK152.out 10
    rotate_left 1
    all_goals (go_wp2_with (first | ((with_reducible refine gate_callee (f := 30) rfl ?_); refine goesL_ (some 12) rfl rfl Tryd.func30 (by kernel_rfl) rfl #[.int .i64 a0_7, .int .i64 0, .int .i64 2147483646] rfl (by (try simp only [List.map_toArray, List.map_cons, List.map_nil]); first | done | rfl | (simp only [List.length_drop, List.length_take]; rfl)) ?_; (with_reducible refine (storagebarterref15_in.calls a0_7 0 2147483646 true _ A6.out).mono ?_); rintro e w' ⟨rfl, ⟨nd, rfl⟩⟩; refine ⟨_, rfl, ?_⟩) | (go_at_call 30; (with_reducible refine (storagebarterref15_in.calls a0_8 1 1024 t155 _ A8.out).mono ?_); rintro e w' ⟨rfl, ⟨nd, rfl⟩⟩) | ((with_reducible refine gate_callee (f := 30) rfl ?_); refine goesL_ (some 12) rfl rfl Tryd.func30 (by kernel_rfl) rfl #[.int .i64 a0_7, .int .i64 0, .int .i64 2147483646] rfl (by (try simp only [List.map_toArray, List.map_cons, List.map_nil]); first | done | rfl | (simp only [List.length_drop, List.length_take]; rfl)) ?_; (with_reducible refine (storagebarterref15_in.calls a0_7 0 2147483646 false _ A6.out).mono ?_); rintro e w' ⟨rfl, ⟨nd, rfl⟩⟩; refine ⟨_, rfl, ?_⟩)))
    · go_meet
      case rel => exact ⟨_, (t155), (by first | rfl | (simp; done) | (simp [*]; done)), H', ⟨by first | omega | exact Nat.le_refl _⟩, ⟨by (with_reducible repeat (first | refine blk_drewN ?_ _ | refine blk_drew ?_ | refine blk_alloc ?_ _)); exact BK152.out⟩, ⟨by repeat (first | (with_reducible first | exact HB.out | apply below_alloc | apply pw_below_drewN | apply below_drew1 | refine below_set ?_ GE152.out) | exact HB.out)⟩⟩
    · go_meet
      case rel => exact ⟨_, (false), (by first | rfl | (simp; done) | (simp [*]; done)), H', ⟨by first | omega | exact Nat.le_refl _⟩, ⟨by (with_reducible repeat (first | refine blk_drewN ?_ _ | refine blk_drew ?_ | refine blk_alloc ?_ _)); exact BK152.out⟩, ⟨by repeat (first | (with_reducible first | exact HB.out | apply below_alloc | apply pw_below_drewN | apply below_drew1 | refine below_set ?_ GE152.out) | exact HB.out)⟩⟩
  case rest =>
    clear HC3
    try clear p2
    try clear c3
    try clear c4
    try clear c7
    try clear hcz10_0
    try clear hcz10_1
    try clear hcz10_10
    try clear hcz10_2
    try clear hcz10_3
    try clear hcz10_4
    try clear hcz10_5
    try clear hcz10_6
    try clear hcz10_7
    try clear hcz10_8
    try clear hcz10_9
    try clear hcz5_0
    try clear hcz5_1
    try clear hcz5_10
    try clear hcz5_2
    try clear hcz5_3
    try clear hcz5_4
    try clear hcz5_5
    try clear hcz5_6
    try clear hcz5_7
    try clear hcz5_8
    try clear hcz5_9
    try clear hcz9_0
    try clear hcz9_1
    try clear hcz9_10
    try clear hcz9_2
    try clear hcz9_3
    try clear hcz9_4
    try clear hcz9_5
    try clear hcz9_6
    try clear hcz9_7
    try clear hcz9_8
    try clear hcz9_9
    try clear hfz10_0
    try clear hfz10_1
    try clear hfz10_10
    try clear hfz10_2
    try clear hfz10_3
    try clear hfz10_4
    try clear hfz10_5
    try clear hfz10_6
    try clear hfz10_7
    try clear hfz10_8
    try clear hfz10_9
    try clear hfz5_0
    try clear hfz5_1
    try clear hfz5_10
    try clear hfz5_2
    try clear hfz5_3
    try clear hfz5_4
    try clear hfz5_5
    try clear hfz5_6
    try clear hfz5_7
    try clear hfz5_8
    try clear hfz5_9
    try clear hfz9_0
    try clear hfz9_1
    try clear hfz9_10
    try clear hfz9_2
    try clear hfz9_3
    try clear hfz9_4
    try clear hfz9_5
    try clear hfz9_6
    try clear hfz9_7
    try clear hfz9_8
    try clear hfz9_9
    obtain ⟨kq, x4_2, rfl, HA, HJ2, BK152, HB⟩ := hcut
    cases kq with
    | zero => exact absurd HA.out (by simp [storagebarterref15_parts.j0])
    | succ kj2 =>
      have H := HA.out
      clear HA
      simp only [storagebarterref15_parts.j0] at H
      have HC11 := Aside0.mk H
      clear H
      go_upto_region 3 with (fail)
      go_cut [5] (fun v5 wc => ∃ (kq : Nat) (x5_10 : Bool), v5 = .bool x5_10 ∧ Aside0 (storagebarterref15_parts.j1 kq t153 x4_2 x5_10 a0_0 a0_1 a0_2 a0_3 a0_4 a0_5 a0_6 a0_7 a0_8 a0_9 a0_10 = some r) ∧ Aside0 (kq ≤ kj2) ∧ Aside0 (wc.heap[gb152]? = some (.cells #[.int .i64 a0_0, .int .i64 a0_1, .int .i64 a0_2, .int .i64 a0_3, .int .i64 a0_4, .int .i64 a0_5, .int .i64 a0_6, .int .i64 a0_7, .int .i64 a0_8, .int .i64 a0_9, .int .i64 a0_10] 39 (0, 0))) ∧ Aside0 (Below w.heap.size w wc))
      case first =>
        have H := HC11.out
        clear HC11
        replace H := Option.bind_eq_some_iff.mp H
        obtain ⟨t156, A120, H⟩ := H
        try dsimp only at H
        have A12 := Aside0.mk A120
        clear A120
        by_cases c13 : t156 = true
        · subst c13
          rw [if_pos rfl] at H
          have H' := Aside0.mk H
          clear H
          have hcz14_0 : wc.cell? ⟨gb152, 0, none⟩ = some (.int .i64 a0_0) := (blk_cell BK152.out 0).trans rfl
          have hcz14_1 : wc.cell? ⟨gb152, 1, none⟩ = some (.int .i64 a0_1) := (blk_cell BK152.out 1).trans rfl
          have hcz14_2 : wc.cell? ⟨gb152, 2, none⟩ = some (.int .i64 a0_2) := (blk_cell BK152.out 2).trans rfl
          have hcz14_3 : wc.cell? ⟨gb152, 3, none⟩ = some (.int .i64 a0_3) := (blk_cell BK152.out 3).trans rfl
          have hcz14_4 : wc.cell? ⟨gb152, 4, none⟩ = some (.int .i64 a0_4) := (blk_cell BK152.out 4).trans rfl
          have hcz14_5 : wc.cell? ⟨gb152, 5, none⟩ = some (.int .i64 a0_5) := (blk_cell BK152.out 5).trans rfl
          have hcz14_6 : wc.cell? ⟨gb152, 6, none⟩ = some (.int .i64 a0_6) := (blk_cell BK152.out 6).trans rfl
          have hcz14_7 : wc.cell? ⟨gb152, 7, none⟩ = some (.int .i64 a0_7) := (blk_cell BK152.out 7).trans rfl
          have hcz14_8 : wc.cell? ⟨gb152, 8, none⟩ = some (.int .i64 a0_8) := (blk_cell BK152.out 8).trans rfl
          have hcz14_9 : wc.cell? ⟨gb152, 9, none⟩ = some (.int .i64 a0_9) := (blk_cell BK152.out 9).trans rfl
          have hcz14_10 : wc.cell? ⟨gb152, 10, none⟩ = some (.int .i64 a0_10) := (blk_cell BK152.out 10).trans rfl
          have hfz14_0 := blk_frozen BK152.out 0
          have hfz14_1 := blk_frozen BK152.out 1
          have hfz14_2 := blk_frozen BK152.out 2
          have hfz14_3 := blk_frozen BK152.out 3
          have hfz14_4 := blk_frozen BK152.out 4
          have hfz14_5 := blk_frozen BK152.out 5
          have hfz14_6 := blk_frozen BK152.out 6
          have hfz14_7 := blk_frozen BK152.out 7
          have hfz14_8 := blk_frozen BK152.out 8
          have hfz14_9 := blk_frozen BK152.out 9
          have hfz14_10 := blk_frozen BK152.out 10
          go_wp2_with (first | ((with_reducible refine gate_callee (f := 30) rfl ?_); refine goesL_ (some 26) rfl rfl Tryd.func30 (by kernel_rfl) rfl #[.int .i64 a0_9, .int .i64 (wrap64 (a0_4 + 1)), .int .i64 (wrap64 (a0_4 + 65536))] rfl (by (try simp only [List.map_toArray, List.map_cons, List.map_nil]); first | done | rfl | (simp only [List.length_drop, List.length_take]; rfl)) ?_; (with_reducible refine (storagebarterref15_in.calls a0_9 (wrap64 (a0_4 + 1)) (wrap64 (a0_4 + 65536)) true _ A12.out).mono ?_); rintro e w' ⟨rfl, ⟨nd, rfl⟩⟩; refine ⟨_, rfl, ?_⟩))
          go_meet
          case rel => exact ⟨_, (decide (a0_9 ≤ 1048576)), (by first | rfl | (simp; done) | (simp [*]; done)), H', ⟨by have := HJ2.out; first | omega | exact Nat.le_refl _⟩, ⟨by (with_reducible repeat (first | refine blk_drewN ?_ _ | refine blk_drew ?_ | refine blk_alloc ?_ _)); exact BK152.out⟩, ⟨by repeat (first | (with_reducible first | exact HB.out | apply below_alloc | apply pw_below_drewN | apply below_drew1 | refine below_set ?_ GE152.out) | exact HB.out)⟩⟩
        · replace c13 := Bool.eq_false_iff.mpr c13
          subst c13
          rw [if_neg (show ¬ (false = true) by decide)] at H
          have H' := Aside0.mk H
          clear H
          have hcz15_0 : wc.cell? ⟨gb152, 0, none⟩ = some (.int .i64 a0_0) := (blk_cell BK152.out 0).trans rfl
          have hcz15_1 : wc.cell? ⟨gb152, 1, none⟩ = some (.int .i64 a0_1) := (blk_cell BK152.out 1).trans rfl
          have hcz15_2 : wc.cell? ⟨gb152, 2, none⟩ = some (.int .i64 a0_2) := (blk_cell BK152.out 2).trans rfl
          have hcz15_3 : wc.cell? ⟨gb152, 3, none⟩ = some (.int .i64 a0_3) := (blk_cell BK152.out 3).trans rfl
          have hcz15_4 : wc.cell? ⟨gb152, 4, none⟩ = some (.int .i64 a0_4) := (blk_cell BK152.out 4).trans rfl
          have hcz15_5 : wc.cell? ⟨gb152, 5, none⟩ = some (.int .i64 a0_5) := (blk_cell BK152.out 5).trans rfl
          have hcz15_6 : wc.cell? ⟨gb152, 6, none⟩ = some (.int .i64 a0_6) := (blk_cell BK152.out 6).trans rfl
          have hcz15_7 : wc.cell? ⟨gb152, 7, none⟩ = some (.int .i64 a0_7) := (blk_cell BK152.out 7).trans rfl
          have hcz15_8 : wc.cell? ⟨gb152, 8, none⟩ = some (.int .i64 a0_8) := (blk_cell BK152.out 8).trans rfl
          have hcz15_9 : wc.cell? ⟨gb152, 9, none⟩ = some (.int .i64 a0_9) := (blk_cell BK152.out 9).trans rfl
          have hcz15_10 : wc.cell? ⟨gb152, 10, none⟩ = some (.int .i64 a0_10) := (blk_cell BK152.out 10).trans rfl
          have hfz15_0 := blk_frozen BK152.out 0
          have hfz15_1 := blk_frozen BK152.out 1
          have hfz15_2 := blk_frozen BK152.out 2
          have hfz15_3 := blk_frozen BK152.out 3
          have hfz15_4 := blk_frozen BK152.out 4
          have hfz15_5 := blk_frozen BK152.out 5
          have hfz15_6 := blk_frozen BK152.out 6
          have hfz15_7 := blk_frozen BK152.out 7
          have hfz15_8 := blk_frozen BK152.out 8
          have hfz15_9 := blk_frozen BK152.out 9
          have hfz15_10 := blk_frozen BK152.out 10
          go_wp2_with (first | ((with_reducible refine gate_callee (f := 30) rfl ?_); refine goesL_ (some 26) rfl rfl Tryd.func30 (by kernel_rfl) rfl #[.int .i64 a0_9, .int .i64 (wrap64 (a0_4 + 1)), .int .i64 (wrap64 (a0_4 + 65536))] rfl (by (try simp only [List.map_toArray, List.map_cons, List.map_nil]); first | done | rfl | (simp only [List.length_drop, List.length_take]; rfl)) ?_; (with_reducible refine (storagebarterref15_in.calls a0_9 (wrap64 (a0_4 + 1)) (wrap64 (a0_4 + 65536)) false _ A12.out).mono ?_); rintro e w' ⟨rfl, ⟨nd, rfl⟩⟩; refine ⟨_, rfl, ?_⟩))
          go_meet
          case rel => exact ⟨_, (false), (by first | rfl | (simp; done) | (simp [*]; done)), H', ⟨by have := HJ2.out; first | omega | exact Nat.le_refl _⟩, ⟨by (with_reducible repeat (first | refine blk_drewN ?_ _ | refine blk_drew ?_ | refine blk_alloc ?_ _)); exact BK152.out⟩, ⟨by repeat (first | (with_reducible first | exact HB.out | apply below_alloc | apply pw_below_drewN | apply below_drew1 | refine below_set ?_ GE152.out) | exact HB.out)⟩⟩
      case rest =>
        clear HC11
        try clear c1
        try clear p2
        try clear c3
        try clear c4
        try clear p6
        try clear c7
        try clear c13
        try clear hcz10_0
        try clear hcz10_1
        try clear hcz10_10
        try clear hcz10_2
        try clear hcz10_3
        try clear hcz10_4
        try clear hcz10_5
        try clear hcz10_6
        try clear hcz10_7
        try clear hcz10_8
        try clear hcz10_9
        try clear hcz14_0
        try clear hcz14_1
        try clear hcz14_10
        try clear hcz14_2
        try clear hcz14_3
        try clear hcz14_4
        try clear hcz14_5
        try clear hcz14_6
        try clear hcz14_7
        try clear hcz14_8
        try clear hcz14_9
        try clear hcz15_0
        try clear hcz15_1
        try clear hcz15_10
        try clear hcz15_2
        try clear hcz15_3
        try clear hcz15_4
        try clear hcz15_5
        try clear hcz15_6
        try clear hcz15_7
        try clear hcz15_8
        try clear hcz15_9
        try clear hcz5_0
        try clear hcz5_1
        try clear hcz5_10
        try clear hcz5_2
        try clear hcz5_3
        try clear hcz5_4
        try clear hcz5_5
        try clear hcz5_6
        try clear hcz5_7
        try clear hcz5_8
        try clear hcz5_9
        try clear hcz9_0
        try clear hcz9_1
        try clear hcz9_10
        try clear hcz9_2
        try clear hcz9_3
        try clear hcz9_4
        try clear hcz9_5
        try clear hcz9_6
        try clear hcz9_7
        try clear hcz9_8
        try clear hcz9_9
        try clear hfz10_0
        try clear hfz10_1
        try clear hfz10_10
        try clear hfz10_2
        try clear hfz10_3
        try clear hfz10_4
        try clear hfz10_5
        try clear hfz10_6
        try clear hfz10_7
        try clear hfz10_8
        try clear hfz10_9
        try clear hfz14_0
        try clear hfz14_1
        try clear hfz14_10
        try clear hfz14_2
        try clear hfz14_3
        try clear hfz14_4
        try clear hfz14_5
        try clear hfz14_6
        try clear hfz14_7
        try clear hfz14_8
        try clear hfz14_9
        try clear hfz15_0
        try clear hfz15_1
        try clear hfz15_10
        try clear hfz15_2
        try clear hfz15_3
        try clear hfz15_4
        try clear hfz15_5
        try clear hfz15_6
        try clear hfz15_7
        try clear hfz15_8
        try clear hfz15_9
        try clear hfz5_0
        try clear hfz5_1
        try clear hfz5_10
        try clear hfz5_2
        try clear hfz5_3
        try clear hfz5_4
        try clear hfz5_5
        try clear hfz5_6
        try clear hfz5_7
        try clear hfz5_8
        try clear hfz5_9
        try clear hfz9_0
        try clear hfz9_1
        try clear hfz9_10
        try clear hfz9_2
        try clear hfz9_3
        try clear hfz9_4
        try clear hfz9_5
        try clear hfz9_6
        try clear hfz9_7
        try clear hfz9_8
        try clear hfz9_9
        try clear p2
        obtain ⟨kq, x5_10, rfl, HA, HJ10, BK152, HB⟩ := hcut
        cases kq with
        | zero => exact absurd HA.out (by simp [storagebarterref15_parts.j1])
        | succ kj10 =>
          have H := HA.out
          clear HA
          simp only [storagebarterref15_parts.j1] at H
          have HC16 := Aside0.mk H
          clear H
          go_upto_region 4 with (fail)
          go_cut [6] (fun v6 wc => ∃ (kq : Nat) (x6_15 : Bool), v6 = .bool x6_15 ∧ Aside0 (storagebarterref15_parts.j2 kq t153 x4_2 x5_10 x6_15 a0_0 a0_1 a0_2 a0_3 a0_4 a0_5 a0_6 a0_7 a0_8 a0_9 a0_10 = some r) ∧ Aside0 (kq ≤ kj10) ∧ Aside0 (wc.heap[gb152]? = some (.cells #[.int .i64 a0_0, .int .i64 a0_1, .int .i64 a0_2, .int .i64 a0_3, .int .i64 a0_4, .int .i64 a0_5, .int .i64 a0_6, .int .i64 a0_7, .int .i64 a0_8, .int .i64 a0_9, .int .i64 a0_10] 39 (0, 0))) ∧ Aside0 (Below w.heap.size w wc))
          case first =>
            have H := HC16.out
            clear HC16
            by_cases c17 : a0_7 = 0
            · rw [if_pos c17] at H
              have c17b0 : (a0_7 == 0) = true := beq_iff_eq.mpr c17
              have c17b1 : (a0_7 != 0) = false := bne_eq_false_iff_eq.mpr c17
              clear c17
              (first | rw [c17b0] | (simp only [i64_w, i32_w]; rw [c17b0]) | skip)
              have H' := Aside0.mk H
              clear H
              have hcz18_0 : wc.cell? ⟨gb152, 0, none⟩ = some (.int .i64 a0_0) := (blk_cell BK152.out 0).trans rfl
              have hcz18_1 : wc.cell? ⟨gb152, 1, none⟩ = some (.int .i64 a0_1) := (blk_cell BK152.out 1).trans rfl
              have hcz18_2 : wc.cell? ⟨gb152, 2, none⟩ = some (.int .i64 a0_2) := (blk_cell BK152.out 2).trans rfl
              have hcz18_3 : wc.cell? ⟨gb152, 3, none⟩ = some (.int .i64 a0_3) := (blk_cell BK152.out 3).trans rfl
              have hcz18_4 : wc.cell? ⟨gb152, 4, none⟩ = some (.int .i64 a0_4) := (blk_cell BK152.out 4).trans rfl
              have hcz18_5 : wc.cell? ⟨gb152, 5, none⟩ = some (.int .i64 a0_5) := (blk_cell BK152.out 5).trans rfl
              have hcz18_6 : wc.cell? ⟨gb152, 6, none⟩ = some (.int .i64 a0_6) := (blk_cell BK152.out 6).trans rfl
              have hcz18_7 : wc.cell? ⟨gb152, 7, none⟩ = some (.int .i64 a0_7) := (blk_cell BK152.out 7).trans rfl
              have hcz18_8 : wc.cell? ⟨gb152, 8, none⟩ = some (.int .i64 a0_8) := (blk_cell BK152.out 8).trans rfl
              have hcz18_9 : wc.cell? ⟨gb152, 9, none⟩ = some (.int .i64 a0_9) := (blk_cell BK152.out 9).trans rfl
              have hcz18_10 : wc.cell? ⟨gb152, 10, none⟩ = some (.int .i64 a0_10) := (blk_cell BK152.out 10).trans rfl
              have hfz18_0 := blk_frozen BK152.out 0
              have hfz18_1 := blk_frozen BK152.out 1
              have hfz18_2 := blk_frozen BK152.out 2
              have hfz18_3 := blk_frozen BK152.out 3
              have hfz18_4 := blk_frozen BK152.out 4
              have hfz18_5 := blk_frozen BK152.out 5
              have hfz18_6 := blk_frozen BK152.out 6
              have hfz18_7 := blk_frozen BK152.out 7
              have hfz18_8 := blk_frozen BK152.out 8
              have hfz18_9 := blk_frozen BK152.out 9
              have hfz18_10 := blk_frozen BK152.out 10
              go_wp2
              go_meet
              case rel => exact ⟨_, ((a0_8 == 0)), (by first | rfl | (simp; done) | (simp [*]; done)), H', ⟨by have := HJ2.out; have := HJ10.out; first | omega | exact Nat.le_refl _⟩, ⟨by (with_reducible repeat (first | refine blk_drewN ?_ _ | refine blk_drew ?_ | refine blk_alloc ?_ _)); exact BK152.out⟩, ⟨by repeat (first | (with_reducible first | exact HB.out | apply below_alloc | apply pw_below_drewN | apply below_drew1 | refine below_set ?_ GE152.out) | exact HB.out)⟩⟩
            · rw [if_neg c17] at H
              have c17b0 : (a0_7 == 0) = false := beq_eq_false_iff_ne.mpr c17
              have c17b1 : (a0_7 != 0) = true := bne_iff_ne.mpr c17
              (first | rw [c17b0] | (simp only [i64_w, i32_w]; rw [c17b0]) | skip)
              have H' := Aside0.mk H
              clear H
              have hcz19_0 : wc.cell? ⟨gb152, 0, none⟩ = some (.int .i64 a0_0) := (blk_cell BK152.out 0).trans rfl
              have hcz19_1 : wc.cell? ⟨gb152, 1, none⟩ = some (.int .i64 a0_1) := (blk_cell BK152.out 1).trans rfl
              have hcz19_2 : wc.cell? ⟨gb152, 2, none⟩ = some (.int .i64 a0_2) := (blk_cell BK152.out 2).trans rfl
              have hcz19_3 : wc.cell? ⟨gb152, 3, none⟩ = some (.int .i64 a0_3) := (blk_cell BK152.out 3).trans rfl
              have hcz19_4 : wc.cell? ⟨gb152, 4, none⟩ = some (.int .i64 a0_4) := (blk_cell BK152.out 4).trans rfl
              have hcz19_5 : wc.cell? ⟨gb152, 5, none⟩ = some (.int .i64 a0_5) := (blk_cell BK152.out 5).trans rfl
              have hcz19_6 : wc.cell? ⟨gb152, 6, none⟩ = some (.int .i64 a0_6) := (blk_cell BK152.out 6).trans rfl
              have hcz19_7 : wc.cell? ⟨gb152, 7, none⟩ = some (.int .i64 a0_7) := (blk_cell BK152.out 7).trans rfl
              have hcz19_8 : wc.cell? ⟨gb152, 8, none⟩ = some (.int .i64 a0_8) := (blk_cell BK152.out 8).trans rfl
              have hcz19_9 : wc.cell? ⟨gb152, 9, none⟩ = some (.int .i64 a0_9) := (blk_cell BK152.out 9).trans rfl
              have hcz19_10 : wc.cell? ⟨gb152, 10, none⟩ = some (.int .i64 a0_10) := (blk_cell BK152.out 10).trans rfl
              have hfz19_0 := blk_frozen BK152.out 0
              have hfz19_1 := blk_frozen BK152.out 1
              have hfz19_2 := blk_frozen BK152.out 2
              have hfz19_3 := blk_frozen BK152.out 3
              have hfz19_4 := blk_frozen BK152.out 4
              have hfz19_5 := blk_frozen BK152.out 5
              have hfz19_6 := blk_frozen BK152.out 6
              have hfz19_7 := blk_frozen BK152.out 7
              have hfz19_8 := blk_frozen BK152.out 8
              have hfz19_9 := blk_frozen BK152.out 9
              have hfz19_10 := blk_frozen BK152.out 10
              go_wp2
              go_meet
              case rel => exact ⟨_, (false), (by first | rfl | (simp; done) | (simp [*]; done)), H', ⟨by have := HJ2.out; have := HJ10.out; first | omega | exact Nat.le_refl _⟩, ⟨by (with_reducible repeat (first | refine blk_drewN ?_ _ | refine blk_drew ?_ | refine blk_alloc ?_ _)); exact BK152.out⟩, ⟨by repeat (first | (with_reducible first | exact HB.out | apply below_alloc | apply pw_below_drewN | apply below_drew1 | refine below_set ?_ GE152.out) | exact HB.out)⟩⟩
          case rest =>
            clear HC16
            try clear c1
            try clear p2
            try clear c3
            try clear c4
            try clear p6
            try clear c7
            try clear c13
            try clear c17
            try clear c17b0
            try clear c17b1
            try clear hcz10_0
            try clear hcz10_1
            try clear hcz10_10
            try clear hcz10_2
            try clear hcz10_3
            try clear hcz10_4
            try clear hcz10_5
            try clear hcz10_6
            try clear hcz10_7
            try clear hcz10_8
            try clear hcz10_9
            try clear hcz14_0
            try clear hcz14_1
            try clear hcz14_10
            try clear hcz14_2
            try clear hcz14_3
            try clear hcz14_4
            try clear hcz14_5
            try clear hcz14_6
            try clear hcz14_7
            try clear hcz14_8
            try clear hcz14_9
            try clear hcz15_0
            try clear hcz15_1
            try clear hcz15_10
            try clear hcz15_2
            try clear hcz15_3
            try clear hcz15_4
            try clear hcz15_5
            try clear hcz15_6
            try clear hcz15_7
            try clear hcz15_8
            try clear hcz15_9
            try clear hcz18_0
            try clear hcz18_1
            try clear hcz18_10
            try clear hcz18_2
            try clear hcz18_3
            try clear hcz18_4
            try clear hcz18_5
            try clear hcz18_6
            try clear hcz18_7
            try clear hcz18_8
            try clear hcz18_9
            try clear hcz19_0
            try clear hcz19_1
            try clear hcz19_10
            try clear hcz19_2
            try clear hcz19_3
            try clear hcz19_4
            try clear hcz19_5
            try clear hcz19_6
            try clear hcz19_7
            try clear hcz19_8
            try clear hcz19_9
            try clear hcz5_0
            try clear hcz5_1
            try clear hcz5_10
            try clear hcz5_2
            try clear hcz5_3
            try clear hcz5_4
            try clear hcz5_5
            try clear hcz5_6
            try clear hcz5_7
            try clear hcz5_8
            try clear hcz5_9
            try clear hcz9_0
            try clear hcz9_1
            try clear hcz9_10
            try clear hcz9_2
            try clear hcz9_3
            try clear hcz9_4
            try clear hcz9_5
            try clear hcz9_6
            try clear hcz9_7
            try clear hcz9_8
            try clear hcz9_9
            try clear hfz10_0
            try clear hfz10_1
            try clear hfz10_10
            try clear hfz10_2
            try clear hfz10_3
            try clear hfz10_4
            try clear hfz10_5
            try clear hfz10_6
            try clear hfz10_7
            try clear hfz10_8
            try clear hfz10_9
            try clear hfz14_0
            try clear hfz14_1
            try clear hfz14_10
            try clear hfz14_2
            try clear hfz14_3
            try clear hfz14_4
            try clear hfz14_5
            try clear hfz14_6
            try clear hfz14_7
            try clear hfz14_8
            try clear hfz14_9
            try clear hfz15_0
            try clear hfz15_1
            try clear hfz15_10
            try clear hfz15_2
            try clear hfz15_3
            try clear hfz15_4
            try clear hfz15_5
            try clear hfz15_6
            try clear hfz15_7
            try clear hfz15_8
            try clear hfz15_9
            try clear hfz18_0
            try clear hfz18_1
            try clear hfz18_10
            try clear hfz18_2
            try clear hfz18_3
            try clear hfz18_4
            try clear hfz18_5
            try clear hfz18_6
            try clear hfz18_7
            try clear hfz18_8
            try clear hfz18_9
            try clear hfz19_0
            try clear hfz19_1
            try clear hfz19_10
            try clear hfz19_2
            try clear hfz19_3
            try clear hfz19_4
            try clear hfz19_5
            try clear hfz19_6
            try clear hfz19_7
            try clear hfz19_8
            try clear hfz19_9
            try clear hfz5_0
            try clear hfz5_1
            try clear hfz5_10
            try clear hfz5_2
            try clear hfz5_3
            try clear hfz5_4
            try clear hfz5_5
            try clear hfz5_6
            try clear hfz5_7
            try clear hfz5_8
            try clear hfz5_9
            try clear hfz9_0
            try clear hfz9_1
            try clear hfz9_10
            try clear hfz9_2
            try clear hfz9_3
            try clear hfz9_4
            try clear hfz9_5
            try clear hfz9_6
            try clear hfz9_7
            try clear hfz9_8
            try clear hfz9_9
            try clear p2
            try clear p6
            obtain ⟨kq, x6_15, rfl, HA, HJ15, BK152, HB⟩ := hcut
            cases kq with
            | zero => exact absurd HA.out (by simp [storagebarterref15_parts.j2])
            | succ kj15 =>
              have H := HA.out
              clear HA
              simp only [storagebarterref15_parts.j2] at H
              by_cases c20 : a0_5 = 1
              · rw [if_pos c20] at H
                have c20b0 : (a0_5 == 1) = true := beq_iff_eq.mpr c20
                have c20b1 : (a0_5 != 1) = false := bne_eq_false_iff_eq.mpr c20
                clear c20
                by_cases c21 : t153 = true
                · subst c21
                  rw [if_pos rfl] at H
                  by_cases c22 : x4_2 = true
                  · subst c22
                    rw [if_pos rfl] at H
                    obtain rfl := Option.some.inj H
                    have hcz23_0 : wc.cell? ⟨gb152, 0, none⟩ = some (.int .i64 a0_0) := (blk_cell BK152.out 0).trans rfl
                    have hcz23_1 : wc.cell? ⟨gb152, 1, none⟩ = some (.int .i64 a0_1) := (blk_cell BK152.out 1).trans rfl
                    have hcz23_2 : wc.cell? ⟨gb152, 2, none⟩ = some (.int .i64 a0_2) := (blk_cell BK152.out 2).trans rfl
                    have hcz23_3 : wc.cell? ⟨gb152, 3, none⟩ = some (.int .i64 a0_3) := (blk_cell BK152.out 3).trans rfl
                    have hcz23_4 : wc.cell? ⟨gb152, 4, none⟩ = some (.int .i64 a0_4) := (blk_cell BK152.out 4).trans rfl
                    have hcz23_5 : wc.cell? ⟨gb152, 5, none⟩ = some (.int .i64 a0_5) := (blk_cell BK152.out 5).trans rfl
                    have hcz23_6 : wc.cell? ⟨gb152, 6, none⟩ = some (.int .i64 a0_6) := (blk_cell BK152.out 6).trans rfl
                    have hcz23_7 : wc.cell? ⟨gb152, 7, none⟩ = some (.int .i64 a0_7) := (blk_cell BK152.out 7).trans rfl
                    have hcz23_8 : wc.cell? ⟨gb152, 8, none⟩ = some (.int .i64 a0_8) := (blk_cell BK152.out 8).trans rfl
                    have hcz23_9 : wc.cell? ⟨gb152, 9, none⟩ = some (.int .i64 a0_9) := (blk_cell BK152.out 9).trans rfl
                    have hcz23_10 : wc.cell? ⟨gb152, 10, none⟩ = some (.int .i64 a0_10) := (blk_cell BK152.out 10).trans rfl
                    have hfz23_0 := blk_frozen BK152.out 0
                    have hfz23_1 := blk_frozen BK152.out 1
                    have hfz23_2 := blk_frozen BK152.out 2
                    have hfz23_3 := blk_frozen BK152.out 3
                    have hfz23_4 := blk_frozen BK152.out 4
                    have hfz23_5 := blk_frozen BK152.out 5
                    have hfz23_6 := blk_frozen BK152.out 6
                    have hfz23_7 := blk_frozen BK152.out 7
                    have hfz23_8 := blk_frozen BK152.out 8
                    have hfz23_9 := blk_frozen BK152.out 9
                    have hfz23_10 := blk_frozen BK152.out 10
                    go_wp2
                    go_ret
                    exact ⟨by first | rfl | (simp [errW_none, errW_some] <;> rfl) | (simp [*, errW_none, errW_some] <;> rfl), by repeat (first | (with_reducible first | exact HB.out | apply below_alloc | apply pw_below_drewN | apply below_drew1 | refine below_set ?_ GE152.out) | exact HB.out)⟩
                  · replace c22 := Bool.eq_false_iff.mpr c22
                    subst c22
                    rw [if_neg (show ¬ (false = true) by decide)] at H
                    obtain rfl := Option.some.inj H
                    have hcz24_0 : wc.cell? ⟨gb152, 0, none⟩ = some (.int .i64 a0_0) := (blk_cell BK152.out 0).trans rfl
                    have hcz24_1 : wc.cell? ⟨gb152, 1, none⟩ = some (.int .i64 a0_1) := (blk_cell BK152.out 1).trans rfl
                    have hcz24_2 : wc.cell? ⟨gb152, 2, none⟩ = some (.int .i64 a0_2) := (blk_cell BK152.out 2).trans rfl
                    have hcz24_3 : wc.cell? ⟨gb152, 3, none⟩ = some (.int .i64 a0_3) := (blk_cell BK152.out 3).trans rfl
                    have hcz24_4 : wc.cell? ⟨gb152, 4, none⟩ = some (.int .i64 a0_4) := (blk_cell BK152.out 4).trans rfl
                    have hcz24_5 : wc.cell? ⟨gb152, 5, none⟩ = some (.int .i64 a0_5) := (blk_cell BK152.out 5).trans rfl
                    have hcz24_6 : wc.cell? ⟨gb152, 6, none⟩ = some (.int .i64 a0_6) := (blk_cell BK152.out 6).trans rfl
                    have hcz24_7 : wc.cell? ⟨gb152, 7, none⟩ = some (.int .i64 a0_7) := (blk_cell BK152.out 7).trans rfl
                    have hcz24_8 : wc.cell? ⟨gb152, 8, none⟩ = some (.int .i64 a0_8) := (blk_cell BK152.out 8).trans rfl
                    have hcz24_9 : wc.cell? ⟨gb152, 9, none⟩ = some (.int .i64 a0_9) := (blk_cell BK152.out 9).trans rfl
                    have hcz24_10 : wc.cell? ⟨gb152, 10, none⟩ = some (.int .i64 a0_10) := (blk_cell BK152.out 10).trans rfl
                    have hfz24_0 := blk_frozen BK152.out 0
                    have hfz24_1 := blk_frozen BK152.out 1
                    have hfz24_2 := blk_frozen BK152.out 2
                    have hfz24_3 := blk_frozen BK152.out 3
                    have hfz24_4 := blk_frozen BK152.out 4
                    have hfz24_5 := blk_frozen BK152.out 5
                    have hfz24_6 := blk_frozen BK152.out 6
                    have hfz24_7 := blk_frozen BK152.out 7
                    have hfz24_8 := blk_frozen BK152.out 8
                    have hfz24_9 := blk_frozen BK152.out 9
                    have hfz24_10 := blk_frozen BK152.out 10
                    go_wp2
                    go_ret
                    exact ⟨by first | rfl | (simp [errW_none, errW_some] <;> rfl) | (simp [*, errW_none, errW_some] <;> rfl), by repeat (first | (with_reducible first | exact HB.out | apply below_alloc | apply pw_below_drewN | apply below_drew1 | refine below_set ?_ GE152.out) | exact HB.out)⟩
                · replace c21 := Bool.eq_false_iff.mpr c21
                  subst c21
                  rw [if_neg (show ¬ (false = true) by decide)] at H
                  obtain rfl := Option.some.inj H
                  have hcz25_0 : wc.cell? ⟨gb152, 0, none⟩ = some (.int .i64 a0_0) := (blk_cell BK152.out 0).trans rfl
                  have hcz25_1 : wc.cell? ⟨gb152, 1, none⟩ = some (.int .i64 a0_1) := (blk_cell BK152.out 1).trans rfl
                  have hcz25_2 : wc.cell? ⟨gb152, 2, none⟩ = some (.int .i64 a0_2) := (blk_cell BK152.out 2).trans rfl
                  have hcz25_3 : wc.cell? ⟨gb152, 3, none⟩ = some (.int .i64 a0_3) := (blk_cell BK152.out 3).trans rfl
                  have hcz25_4 : wc.cell? ⟨gb152, 4, none⟩ = some (.int .i64 a0_4) := (blk_cell BK152.out 4).trans rfl
                  have hcz25_5 : wc.cell? ⟨gb152, 5, none⟩ = some (.int .i64 a0_5) := (blk_cell BK152.out 5).trans rfl
                  have hcz25_6 : wc.cell? ⟨gb152, 6, none⟩ = some (.int .i64 a0_6) := (blk_cell BK152.out 6).trans rfl
                  have hcz25_7 : wc.cell? ⟨gb152, 7, none⟩ = some (.int .i64 a0_7) := (blk_cell BK152.out 7).trans rfl
                  have hcz25_8 : wc.cell? ⟨gb152, 8, none⟩ = some (.int .i64 a0_8) := (blk_cell BK152.out 8).trans rfl
                  have hcz25_9 : wc.cell? ⟨gb152, 9, none⟩ = some (.int .i64 a0_9) := (blk_cell BK152.out 9).trans rfl
                  have hcz25_10 : wc.cell? ⟨gb152, 10, none⟩ = some (.int .i64 a0_10) := (blk_cell BK152.out 10).trans rfl
                  have hfz25_0 := blk_frozen BK152.out 0
                  have hfz25_1 := blk_frozen BK152.out 1
                  have hfz25_2 := blk_frozen BK152.out 2
                  have hfz25_3 := blk_frozen BK152.out 3
                  have hfz25_4 := blk_frozen BK152.out 4
                  have hfz25_5 := blk_frozen BK152.out 5
                  have hfz25_6 := blk_frozen BK152.out 6
                  have hfz25_7 := blk_frozen BK152.out 7
                  have hfz25_8 := blk_frozen BK152.out 8
                  have hfz25_9 := blk_frozen BK152.out 9
                  have hfz25_10 := blk_frozen BK152.out 10
                  go_wp2
                  go_ret
                  exact ⟨by first | rfl | (simp [errW_none, errW_some] <;> rfl) | (simp [*, errW_none, errW_some] <;> rfl), by repeat (first | (with_reducible first | exact HB.out | apply below_alloc | apply pw_below_drewN | apply below_drew1 | refine below_set ?_ GE152.out) | exact HB.out)⟩
              · rw [if_neg c20] at H
                have c20b0 : (a0_5 == 1) = false := beq_eq_false_iff_ne.mpr c20
                have c20b1 : (a0_5 != 1) = true := bne_iff_ne.mpr c20
                by_cases c26 : a0_5 = 2
                · rw [if_pos c26] at H
                  have c26b0 : (a0_5 == 2) = true := beq_iff_eq.mpr c26
                  have c26b1 : (a0_5 != 2) = false := bne_eq_false_iff_eq.mpr c26
                  clear c26
                  by_cases c27 : t153 = true
                  · subst c27
                    rw [if_pos rfl] at H
                    by_cases c28 : x6_15 = true
                    · subst c28
                      rw [if_pos rfl] at H
                      obtain rfl := Option.some.inj H
                      have hcz29_0 : wc.cell? ⟨gb152, 0, none⟩ = some (.int .i64 a0_0) := (blk_cell BK152.out 0).trans rfl
                      have hcz29_1 : wc.cell? ⟨gb152, 1, none⟩ = some (.int .i64 a0_1) := (blk_cell BK152.out 1).trans rfl
                      have hcz29_2 : wc.cell? ⟨gb152, 2, none⟩ = some (.int .i64 a0_2) := (blk_cell BK152.out 2).trans rfl
                      have hcz29_3 : wc.cell? ⟨gb152, 3, none⟩ = some (.int .i64 a0_3) := (blk_cell BK152.out 3).trans rfl
                      have hcz29_4 : wc.cell? ⟨gb152, 4, none⟩ = some (.int .i64 a0_4) := (blk_cell BK152.out 4).trans rfl
                      have hcz29_5 : wc.cell? ⟨gb152, 5, none⟩ = some (.int .i64 a0_5) := (blk_cell BK152.out 5).trans rfl
                      have hcz29_6 : wc.cell? ⟨gb152, 6, none⟩ = some (.int .i64 a0_6) := (blk_cell BK152.out 6).trans rfl
                      have hcz29_7 : wc.cell? ⟨gb152, 7, none⟩ = some (.int .i64 a0_7) := (blk_cell BK152.out 7).trans rfl
                      have hcz29_8 : wc.cell? ⟨gb152, 8, none⟩ = some (.int .i64 a0_8) := (blk_cell BK152.out 8).trans rfl
                      have hcz29_9 : wc.cell? ⟨gb152, 9, none⟩ = some (.int .i64 a0_9) := (blk_cell BK152.out 9).trans rfl
                      have hcz29_10 : wc.cell? ⟨gb152, 10, none⟩ = some (.int .i64 a0_10) := (blk_cell BK152.out 10).trans rfl
                      have hfz29_0 := blk_frozen BK152.out 0
                      have hfz29_1 := blk_frozen BK152.out 1
                      have hfz29_2 := blk_frozen BK152.out 2
                      have hfz29_3 := blk_frozen BK152.out 3
                      have hfz29_4 := blk_frozen BK152.out 4
                      have hfz29_5 := blk_frozen BK152.out 5
                      have hfz29_6 := blk_frozen BK152.out 6
                      have hfz29_7 := blk_frozen BK152.out 7
                      have hfz29_8 := blk_frozen BK152.out 8
                      have hfz29_9 := blk_frozen BK152.out 9
                      have hfz29_10 := blk_frozen BK152.out 10
                      go_wp2
                      go_ret
                      exact ⟨by first | rfl | (simp [errW_none, errW_some] <;> rfl) | (simp [*, errW_none, errW_some] <;> rfl), by repeat (first | (with_reducible first | exact HB.out | apply below_alloc | apply pw_below_drewN | apply below_drew1 | refine below_set ?_ GE152.out) | exact HB.out)⟩
                    · replace c28 := Bool.eq_false_iff.mpr c28
                      subst c28
                      rw [if_neg (show ¬ (false = true) by decide)] at H
                      obtain rfl := Option.some.inj H
                      have hcz30_0 : wc.cell? ⟨gb152, 0, none⟩ = some (.int .i64 a0_0) := (blk_cell BK152.out 0).trans rfl
                      have hcz30_1 : wc.cell? ⟨gb152, 1, none⟩ = some (.int .i64 a0_1) := (blk_cell BK152.out 1).trans rfl
                      have hcz30_2 : wc.cell? ⟨gb152, 2, none⟩ = some (.int .i64 a0_2) := (blk_cell BK152.out 2).trans rfl
                      have hcz30_3 : wc.cell? ⟨gb152, 3, none⟩ = some (.int .i64 a0_3) := (blk_cell BK152.out 3).trans rfl
                      have hcz30_4 : wc.cell? ⟨gb152, 4, none⟩ = some (.int .i64 a0_4) := (blk_cell BK152.out 4).trans rfl
                      have hcz30_5 : wc.cell? ⟨gb152, 5, none⟩ = some (.int .i64 a0_5) := (blk_cell BK152.out 5).trans rfl
                      have hcz30_6 : wc.cell? ⟨gb152, 6, none⟩ = some (.int .i64 a0_6) := (blk_cell BK152.out 6).trans rfl
                      have hcz30_7 : wc.cell? ⟨gb152, 7, none⟩ = some (.int .i64 a0_7) := (blk_cell BK152.out 7).trans rfl
                      have hcz30_8 : wc.cell? ⟨gb152, 8, none⟩ = some (.int .i64 a0_8) := (blk_cell BK152.out 8).trans rfl
                      have hcz30_9 : wc.cell? ⟨gb152, 9, none⟩ = some (.int .i64 a0_9) := (blk_cell BK152.out 9).trans rfl
                      have hcz30_10 : wc.cell? ⟨gb152, 10, none⟩ = some (.int .i64 a0_10) := (blk_cell BK152.out 10).trans rfl
                      have hfz30_0 := blk_frozen BK152.out 0
                      have hfz30_1 := blk_frozen BK152.out 1
                      have hfz30_2 := blk_frozen BK152.out 2
                      have hfz30_3 := blk_frozen BK152.out 3
                      have hfz30_4 := blk_frozen BK152.out 4
                      have hfz30_5 := blk_frozen BK152.out 5
                      have hfz30_6 := blk_frozen BK152.out 6
                      have hfz30_7 := blk_frozen BK152.out 7
                      have hfz30_8 := blk_frozen BK152.out 8
                      have hfz30_9 := blk_frozen BK152.out 9
                      have hfz30_10 := blk_frozen BK152.out 10
                      go_wp2
                      go_ret
                      exact ⟨by first | rfl | (simp [errW_none, errW_some] <;> rfl) | (simp [*, errW_none, errW_some] <;> rfl), by repeat (first | (with_reducible first | exact HB.out | apply below_alloc | apply pw_below_drewN | apply below_drew1 | refine below_set ?_ GE152.out) | exact HB.out)⟩
                  · replace c27 := Bool.eq_false_iff.mpr c27
                    subst c27
                    rw [if_neg (show ¬ (false = true) by decide)] at H
                    obtain rfl := Option.some.inj H
                    have hcz31_0 : wc.cell? ⟨gb152, 0, none⟩ = some (.int .i64 a0_0) := (blk_cell BK152.out 0).trans rfl
                    have hcz31_1 : wc.cell? ⟨gb152, 1, none⟩ = some (.int .i64 a0_1) := (blk_cell BK152.out 1).trans rfl
                    have hcz31_2 : wc.cell? ⟨gb152, 2, none⟩ = some (.int .i64 a0_2) := (blk_cell BK152.out 2).trans rfl
                    have hcz31_3 : wc.cell? ⟨gb152, 3, none⟩ = some (.int .i64 a0_3) := (blk_cell BK152.out 3).trans rfl
                    have hcz31_4 : wc.cell? ⟨gb152, 4, none⟩ = some (.int .i64 a0_4) := (blk_cell BK152.out 4).trans rfl
                    have hcz31_5 : wc.cell? ⟨gb152, 5, none⟩ = some (.int .i64 a0_5) := (blk_cell BK152.out 5).trans rfl
                    have hcz31_6 : wc.cell? ⟨gb152, 6, none⟩ = some (.int .i64 a0_6) := (blk_cell BK152.out 6).trans rfl
                    have hcz31_7 : wc.cell? ⟨gb152, 7, none⟩ = some (.int .i64 a0_7) := (blk_cell BK152.out 7).trans rfl
                    have hcz31_8 : wc.cell? ⟨gb152, 8, none⟩ = some (.int .i64 a0_8) := (blk_cell BK152.out 8).trans rfl
                    have hcz31_9 : wc.cell? ⟨gb152, 9, none⟩ = some (.int .i64 a0_9) := (blk_cell BK152.out 9).trans rfl
                    have hcz31_10 : wc.cell? ⟨gb152, 10, none⟩ = some (.int .i64 a0_10) := (blk_cell BK152.out 10).trans rfl
                    have hfz31_0 := blk_frozen BK152.out 0
                    have hfz31_1 := blk_frozen BK152.out 1
                    have hfz31_2 := blk_frozen BK152.out 2
                    have hfz31_3 := blk_frozen BK152.out 3
                    have hfz31_4 := blk_frozen BK152.out 4
                    have hfz31_5 := blk_frozen BK152.out 5
                    have hfz31_6 := blk_frozen BK152.out 6
                    have hfz31_7 := blk_frozen BK152.out 7
                    have hfz31_8 := blk_frozen BK152.out 8
                    have hfz31_9 := blk_frozen BK152.out 9
                    have hfz31_10 := blk_frozen BK152.out 10
                    go_wp2
                    go_ret
                    exact ⟨by first | rfl | (simp [errW_none, errW_some] <;> rfl) | (simp [*, errW_none, errW_some] <;> rfl), by repeat (first | (with_reducible first | exact HB.out | apply below_alloc | apply pw_below_drewN | apply below_drew1 | refine below_set ?_ GE152.out) | exact HB.out)⟩
                · rw [if_neg c26] at H
                  have c26b0 : (a0_5 == 2) = false := beq_eq_false_iff_ne.mpr c26
                  have c26b1 : (a0_5 != 2) = true := bne_iff_ne.mpr c26
                  have HC32 := Aside0.mk H
                  clear H
                  have hcz33_0 : wc.cell? ⟨gb152, 0, none⟩ = some (.int .i64 a0_0) := (blk_cell BK152.out 0).trans rfl
                  have hcz33_1 : wc.cell? ⟨gb152, 1, none⟩ = some (.int .i64 a0_1) := (blk_cell BK152.out 1).trans rfl
                  have hcz33_2 : wc.cell? ⟨gb152, 2, none⟩ = some (.int .i64 a0_2) := (blk_cell BK152.out 2).trans rfl
                  have hcz33_3 : wc.cell? ⟨gb152, 3, none⟩ = some (.int .i64 a0_3) := (blk_cell BK152.out 3).trans rfl
                  have hcz33_4 : wc.cell? ⟨gb152, 4, none⟩ = some (.int .i64 a0_4) := (blk_cell BK152.out 4).trans rfl
                  have hcz33_5 : wc.cell? ⟨gb152, 5, none⟩ = some (.int .i64 a0_5) := (blk_cell BK152.out 5).trans rfl
                  have hcz33_6 : wc.cell? ⟨gb152, 6, none⟩ = some (.int .i64 a0_6) := (blk_cell BK152.out 6).trans rfl
                  have hcz33_7 : wc.cell? ⟨gb152, 7, none⟩ = some (.int .i64 a0_7) := (blk_cell BK152.out 7).trans rfl
                  have hcz33_8 : wc.cell? ⟨gb152, 8, none⟩ = some (.int .i64 a0_8) := (blk_cell BK152.out 8).trans rfl
                  have hcz33_9 : wc.cell? ⟨gb152, 9, none⟩ = some (.int .i64 a0_9) := (blk_cell BK152.out 9).trans rfl
                  have hcz33_10 : wc.cell? ⟨gb152, 10, none⟩ = some (.int .i64 a0_10) := (blk_cell BK152.out 10).trans rfl
                  have hfz33_0 := blk_frozen BK152.out 0
                  have hfz33_1 := blk_frozen BK152.out 1
                  have hfz33_2 := blk_frozen BK152.out 2
                  have hfz33_3 := blk_frozen BK152.out 3
                  have hfz33_4 := blk_frozen BK152.out 4
                  have hfz33_5 := blk_frozen BK152.out 5
                  have hfz33_6 := blk_frozen BK152.out 6
                  have hfz33_7 := blk_frozen BK152.out 7
                  have hfz33_8 := blk_frozen BK152.out 8
                  have hfz33_9 := blk_frozen BK152.out 9
                  have hfz33_10 := blk_frozen BK152.out 10
                  go_upto_if 60 with (fail)
                  go_cut [60] (fun v60 wc => ∃ (kq : Nat) (x60_31 : Bool), v60 = .bool x60_31 ∧ Aside0 (storagebarterref15_parts.j3 kq t153 x4_2 x6_15 a0_5 x60_31 a0_0 a0_1 a0_2 a0_3 a0_4 a0_5 a0_6 a0_7 a0_8 a0_9 a0_10 = some r) ∧ Aside0 (kq ≤ kj15) ∧ Aside0 (wc.heap[gb152]? = some (.cells #[.int .i64 a0_0, .int .i64 a0_1, .int .i64 a0_2, .int .i64 a0_3, .int .i64 a0_4, .int .i64 a0_5, .int .i64 a0_6, .int .i64 a0_7, .int .i64 a0_8, .int .i64 a0_9, .int .i64 a0_10] 39 (0, 0))) ∧ Aside0 (Below w.heap.size w wc))
                  case first =>
                    have H := HC32.out
                    clear HC32
                    by_cases c34 : a0_5 = 3
                    · rw [if_pos c34] at H
                      have c34b0 : (a0_5 == 3) = true := beq_iff_eq.mpr c34
                      have c34b1 : (a0_5 != 3) = false := bne_eq_false_iff_eq.mpr c34
                      clear c34
                      (first | rw [c34b0] | (simp only [i64_w, i32_w]; rw [c34b0]) | skip)
                      have H' := Aside0.mk H
                      clear H
                      go_wp2
                      go_meet
                      case rel => exact ⟨_, ((a0_5 == 3)), (by first | rfl | (simp; done) | (simp [*]; done)), H', ⟨by have := HJ2.out; have := HJ10.out; have := HJ15.out; first | omega | exact Nat.le_refl _⟩, ⟨by (with_reducible repeat (first | refine blk_drewN ?_ _ | refine blk_drew ?_ | refine blk_alloc ?_ _)); exact BK152.out⟩, ⟨by repeat (first | (with_reducible first | exact HB.out | apply below_alloc | apply pw_below_drewN | apply below_drew1 | refine below_set ?_ GE152.out) | exact HB.out)⟩⟩
                    · rw [if_neg c34] at H
                      have c34b0 : (a0_5 == 3) = false := beq_eq_false_iff_ne.mpr c34
                      have c34b1 : (a0_5 != 3) = true := bne_iff_ne.mpr c34
                      (first | rw [c34b0] | (simp only [i64_w, i32_w]; rw [c34b0]) | skip)
                      have H' := Aside0.mk H
                      clear H
                      go_wp2
                      go_meet
                      case rel => exact ⟨_, ((a0_5 == 5)), (by first | rfl | (simp; done) | (simp [*]; done)), H', ⟨by have := HJ2.out; have := HJ10.out; have := HJ15.out; first | omega | exact Nat.le_refl _⟩, ⟨by (with_reducible repeat (first | refine blk_drewN ?_ _ | refine blk_drew ?_ | refine blk_alloc ?_ _)); exact BK152.out⟩, ⟨by repeat (first | (with_reducible first | exact HB.out | apply below_alloc | apply pw_below_drewN | apply below_drew1 | refine below_set ?_ GE152.out) | exact HB.out)⟩⟩
                  case rest =>
                    clear HC32
                    try clear c1
                    try clear c2
                    try clear p2
                    try clear c3
                    try clear c4
                    try clear p6
                    try clear c7
                    try clear c13
                    try clear c17
                    try clear c17b0
                    try clear c17b1
                    try clear c20
                    try clear c20b0
                    try clear c20b1
                    try clear c21
                    try clear c22
                    try clear c26
                    try clear c26b0
                    try clear c26b1
                    try clear c27
                    try clear c28
                    try clear c34
                    try clear c34b0
                    try clear c34b1
                    try clear hcz10_0
                    try clear hcz10_1
                    try clear hcz10_10
                    try clear hcz10_2
                    try clear hcz10_3
                    try clear hcz10_4
                    try clear hcz10_5
                    try clear hcz10_6
                    try clear hcz10_7
                    try clear hcz10_8
                    try clear hcz10_9
                    try clear hcz14_0
                    try clear hcz14_1
                    try clear hcz14_10
                    try clear hcz14_2
                    try clear hcz14_3
                    try clear hcz14_4
                    try clear hcz14_5
                    try clear hcz14_6
                    try clear hcz14_7
                    try clear hcz14_8
                    try clear hcz14_9
                    try clear hcz15_0
                    try clear hcz15_1
                    try clear hcz15_10
                    try clear hcz15_2
                    try clear hcz15_3
                    try clear hcz15_4
                    try clear hcz15_5
                    try clear hcz15_6
                    try clear hcz15_7
                    try clear hcz15_8
                    try clear hcz15_9
                    try clear hcz18_0
                    try clear hcz18_1
                    try clear hcz18_10
                    try clear hcz18_2
                    try clear hcz18_3
                    try clear hcz18_4
                    try clear hcz18_5
                    try clear hcz18_6
                    try clear hcz18_7
                    try clear hcz18_8
                    try clear hcz18_9
                    try clear hcz19_0
                    try clear hcz19_1
                    try clear hcz19_10
                    try clear hcz19_2
                    try clear hcz19_3
                    try clear hcz19_4
                    try clear hcz19_5
                    try clear hcz19_6
                    try clear hcz19_7
                    try clear hcz19_8
                    try clear hcz19_9
                    try clear hcz23_0
                    try clear hcz23_1
                    try clear hcz23_10
                    try clear hcz23_2
                    try clear hcz23_3
                    try clear hcz23_4
                    try clear hcz23_5
                    try clear hcz23_6
                    try clear hcz23_7
                    try clear hcz23_8
                    try clear hcz23_9
                    try clear hcz24_0
                    try clear hcz24_1
                    try clear hcz24_10
                    try clear hcz24_2
                    try clear hcz24_3
                    try clear hcz24_4
                    try clear hcz24_5
                    try clear hcz24_6
                    try clear hcz24_7
                    try clear hcz24_8
                    try clear hcz24_9
                    try clear hcz25_0
                    try clear hcz25_1
                    try clear hcz25_10
                    try clear hcz25_2
                    try clear hcz25_3
                    try clear hcz25_4
                    try clear hcz25_5
                    try clear hcz25_6
                    try clear hcz25_7
                    try clear hcz25_8
                    try clear hcz25_9
                    try clear hcz29_0
                    try clear hcz29_1
                    try clear hcz29_10
                    try clear hcz29_2
                    try clear hcz29_3
                    try clear hcz29_4
                    try clear hcz29_5
                    try clear hcz29_6
                    try clear hcz29_7
                    try clear hcz29_8
                    try clear hcz29_9
                    try clear hcz30_0
                    try clear hcz30_1
                    try clear hcz30_10
                    try clear hcz30_2
                    try clear hcz30_3
                    try clear hcz30_4
                    try clear hcz30_5
                    try clear hcz30_6
                    try clear hcz30_7
                    try clear hcz30_8
                    try clear hcz30_9
                    try clear hcz31_0
                    try clear hcz31_1
                    try clear hcz31_10
                    try clear hcz31_2
                    try clear hcz31_3
                    try clear hcz31_4
                    try clear hcz31_5
                    try clear hcz31_6
                    try clear hcz31_7
                    try clear hcz31_8
                    try clear hcz31_9
                    try clear hcz33_0
                    try clear hcz33_1
                    try clear hcz33_10
                    try clear hcz33_2
                    try clear hcz33_3
                    try clear hcz33_4
                    try clear hcz33_5
                    try clear hcz33_6
                    try clear hcz33_7
                    try clear hcz33_8
                    try clear hcz33_9
                    try clear hcz5_0
                    try clear hcz5_1
                    try clear hcz5_10
                    try clear hcz5_2
                    try clear hcz5_3
                    try clear hcz5_4
                    try clear hcz5_5
                    try clear hcz5_6
                    try clear hcz5_7
                    try clear hcz5_8
                    try clear hcz5_9
                    try clear hcz9_0
                    try clear hcz9_1
                    try clear hcz9_10
                    try clear hcz9_2
                    try clear hcz9_3
                    try clear hcz9_4
                    try clear hcz9_5
                    try clear hcz9_6
                    try clear hcz9_7
                    try clear hcz9_8
                    try clear hcz9_9
                    try clear hfz10_0
                    try clear hfz10_1
                    try clear hfz10_10
                    try clear hfz10_2
                    try clear hfz10_3
                    try clear hfz10_4
                    try clear hfz10_5
                    try clear hfz10_6
                    try clear hfz10_7
                    try clear hfz10_8
                    try clear hfz10_9
                    try clear hfz14_0
                    try clear hfz14_1
                    try clear hfz14_10
                    try clear hfz14_2
                    try clear hfz14_3
                    try clear hfz14_4
                    try clear hfz14_5
                    try clear hfz14_6
                    try clear hfz14_7
                    try clear hfz14_8
                    try clear hfz14_9
                    try clear hfz15_0
                    try clear hfz15_1
                    try clear hfz15_10
                    try clear hfz15_2
                    try clear hfz15_3
                    try clear hfz15_4
                    try clear hfz15_5
                    try clear hfz15_6
                    try clear hfz15_7
                    try clear hfz15_8
                    try clear hfz15_9
                    try clear hfz18_0
                    try clear hfz18_1
                    try clear hfz18_10
                    try clear hfz18_2
                    try clear hfz18_3
                    try clear hfz18_4
                    try clear hfz18_5
                    try clear hfz18_6
                    try clear hfz18_7
                    try clear hfz18_8
                    try clear hfz18_9
                    try clear hfz19_0
                    try clear hfz19_1
                    try clear hfz19_10
                    try clear hfz19_2
                    try clear hfz19_3
                    try clear hfz19_4
                    try clear hfz19_5
                    try clear hfz19_6
                    try clear hfz19_7
                    try clear hfz19_8
                    try clear hfz19_9
                    try clear hfz23_0
                    try clear hfz23_1
                    try clear hfz23_10
                    try clear hfz23_2
                    try clear hfz23_3
                    try clear hfz23_4
                    try clear hfz23_5
                    try clear hfz23_6
                    try clear hfz23_7
                    try clear hfz23_8
                    try clear hfz23_9
                    try clear hfz24_0
                    try clear hfz24_1
                    try clear hfz24_10
                    try clear hfz24_2
                    try clear hfz24_3
                    try clear hfz24_4
                    try clear hfz24_5
                    try clear hfz24_6
                    try clear hfz24_7
                    try clear hfz24_8
                    try clear hfz24_9
                    try clear hfz25_0
                    try clear hfz25_1
                    try clear hfz25_10
                    try clear hfz25_2
                    try clear hfz25_3
                    try clear hfz25_4
                    try clear hfz25_5
                    try clear hfz25_6
                    try clear hfz25_7
                    try clear hfz25_8
                    try clear hfz25_9
                    try clear hfz29_0
                    try clear hfz29_1
                    try clear hfz29_10
                    try clear hfz29_2
                    try clear hfz29_3
                    try clear hfz29_4
                    try clear hfz29_5
                    try clear hfz29_6
                    try clear hfz29_7
                    try clear hfz29_8
                    try clear hfz29_9
                    try clear hfz30_0
                    try clear hfz30_1
                    try clear hfz30_10
                    try clear hfz30_2
                    try clear hfz30_3
                    try clear hfz30_4
                    try clear hfz30_5
                    try clear hfz30_6
                    try clear hfz30_7
                    try clear hfz30_8
                    try clear hfz30_9
                    try clear hfz31_0
                    try clear hfz31_1
                    try clear hfz31_10
                    try clear hfz31_2
                    try clear hfz31_3
                    try clear hfz31_4
                    try clear hfz31_5
                    try clear hfz31_6
                    try clear hfz31_7
                    try clear hfz31_8
                    try clear hfz31_9
                    try clear hfz33_0
                    try clear hfz33_1
                    try clear hfz33_10
                    try clear hfz33_2
                    try clear hfz33_3
                    try clear hfz33_4
                    try clear hfz33_5
                    try clear hfz33_6
                    try clear hfz33_7
                    try clear hfz33_8
                    try clear hfz33_9
                    try clear hfz5_0
                    try clear hfz5_1
                    try clear hfz5_10
                    try clear hfz5_2
                    try clear hfz5_3
                    try clear hfz5_4
                    try clear hfz5_5
                    try clear hfz5_6
                    try clear hfz5_7
                    try clear hfz5_8
                    try clear hfz5_9
                    try clear hfz9_0
                    try clear hfz9_1
                    try clear hfz9_10
                    try clear hfz9_2
                    try clear hfz9_3
                    try clear hfz9_4
                    try clear hfz9_5
                    try clear hfz9_6
                    try clear hfz9_7
                    try clear hfz9_8
                    try clear hfz9_9
                    try clear p2
                    try clear p6
                    obtain ⟨kq, x60_31, rfl, HA, HJ31, BK152, HB⟩ := hcut
                    cases kq with
                    | zero => exact absurd HA.out (by simp [storagebarterref15_parts.j3])
                    | succ kj31 =>
                      have H := HA.out
                      clear HA
                      simp only [storagebarterref15_parts.j3] at H
                      by_cases c35 : x60_31 = true
                      · subst c35
                        rw [if_pos rfl] at H
                        by_cases c36 : t153 = true
                        · subst c36
                          rw [if_pos rfl] at H
                          by_cases c37 : x6_15 = true
                          · subst c37
                            rw [if_pos rfl] at H
                            obtain rfl := Option.some.inj H
                            have hcz38_0 : wc.cell? ⟨gb152, 0, none⟩ = some (.int .i64 a0_0) := (blk_cell BK152.out 0).trans rfl
                            have hcz38_1 : wc.cell? ⟨gb152, 1, none⟩ = some (.int .i64 a0_1) := (blk_cell BK152.out 1).trans rfl
                            have hcz38_2 : wc.cell? ⟨gb152, 2, none⟩ = some (.int .i64 a0_2) := (blk_cell BK152.out 2).trans rfl
                            have hcz38_3 : wc.cell? ⟨gb152, 3, none⟩ = some (.int .i64 a0_3) := (blk_cell BK152.out 3).trans rfl
                            have hcz38_4 : wc.cell? ⟨gb152, 4, none⟩ = some (.int .i64 a0_4) := (blk_cell BK152.out 4).trans rfl
                            have hcz38_5 : wc.cell? ⟨gb152, 5, none⟩ = some (.int .i64 a0_5) := (blk_cell BK152.out 5).trans rfl
                            have hcz38_6 : wc.cell? ⟨gb152, 6, none⟩ = some (.int .i64 a0_6) := (blk_cell BK152.out 6).trans rfl
                            have hcz38_7 : wc.cell? ⟨gb152, 7, none⟩ = some (.int .i64 a0_7) := (blk_cell BK152.out 7).trans rfl
                            have hcz38_8 : wc.cell? ⟨gb152, 8, none⟩ = some (.int .i64 a0_8) := (blk_cell BK152.out 8).trans rfl
                            have hcz38_9 : wc.cell? ⟨gb152, 9, none⟩ = some (.int .i64 a0_9) := (blk_cell BK152.out 9).trans rfl
                            have hcz38_10 : wc.cell? ⟨gb152, 10, none⟩ = some (.int .i64 a0_10) := (blk_cell BK152.out 10).trans rfl
                            have hfz38_0 := blk_frozen BK152.out 0
                            have hfz38_1 := blk_frozen BK152.out 1
                            have hfz38_2 := blk_frozen BK152.out 2
                            have hfz38_3 := blk_frozen BK152.out 3
                            have hfz38_4 := blk_frozen BK152.out 4
                            have hfz38_5 := blk_frozen BK152.out 5
                            have hfz38_6 := blk_frozen BK152.out 6
                            have hfz38_7 := blk_frozen BK152.out 7
                            have hfz38_8 := blk_frozen BK152.out 8
                            have hfz38_9 := blk_frozen BK152.out 9
                            have hfz38_10 := blk_frozen BK152.out 10
                            go_wp2
                            go_ret
                            exact ⟨by first | rfl | (simp [errW_none, errW_some] <;> rfl) | (simp [*, errW_none, errW_some] <;> rfl), by repeat (first | (with_reducible first | exact HB.out | apply below_alloc | apply pw_below_drewN | apply below_drew1 | refine below_set ?_ GE152.out) | exact HB.out)⟩
                          · replace c37 := Bool.eq_false_iff.mpr c37
                            subst c37
                            rw [if_neg (show ¬ (false = true) by decide)] at H
                            obtain rfl := Option.some.inj H
                            go_wp2
                            go_ret
                            exact ⟨by first | rfl | (simp [errW_none, errW_some] <;> rfl) | (simp [*, errW_none, errW_some] <;> rfl), by repeat (first | (with_reducible first | exact HB.out | apply below_alloc | apply pw_below_drewN | apply below_drew1 | refine below_set ?_ GE152.out) | exact HB.out)⟩
                        · replace c36 := Bool.eq_false_iff.mpr c36
                          subst c36
                          rw [if_neg (show ¬ (false = true) by decide)] at H
                          obtain rfl := Option.some.inj H
                          go_wp2
                          go_ret
                          exact ⟨by first | rfl | (simp [errW_none, errW_some] <;> rfl) | (simp [*, errW_none, errW_some] <;> rfl), by repeat (first | (with_reducible first | exact HB.out | apply below_alloc | apply pw_below_drewN | apply below_drew1 | refine below_set ?_ GE152.out) | exact HB.out)⟩
                      · replace c35 := Bool.eq_false_iff.mpr c35
                        subst c35
                        rw [if_neg (show ¬ (false = true) by decide)] at H
                        by_cases c39 : a0_5 = 4
                        · rw [if_pos c39] at H
                          have c39b0 : (a0_5 == 4) = true := beq_iff_eq.mpr c39
                          have c39b1 : (a0_5 != 4) = false := bne_eq_false_iff_eq.mpr c39
                          clear c39
                          by_cases c40 : t153 = true
                          · subst c40
                            rw [if_pos rfl] at H
                            by_cases c41 : x4_2 = true
                            · subst c41
                              rw [if_pos rfl] at H
                              obtain rfl := Option.some.inj H
                              have hcz42_0 : wc.cell? ⟨gb152, 0, none⟩ = some (.int .i64 a0_0) := (blk_cell BK152.out 0).trans rfl
                              have hcz42_1 : wc.cell? ⟨gb152, 1, none⟩ = some (.int .i64 a0_1) := (blk_cell BK152.out 1).trans rfl
                              have hcz42_2 : wc.cell? ⟨gb152, 2, none⟩ = some (.int .i64 a0_2) := (blk_cell BK152.out 2).trans rfl
                              have hcz42_3 : wc.cell? ⟨gb152, 3, none⟩ = some (.int .i64 a0_3) := (blk_cell BK152.out 3).trans rfl
                              have hcz42_4 : wc.cell? ⟨gb152, 4, none⟩ = some (.int .i64 a0_4) := (blk_cell BK152.out 4).trans rfl
                              have hcz42_5 : wc.cell? ⟨gb152, 5, none⟩ = some (.int .i64 a0_5) := (blk_cell BK152.out 5).trans rfl
                              have hcz42_6 : wc.cell? ⟨gb152, 6, none⟩ = some (.int .i64 a0_6) := (blk_cell BK152.out 6).trans rfl
                              have hcz42_7 : wc.cell? ⟨gb152, 7, none⟩ = some (.int .i64 a0_7) := (blk_cell BK152.out 7).trans rfl
                              have hcz42_8 : wc.cell? ⟨gb152, 8, none⟩ = some (.int .i64 a0_8) := (blk_cell BK152.out 8).trans rfl
                              have hcz42_9 : wc.cell? ⟨gb152, 9, none⟩ = some (.int .i64 a0_9) := (blk_cell BK152.out 9).trans rfl
                              have hcz42_10 : wc.cell? ⟨gb152, 10, none⟩ = some (.int .i64 a0_10) := (blk_cell BK152.out 10).trans rfl
                              have hfz42_0 := blk_frozen BK152.out 0
                              have hfz42_1 := blk_frozen BK152.out 1
                              have hfz42_2 := blk_frozen BK152.out 2
                              have hfz42_3 := blk_frozen BK152.out 3
                              have hfz42_4 := blk_frozen BK152.out 4
                              have hfz42_5 := blk_frozen BK152.out 5
                              have hfz42_6 := blk_frozen BK152.out 6
                              have hfz42_7 := blk_frozen BK152.out 7
                              have hfz42_8 := blk_frozen BK152.out 8
                              have hfz42_9 := blk_frozen BK152.out 9
                              have hfz42_10 := blk_frozen BK152.out 10
                              go_wp2
                              go_ret
                              exact ⟨by first | rfl | (simp [errW_none, errW_some] <;> rfl) | (simp [*, errW_none, errW_some] <;> rfl), by repeat (first | (with_reducible first | exact HB.out | apply below_alloc | apply pw_below_drewN | apply below_drew1 | refine below_set ?_ GE152.out) | exact HB.out)⟩
                            · replace c41 := Bool.eq_false_iff.mpr c41
                              subst c41
                              rw [if_neg (show ¬ (false = true) by decide)] at H
                              obtain rfl := Option.some.inj H
                              go_wp2
                              go_ret
                              exact ⟨by first | rfl | (simp [errW_none, errW_some] <;> rfl) | (simp [*, errW_none, errW_some] <;> rfl), by repeat (first | (with_reducible first | exact HB.out | apply below_alloc | apply pw_below_drewN | apply below_drew1 | refine below_set ?_ GE152.out) | exact HB.out)⟩
                          · replace c40 := Bool.eq_false_iff.mpr c40
                            subst c40
                            rw [if_neg (show ¬ (false = true) by decide)] at H
                            obtain rfl := Option.some.inj H
                            go_wp2
                            go_ret
                            exact ⟨by first | rfl | (simp [errW_none, errW_some] <;> rfl) | (simp [*, errW_none, errW_some] <;> rfl), by repeat (first | (with_reducible first | exact HB.out | apply below_alloc | apply pw_below_drewN | apply below_drew1 | refine below_set ?_ GE152.out) | exact HB.out)⟩
                        · rw [if_neg c39] at H
                          have c39b0 : (a0_5 == 4) = false := beq_eq_false_iff_ne.mpr c39
                          have c39b1 : (a0_5 != 4) = true := bne_iff_ne.mpr c39
                          by_cases c43 : a0_5 = 6
                          · rw [if_pos c43] at H
                            have c43b0 : (a0_5 == 6) = true := beq_iff_eq.mpr c43
                            have c43b1 : (a0_5 != 6) = false := bne_eq_false_iff_eq.mpr c43
                            clear c43
                            replace H := Option.bind_eq_some_iff.mp H
                            obtain ⟨t157, A440, H⟩ := H
                            try dsimp only at H
                            have A44 := Aside0.mk A440
                            clear A440
                            by_cases c45 : t157 = true
                            · subst c45
                              rw [if_pos rfl] at H
                              replace H := Option.bind_eq_some_iff.mp H
                              obtain ⟨t158, A460, H⟩ := H
                              try dsimp only at H
                              have A46 := Aside0.mk A460
                              clear A460
                              by_cases c47 : t158 = true
                              · subst c47
                                rw [if_pos rfl] at H
                                replace H := Option.bind_eq_some_iff.mp H
                                obtain ⟨t159, A480, H⟩ := H
                                try dsimp only at H
                                have A48 := Aside0.mk A480
                                clear A480
                                by_cases c49 : t159 = true
                                · subst c49
                                  rw [if_pos rfl] at H
                                  obtain rfl := Option.some.inj H
                                  have hcz50_0 : wc.cell? ⟨gb152, 0, none⟩ = some (.int .i64 a0_0) := (blk_cell BK152.out 0).trans rfl
                                  have hcz50_1 : wc.cell? ⟨gb152, 1, none⟩ = some (.int .i64 a0_1) := (blk_cell BK152.out 1).trans rfl
                                  have hcz50_2 : wc.cell? ⟨gb152, 2, none⟩ = some (.int .i64 a0_2) := (blk_cell BK152.out 2).trans rfl
                                  have hcz50_3 : wc.cell? ⟨gb152, 3, none⟩ = some (.int .i64 a0_3) := (blk_cell BK152.out 3).trans rfl
                                  have hcz50_4 : wc.cell? ⟨gb152, 4, none⟩ = some (.int .i64 a0_4) := (blk_cell BK152.out 4).trans rfl
                                  have hcz50_5 : wc.cell? ⟨gb152, 5, none⟩ = some (.int .i64 a0_5) := (blk_cell BK152.out 5).trans rfl
                                  have hcz50_6 : wc.cell? ⟨gb152, 6, none⟩ = some (.int .i64 a0_6) := (blk_cell BK152.out 6).trans rfl
                                  have hcz50_7 : wc.cell? ⟨gb152, 7, none⟩ = some (.int .i64 a0_7) := (blk_cell BK152.out 7).trans rfl
                                  have hcz50_8 : wc.cell? ⟨gb152, 8, none⟩ = some (.int .i64 a0_8) := (blk_cell BK152.out 8).trans rfl
                                  have hcz50_9 : wc.cell? ⟨gb152, 9, none⟩ = some (.int .i64 a0_9) := (blk_cell BK152.out 9).trans rfl
                                  have hcz50_10 : wc.cell? ⟨gb152, 10, none⟩ = some (.int .i64 a0_10) := (blk_cell BK152.out 10).trans rfl
                                  have hfz50_0 := blk_frozen BK152.out 0
                                  have hfz50_1 := blk_frozen BK152.out 1
                                  have hfz50_2 := blk_frozen BK152.out 2
                                  have hfz50_3 := blk_frozen BK152.out 3
                                  have hfz50_4 := blk_frozen BK152.out 4
                                  have hfz50_5 := blk_frozen BK152.out 5
                                  have hfz50_6 := blk_frozen BK152.out 6
                                  have hfz50_7 := blk_frozen BK152.out 7
                                  have hfz50_8 := blk_frozen BK152.out 8
                                  have hfz50_9 := blk_frozen BK152.out 9
                                  have hfz50_10 := blk_frozen BK152.out 10
                                  go_wp2_with (first | ((with_reducible refine gate_callee (f := 30) rfl ?_); refine goesL_ (some 87) rfl rfl Tryd.func30 (by kernel_rfl) rfl #[.int .i64 a0_6, .int .i64 0, .int .i64 2147483646] rfl (by (try simp only [List.map_toArray, List.map_cons, List.map_nil]); first | done | rfl | (simp only [List.length_drop, List.length_take]; rfl)) ?_; (with_reducible refine (storagebarterref15_in.calls a0_6 0 2147483646 true _ A44.out).mono ?_); rintro e w' ⟨rfl, ⟨nd, rfl⟩⟩; refine ⟨_, rfl, ?_⟩) | (go_at_call 30; (with_reducible refine (storagebarterref15_in.calls a0_7 0 2147483646 true _ A46.out).mono ?_); rintro e w' ⟨rfl, ⟨nd, rfl⟩⟩) | (go_at_call 30; (with_reducible refine (storagebarterref15_in.calls a0_8 0 256 true _ A48.out).mono ?_); rintro e w' ⟨rfl, ⟨nd, rfl⟩⟩))
                                  go_ret
                                  exact ⟨by first | rfl | (simp [errW_none, errW_some] <;> rfl) | (simp [*, errW_none, errW_some] <;> rfl), by repeat (first | (with_reducible first | exact HB.out | apply below_alloc | apply pw_below_drewN | apply below_drew1 | refine below_set ?_ GE152.out) | exact HB.out)⟩
                                · replace c49 := Bool.eq_false_iff.mpr c49
                                  subst c49
                                  rw [if_neg (show ¬ (false = true) by decide)] at H
                                  obtain rfl := Option.some.inj H
                                  have hcz51_0 : wc.cell? ⟨gb152, 0, none⟩ = some (.int .i64 a0_0) := (blk_cell BK152.out 0).trans rfl
                                  have hcz51_1 : wc.cell? ⟨gb152, 1, none⟩ = some (.int .i64 a0_1) := (blk_cell BK152.out 1).trans rfl
                                  have hcz51_2 : wc.cell? ⟨gb152, 2, none⟩ = some (.int .i64 a0_2) := (blk_cell BK152.out 2).trans rfl
                                  have hcz51_3 : wc.cell? ⟨gb152, 3, none⟩ = some (.int .i64 a0_3) := (blk_cell BK152.out 3).trans rfl
                                  have hcz51_4 : wc.cell? ⟨gb152, 4, none⟩ = some (.int .i64 a0_4) := (blk_cell BK152.out 4).trans rfl
                                  have hcz51_5 : wc.cell? ⟨gb152, 5, none⟩ = some (.int .i64 a0_5) := (blk_cell BK152.out 5).trans rfl
                                  have hcz51_6 : wc.cell? ⟨gb152, 6, none⟩ = some (.int .i64 a0_6) := (blk_cell BK152.out 6).trans rfl
                                  have hcz51_7 : wc.cell? ⟨gb152, 7, none⟩ = some (.int .i64 a0_7) := (blk_cell BK152.out 7).trans rfl
                                  have hcz51_8 : wc.cell? ⟨gb152, 8, none⟩ = some (.int .i64 a0_8) := (blk_cell BK152.out 8).trans rfl
                                  have hcz51_9 : wc.cell? ⟨gb152, 9, none⟩ = some (.int .i64 a0_9) := (blk_cell BK152.out 9).trans rfl
                                  have hcz51_10 : wc.cell? ⟨gb152, 10, none⟩ = some (.int .i64 a0_10) := (blk_cell BK152.out 10).trans rfl
                                  have hfz51_0 := blk_frozen BK152.out 0
                                  have hfz51_1 := blk_frozen BK152.out 1
                                  have hfz51_2 := blk_frozen BK152.out 2
                                  have hfz51_3 := blk_frozen BK152.out 3
                                  have hfz51_4 := blk_frozen BK152.out 4
                                  have hfz51_5 := blk_frozen BK152.out 5
                                  have hfz51_6 := blk_frozen BK152.out 6
                                  have hfz51_7 := blk_frozen BK152.out 7
                                  have hfz51_8 := blk_frozen BK152.out 8
                                  have hfz51_9 := blk_frozen BK152.out 9
                                  have hfz51_10 := blk_frozen BK152.out 10
                                  go_wp2_with (first | ((with_reducible refine gate_callee (f := 30) rfl ?_); refine goesL_ (some 87) rfl rfl Tryd.func30 (by kernel_rfl) rfl #[.int .i64 a0_6, .int .i64 0, .int .i64 2147483646] rfl (by (try simp only [List.map_toArray, List.map_cons, List.map_nil]); first | done | rfl | (simp only [List.length_drop, List.length_take]; rfl)) ?_; (with_reducible refine (storagebarterref15_in.calls a0_6 0 2147483646 true _ A44.out).mono ?_); rintro e w' ⟨rfl, ⟨nd, rfl⟩⟩; refine ⟨_, rfl, ?_⟩) | (go_at_call 30; (with_reducible refine (storagebarterref15_in.calls a0_7 0 2147483646 true _ A46.out).mono ?_); rintro e w' ⟨rfl, ⟨nd, rfl⟩⟩) | (go_at_call 30; (with_reducible refine (storagebarterref15_in.calls a0_8 0 256 false _ A48.out).mono ?_); rintro e w' ⟨rfl, ⟨nd, rfl⟩⟩))
                                  go_ret
                                  exact ⟨by first | rfl | (simp [errW_none, errW_some] <;> rfl) | (simp [*, errW_none, errW_some] <;> rfl), by repeat (first | (with_reducible first | exact HB.out | apply below_alloc | apply pw_below_drewN | apply below_drew1 | refine below_set ?_ GE152.out) | exact HB.out)⟩
                              · replace c47 := Bool.eq_false_iff.mpr c47
                                subst c47
                                rw [if_neg (show ¬ (false = true) by decide)] at H
                                obtain rfl := Option.some.inj H
                                have hcz52_0 : wc.cell? ⟨gb152, 0, none⟩ = some (.int .i64 a0_0) := (blk_cell BK152.out 0).trans rfl
                                have hcz52_1 : wc.cell? ⟨gb152, 1, none⟩ = some (.int .i64 a0_1) := (blk_cell BK152.out 1).trans rfl
                                have hcz52_2 : wc.cell? ⟨gb152, 2, none⟩ = some (.int .i64 a0_2) := (blk_cell BK152.out 2).trans rfl
                                have hcz52_3 : wc.cell? ⟨gb152, 3, none⟩ = some (.int .i64 a0_3) := (blk_cell BK152.out 3).trans rfl
                                have hcz52_4 : wc.cell? ⟨gb152, 4, none⟩ = some (.int .i64 a0_4) := (blk_cell BK152.out 4).trans rfl
                                have hcz52_5 : wc.cell? ⟨gb152, 5, none⟩ = some (.int .i64 a0_5) := (blk_cell BK152.out 5).trans rfl
                                have hcz52_6 : wc.cell? ⟨gb152, 6, none⟩ = some (.int .i64 a0_6) := (blk_cell BK152.out 6).trans rfl
                                have hcz52_7 : wc.cell? ⟨gb152, 7, none⟩ = some (.int .i64 a0_7) := (blk_cell BK152.out 7).trans rfl
                                have hcz52_8 : wc.cell? ⟨gb152, 8, none⟩ = some (.int .i64 a0_8) := (blk_cell BK152.out 8).trans rfl
                                have hcz52_9 : wc.cell? ⟨gb152, 9, none⟩ = some (.int .i64 a0_9) := (blk_cell BK152.out 9).trans rfl
                                have hcz52_10 : wc.cell? ⟨gb152, 10, none⟩ = some (.int .i64 a0_10) := (blk_cell BK152.out 10).trans rfl
                                have hfz52_0 := blk_frozen BK152.out 0
                                have hfz52_1 := blk_frozen BK152.out 1
                                have hfz52_2 := blk_frozen BK152.out 2
                                have hfz52_3 := blk_frozen BK152.out 3
                                have hfz52_4 := blk_frozen BK152.out 4
                                have hfz52_5 := blk_frozen BK152.out 5
                                have hfz52_6 := blk_frozen BK152.out 6
                                have hfz52_7 := blk_frozen BK152.out 7
                                have hfz52_8 := blk_frozen BK152.out 8
                                have hfz52_9 := blk_frozen BK152.out 9
                                have hfz52_10 := blk_frozen BK152.out 10
                                go_wp2_with (first | ((with_reducible refine gate_callee (f := 30) rfl ?_); refine goesL_ (some 87) rfl rfl Tryd.func30 (by kernel_rfl) rfl #[.int .i64 a0_6, .int .i64 0, .int .i64 2147483646] rfl (by (try simp only [List.map_toArray, List.map_cons, List.map_nil]); first | done | rfl | (simp only [List.length_drop, List.length_take]; rfl)) ?_; (with_reducible refine (storagebarterref15_in.calls a0_6 0 2147483646 true _ A44.out).mono ?_); rintro e w' ⟨rfl, ⟨nd, rfl⟩⟩; refine ⟨_, rfl, ?_⟩) | (go_at_call 30; (with_reducible refine (storagebarterref15_in.calls a0_7 0 2147483646 false _ A46.out).mono ?_); rintro e w' ⟨rfl, ⟨nd, rfl⟩⟩))
                                go_ret
                                exact ⟨by first | rfl | (simp [errW_none, errW_some] <;> rfl) | (simp [*, errW_none, errW_some] <;> rfl), by repeat (first | (with_reducible first | exact HB.out | apply below_alloc | apply pw_below_drewN | apply below_drew1 | refine below_set ?_ GE152.out) | exact HB.out)⟩
                            · replace c45 := Bool.eq_false_iff.mpr c45
                              subst c45
                              rw [if_neg (show ¬ (false = true) by decide)] at H
                              obtain rfl := Option.some.inj H
                              have hcz53_0 : wc.cell? ⟨gb152, 0, none⟩ = some (.int .i64 a0_0) := (blk_cell BK152.out 0).trans rfl
                              have hcz53_1 : wc.cell? ⟨gb152, 1, none⟩ = some (.int .i64 a0_1) := (blk_cell BK152.out 1).trans rfl
                              have hcz53_2 : wc.cell? ⟨gb152, 2, none⟩ = some (.int .i64 a0_2) := (blk_cell BK152.out 2).trans rfl
                              have hcz53_3 : wc.cell? ⟨gb152, 3, none⟩ = some (.int .i64 a0_3) := (blk_cell BK152.out 3).trans rfl
                              have hcz53_4 : wc.cell? ⟨gb152, 4, none⟩ = some (.int .i64 a0_4) := (blk_cell BK152.out 4).trans rfl
                              have hcz53_5 : wc.cell? ⟨gb152, 5, none⟩ = some (.int .i64 a0_5) := (blk_cell BK152.out 5).trans rfl
                              have hcz53_6 : wc.cell? ⟨gb152, 6, none⟩ = some (.int .i64 a0_6) := (blk_cell BK152.out 6).trans rfl
                              have hcz53_7 : wc.cell? ⟨gb152, 7, none⟩ = some (.int .i64 a0_7) := (blk_cell BK152.out 7).trans rfl
                              have hcz53_8 : wc.cell? ⟨gb152, 8, none⟩ = some (.int .i64 a0_8) := (blk_cell BK152.out 8).trans rfl
                              have hcz53_9 : wc.cell? ⟨gb152, 9, none⟩ = some (.int .i64 a0_9) := (blk_cell BK152.out 9).trans rfl
                              have hcz53_10 : wc.cell? ⟨gb152, 10, none⟩ = some (.int .i64 a0_10) := (blk_cell BK152.out 10).trans rfl
                              have hfz53_0 := blk_frozen BK152.out 0
                              have hfz53_1 := blk_frozen BK152.out 1
                              have hfz53_2 := blk_frozen BK152.out 2
                              have hfz53_3 := blk_frozen BK152.out 3
                              have hfz53_4 := blk_frozen BK152.out 4
                              have hfz53_5 := blk_frozen BK152.out 5
                              have hfz53_6 := blk_frozen BK152.out 6
                              have hfz53_7 := blk_frozen BK152.out 7
                              have hfz53_8 := blk_frozen BK152.out 8
                              have hfz53_9 := blk_frozen BK152.out 9
                              have hfz53_10 := blk_frozen BK152.out 10
                              go_wp2_with (first | ((with_reducible refine gate_callee (f := 30) rfl ?_); refine goesL_ (some 87) rfl rfl Tryd.func30 (by kernel_rfl) rfl #[.int .i64 a0_6, .int .i64 0, .int .i64 2147483646] rfl (by (try simp only [List.map_toArray, List.map_cons, List.map_nil]); first | done | rfl | (simp only [List.length_drop, List.length_take]; rfl)) ?_; (with_reducible refine (storagebarterref15_in.calls a0_6 0 2147483646 false _ A44.out).mono ?_); rintro e w' ⟨rfl, ⟨nd, rfl⟩⟩; refine ⟨_, rfl, ?_⟩))
                              go_ret
                              exact ⟨by first | rfl | (simp [errW_none, errW_some] <;> rfl) | (simp [*, errW_none, errW_some] <;> rfl), by repeat (first | (with_reducible first | exact HB.out | apply below_alloc | apply pw_below_drewN | apply below_drew1 | refine below_set ?_ GE152.out) | exact HB.out)⟩
                          · rw [if_neg c43] at H
                            have c43b0 : (a0_5 == 6) = false := beq_eq_false_iff_ne.mpr c43
                            have c43b1 : (a0_5 != 6) = true := bne_iff_ne.mpr c43
                            by_cases c54 : a0_5 = 7
                            · rw [if_pos c54] at H
                              have c54b0 : (a0_5 == 7) = true := beq_iff_eq.mpr c54
                              have c54b1 : (a0_5 != 7) = false := bne_eq_false_iff_eq.mpr c54
                              clear c54
                              replace H := Option.bind_eq_some_iff.mp H
                              obtain ⟨t160, A550, H⟩ := H
                              try dsimp only at H
                              have A55 := Aside0.mk A550
                              clear A550
                              by_cases c56 : t160 = true
                              · subst c56
                                rw [if_pos rfl] at H
                                by_cases c57 : x4_2 = true
                                · subst c57
                                  rw [if_pos rfl] at H
                                  replace H := Option.bind_eq_some_iff.mp H
                                  obtain ⟨t161, A580, H⟩ := H
                                  try dsimp only at H
                                  have A58 := Aside0.mk A580
                                  clear A580
                                  obtain rfl := Option.some.inj H
                                  have hcz59_0 : wc.cell? ⟨gb152, 0, none⟩ = some (.int .i64 a0_0) := (blk_cell BK152.out 0).trans rfl
                                  have hcz59_1 : wc.cell? ⟨gb152, 1, none⟩ = some (.int .i64 a0_1) := (blk_cell BK152.out 1).trans rfl
                                  have hcz59_2 : wc.cell? ⟨gb152, 2, none⟩ = some (.int .i64 a0_2) := (blk_cell BK152.out 2).trans rfl
                                  have hcz59_3 : wc.cell? ⟨gb152, 3, none⟩ = some (.int .i64 a0_3) := (blk_cell BK152.out 3).trans rfl
                                  have hcz59_4 : wc.cell? ⟨gb152, 4, none⟩ = some (.int .i64 a0_4) := (blk_cell BK152.out 4).trans rfl
                                  have hcz59_5 : wc.cell? ⟨gb152, 5, none⟩ = some (.int .i64 a0_5) := (blk_cell BK152.out 5).trans rfl
                                  have hcz59_6 : wc.cell? ⟨gb152, 6, none⟩ = some (.int .i64 a0_6) := (blk_cell BK152.out 6).trans rfl
                                  have hcz59_7 : wc.cell? ⟨gb152, 7, none⟩ = some (.int .i64 a0_7) := (blk_cell BK152.out 7).trans rfl
                                  have hcz59_8 : wc.cell? ⟨gb152, 8, none⟩ = some (.int .i64 a0_8) := (blk_cell BK152.out 8).trans rfl
                                  have hcz59_9 : wc.cell? ⟨gb152, 9, none⟩ = some (.int .i64 a0_9) := (blk_cell BK152.out 9).trans rfl
                                  have hcz59_10 : wc.cell? ⟨gb152, 10, none⟩ = some (.int .i64 a0_10) := (blk_cell BK152.out 10).trans rfl
                                  have hfz59_0 := blk_frozen BK152.out 0
                                  have hfz59_1 := blk_frozen BK152.out 1
                                  have hfz59_2 := blk_frozen BK152.out 2
                                  have hfz59_3 := blk_frozen BK152.out 3
                                  have hfz59_4 := blk_frozen BK152.out 4
                                  have hfz59_5 := blk_frozen BK152.out 5
                                  have hfz59_6 := blk_frozen BK152.out 6
                                  have hfz59_7 := blk_frozen BK152.out 7
                                  have hfz59_8 := blk_frozen BK152.out 8
                                  have hfz59_9 := blk_frozen BK152.out 9
                                  have hfz59_10 := blk_frozen BK152.out 10
                                  go_wp2_with (first | ((with_reducible refine gate_callee (f := 30) rfl ?_); refine goesL_ (some 107) rfl rfl Tryd.func30 (by kernel_rfl) rfl #[.int .i64 a0_6, .int .i64 0, .int .i64 2147483646] rfl (by (try simp only [List.map_toArray, List.map_cons, List.map_nil]); first | done | rfl | (simp only [List.length_drop, List.length_take]; rfl)) ?_; (with_reducible refine (storagebarterref15_in.calls a0_6 0 2147483646 true _ A55.out).mono ?_); rintro e w' ⟨rfl, ⟨nd, rfl⟩⟩; refine ⟨_, rfl, ?_⟩) | (go_at_call 54; (with_reducible refine (storagebarterref15_lock.calls a0_9 t161 _ A58.out).mono ?_); rintro e w' ⟨rfl, ⟨nd, rfl⟩⟩))
                                  go_ret
                                  exact ⟨by first | rfl | (simp [errW_none, errW_some] <;> rfl) | (simp [*, errW_none, errW_some] <;> rfl), by repeat (first | (with_reducible first | exact HB.out | apply below_alloc | apply pw_below_drewN | apply below_drew1 | refine below_set ?_ GE152.out) | exact HB.out)⟩
                                · replace c57 := Bool.eq_false_iff.mpr c57
                                  subst c57
                                  rw [if_neg (show ¬ (false = true) by decide)] at H
                                  obtain rfl := Option.some.inj H
                                  have hcz60_0 : wc.cell? ⟨gb152, 0, none⟩ = some (.int .i64 a0_0) := (blk_cell BK152.out 0).trans rfl
                                  have hcz60_1 : wc.cell? ⟨gb152, 1, none⟩ = some (.int .i64 a0_1) := (blk_cell BK152.out 1).trans rfl
                                  have hcz60_2 : wc.cell? ⟨gb152, 2, none⟩ = some (.int .i64 a0_2) := (blk_cell BK152.out 2).trans rfl
                                  have hcz60_3 : wc.cell? ⟨gb152, 3, none⟩ = some (.int .i64 a0_3) := (blk_cell BK152.out 3).trans rfl
                                  have hcz60_4 : wc.cell? ⟨gb152, 4, none⟩ = some (.int .i64 a0_4) := (blk_cell BK152.out 4).trans rfl
                                  have hcz60_5 : wc.cell? ⟨gb152, 5, none⟩ = some (.int .i64 a0_5) := (blk_cell BK152.out 5).trans rfl
                                  have hcz60_6 : wc.cell? ⟨gb152, 6, none⟩ = some (.int .i64 a0_6) := (blk_cell BK152.out 6).trans rfl
                                  have hcz60_7 : wc.cell? ⟨gb152, 7, none⟩ = some (.int .i64 a0_7) := (blk_cell BK152.out 7).trans rfl
                                  have hcz60_8 : wc.cell? ⟨gb152, 8, none⟩ = some (.int .i64 a0_8) := (blk_cell BK152.out 8).trans rfl
                                  have hcz60_9 : wc.cell? ⟨gb152, 9, none⟩ = some (.int .i64 a0_9) := (blk_cell BK152.out 9).trans rfl
                                  have hcz60_10 : wc.cell? ⟨gb152, 10, none⟩ = some (.int .i64 a0_10) := (blk_cell BK152.out 10).trans rfl
                                  have hfz60_0 := blk_frozen BK152.out 0
                                  have hfz60_1 := blk_frozen BK152.out 1
                                  have hfz60_2 := blk_frozen BK152.out 2
                                  have hfz60_3 := blk_frozen BK152.out 3
                                  have hfz60_4 := blk_frozen BK152.out 4
                                  have hfz60_5 := blk_frozen BK152.out 5
                                  have hfz60_6 := blk_frozen BK152.out 6
                                  have hfz60_7 := blk_frozen BK152.out 7
                                  have hfz60_8 := blk_frozen BK152.out 8
                                  have hfz60_9 := blk_frozen BK152.out 9
                                  have hfz60_10 := blk_frozen BK152.out 10
                                  go_wp2_with (first | ((with_reducible refine gate_callee (f := 30) rfl ?_); refine goesL_ (some 107) rfl rfl Tryd.func30 (by kernel_rfl) rfl #[.int .i64 a0_6, .int .i64 0, .int .i64 2147483646] rfl (by (try simp only [List.map_toArray, List.map_cons, List.map_nil]); first | done | rfl | (simp only [List.length_drop, List.length_take]; rfl)) ?_; (with_reducible refine (storagebarterref15_in.calls a0_6 0 2147483646 true _ A55.out).mono ?_); rintro e w' ⟨rfl, ⟨nd, rfl⟩⟩; refine ⟨_, rfl, ?_⟩))
                                  go_ret
                                  exact ⟨by first | rfl | (simp [errW_none, errW_some] <;> rfl) | (simp [*, errW_none, errW_some] <;> rfl), by repeat (first | (with_reducible first | exact HB.out | apply below_alloc | apply pw_below_drewN | apply below_drew1 | refine below_set ?_ GE152.out) | exact HB.out)⟩
                              · replace c56 := Bool.eq_false_iff.mpr c56
                                subst c56
                                rw [if_neg (show ¬ (false = true) by decide)] at H
                                obtain rfl := Option.some.inj H
                                have hcz61_0 : wc.cell? ⟨gb152, 0, none⟩ = some (.int .i64 a0_0) := (blk_cell BK152.out 0).trans rfl
                                have hcz61_1 : wc.cell? ⟨gb152, 1, none⟩ = some (.int .i64 a0_1) := (blk_cell BK152.out 1).trans rfl
                                have hcz61_2 : wc.cell? ⟨gb152, 2, none⟩ = some (.int .i64 a0_2) := (blk_cell BK152.out 2).trans rfl
                                have hcz61_3 : wc.cell? ⟨gb152, 3, none⟩ = some (.int .i64 a0_3) := (blk_cell BK152.out 3).trans rfl
                                have hcz61_4 : wc.cell? ⟨gb152, 4, none⟩ = some (.int .i64 a0_4) := (blk_cell BK152.out 4).trans rfl
                                have hcz61_5 : wc.cell? ⟨gb152, 5, none⟩ = some (.int .i64 a0_5) := (blk_cell BK152.out 5).trans rfl
                                have hcz61_6 : wc.cell? ⟨gb152, 6, none⟩ = some (.int .i64 a0_6) := (blk_cell BK152.out 6).trans rfl
                                have hcz61_7 : wc.cell? ⟨gb152, 7, none⟩ = some (.int .i64 a0_7) := (blk_cell BK152.out 7).trans rfl
                                have hcz61_8 : wc.cell? ⟨gb152, 8, none⟩ = some (.int .i64 a0_8) := (blk_cell BK152.out 8).trans rfl
                                have hcz61_9 : wc.cell? ⟨gb152, 9, none⟩ = some (.int .i64 a0_9) := (blk_cell BK152.out 9).trans rfl
                                have hcz61_10 : wc.cell? ⟨gb152, 10, none⟩ = some (.int .i64 a0_10) := (blk_cell BK152.out 10).trans rfl
                                have hfz61_0 := blk_frozen BK152.out 0
                                have hfz61_1 := blk_frozen BK152.out 1
                                have hfz61_2 := blk_frozen BK152.out 2
                                have hfz61_3 := blk_frozen BK152.out 3
                                have hfz61_4 := blk_frozen BK152.out 4
                                have hfz61_5 := blk_frozen BK152.out 5
                                have hfz61_6 := blk_frozen BK152.out 6
                                have hfz61_7 := blk_frozen BK152.out 7
                                have hfz61_8 := blk_frozen BK152.out 8
                                have hfz61_9 := blk_frozen BK152.out 9
                                have hfz61_10 := blk_frozen BK152.out 10
                                go_wp2_with (first | ((with_reducible refine gate_callee (f := 30) rfl ?_); refine goesL_ (some 107) rfl rfl Tryd.func30 (by kernel_rfl) rfl #[.int .i64 a0_6, .int .i64 0, .int .i64 2147483646] rfl (by (try simp only [List.map_toArray, List.map_cons, List.map_nil]); first | done | rfl | (simp only [List.length_drop, List.length_take]; rfl)) ?_; (with_reducible refine (storagebarterref15_in.calls a0_6 0 2147483646 false _ A55.out).mono ?_); rintro e w' ⟨rfl, ⟨nd, rfl⟩⟩; refine ⟨_, rfl, ?_⟩))
                                go_ret
                                exact ⟨by first | rfl | (simp [errW_none, errW_some] <;> rfl) | (simp [*, errW_none, errW_some] <;> rfl), by repeat (first | (with_reducible first | exact HB.out | apply below_alloc | apply pw_below_drewN | apply below_drew1 | refine below_set ?_ GE152.out) | exact HB.out)⟩
                            · rw [if_neg c54] at H
                              have c54b0 : (a0_5 == 7) = false := beq_eq_false_iff_ne.mpr c54
                              have c54b1 : (a0_5 != 7) = true := bne_iff_ne.mpr c54
                              by_cases c62 : a0_5 = 8
                              · rw [if_pos c62] at H
                                have c62b0 : (a0_5 == 8) = true := beq_iff_eq.mpr c62
                                have c62b1 : (a0_5 != 8) = false := bne_eq_false_iff_eq.mpr c62
                                clear c62
                                replace H := Option.bind_eq_some_iff.mp H
                                obtain ⟨t162, A630, H⟩ := H
                                try dsimp only at H
                                have A63 := Aside0.mk A630
                                clear A630
                                by_cases c64 : t162 = true
                                · subst c64
                                  rw [if_pos rfl] at H
                                  replace H := Option.bind_eq_some_iff.mp H
                                  obtain ⟨t163, A650, H⟩ := H
                                  try dsimp only at H
                                  have A65 := Aside0.mk A650
                                  clear A650
                                  by_cases c66 : t163 = true
                                  · subst c66
                                    rw [if_pos rfl] at H
                                    by_cases c67 : a0_8 = 0
                                    · rw [if_pos c67] at H
                                      have c67b0 : (a0_8 == 0) = true := beq_iff_eq.mpr c67
                                      have c67b1 : (a0_8 != 0) = false := bne_eq_false_iff_eq.mpr c67
                                      clear c67
                                      obtain rfl := Option.some.inj H
                                      have hcz68_0 : wc.cell? ⟨gb152, 0, none⟩ = some (.int .i64 a0_0) := (blk_cell BK152.out 0).trans rfl
                                      have hcz68_1 : wc.cell? ⟨gb152, 1, none⟩ = some (.int .i64 a0_1) := (blk_cell BK152.out 1).trans rfl
                                      have hcz68_2 : wc.cell? ⟨gb152, 2, none⟩ = some (.int .i64 a0_2) := (blk_cell BK152.out 2).trans rfl
                                      have hcz68_3 : wc.cell? ⟨gb152, 3, none⟩ = some (.int .i64 a0_3) := (blk_cell BK152.out 3).trans rfl
                                      have hcz68_4 : wc.cell? ⟨gb152, 4, none⟩ = some (.int .i64 a0_4) := (blk_cell BK152.out 4).trans rfl
                                      have hcz68_5 : wc.cell? ⟨gb152, 5, none⟩ = some (.int .i64 a0_5) := (blk_cell BK152.out 5).trans rfl
                                      have hcz68_6 : wc.cell? ⟨gb152, 6, none⟩ = some (.int .i64 a0_6) := (blk_cell BK152.out 6).trans rfl
                                      have hcz68_7 : wc.cell? ⟨gb152, 7, none⟩ = some (.int .i64 a0_7) := (blk_cell BK152.out 7).trans rfl
                                      have hcz68_8 : wc.cell? ⟨gb152, 8, none⟩ = some (.int .i64 a0_8) := (blk_cell BK152.out 8).trans rfl
                                      have hcz68_9 : wc.cell? ⟨gb152, 9, none⟩ = some (.int .i64 a0_9) := (blk_cell BK152.out 9).trans rfl
                                      have hcz68_10 : wc.cell? ⟨gb152, 10, none⟩ = some (.int .i64 a0_10) := (blk_cell BK152.out 10).trans rfl
                                      have hfz68_0 := blk_frozen BK152.out 0
                                      have hfz68_1 := blk_frozen BK152.out 1
                                      have hfz68_2 := blk_frozen BK152.out 2
                                      have hfz68_3 := blk_frozen BK152.out 3
                                      have hfz68_4 := blk_frozen BK152.out 4
                                      have hfz68_5 := blk_frozen BK152.out 5
                                      have hfz68_6 := blk_frozen BK152.out 6
                                      have hfz68_7 := blk_frozen BK152.out 7
                                      have hfz68_8 := blk_frozen BK152.out 8
                                      have hfz68_9 := blk_frozen BK152.out 9
                                      have hfz68_10 := blk_frozen BK152.out 10
                                      go_wp2_with (first | ((with_reducible refine gate_callee (f := 30) rfl ?_); refine goesL_ (some 120) rfl rfl Tryd.func30 (by kernel_rfl) rfl #[.int .i64 a0_6, .int .i64 0, .int .i64 2147483646] rfl (by (try simp only [List.map_toArray, List.map_cons, List.map_nil]); first | done | rfl | (simp only [List.length_drop, List.length_take]; rfl)) ?_; (with_reducible refine (storagebarterref15_in.calls a0_6 0 2147483646 true _ A63.out).mono ?_); rintro e w' ⟨rfl, ⟨nd, rfl⟩⟩; refine ⟨_, rfl, ?_⟩) | (go_at_call 30; (with_reducible refine (storagebarterref15_in.calls a0_7 0 4294967293 true _ A65.out).mono ?_); rintro e w' ⟨rfl, ⟨nd, rfl⟩⟩))
                                      go_ret
                                      exact ⟨by first | rfl | (simp [errW_none, errW_some] <;> rfl) | (simp [*, errW_none, errW_some] <;> rfl), by repeat (first | (with_reducible first | exact HB.out | apply below_alloc | apply pw_below_drewN | apply below_drew1 | refine below_set ?_ GE152.out) | exact HB.out)⟩
                                    · rw [if_neg c67] at H
                                      have c67b0 : (a0_8 == 0) = false := beq_eq_false_iff_ne.mpr c67
                                      have c67b1 : (a0_8 != 0) = true := bne_iff_ne.mpr c67
                                      obtain rfl := Option.some.inj H
                                      have hcz69_0 : wc.cell? ⟨gb152, 0, none⟩ = some (.int .i64 a0_0) := (blk_cell BK152.out 0).trans rfl
                                      have hcz69_1 : wc.cell? ⟨gb152, 1, none⟩ = some (.int .i64 a0_1) := (blk_cell BK152.out 1).trans rfl
                                      have hcz69_2 : wc.cell? ⟨gb152, 2, none⟩ = some (.int .i64 a0_2) := (blk_cell BK152.out 2).trans rfl
                                      have hcz69_3 : wc.cell? ⟨gb152, 3, none⟩ = some (.int .i64 a0_3) := (blk_cell BK152.out 3).trans rfl
                                      have hcz69_4 : wc.cell? ⟨gb152, 4, none⟩ = some (.int .i64 a0_4) := (blk_cell BK152.out 4).trans rfl
                                      have hcz69_5 : wc.cell? ⟨gb152, 5, none⟩ = some (.int .i64 a0_5) := (blk_cell BK152.out 5).trans rfl
                                      have hcz69_6 : wc.cell? ⟨gb152, 6, none⟩ = some (.int .i64 a0_6) := (blk_cell BK152.out 6).trans rfl
                                      have hcz69_7 : wc.cell? ⟨gb152, 7, none⟩ = some (.int .i64 a0_7) := (blk_cell BK152.out 7).trans rfl
                                      have hcz69_8 : wc.cell? ⟨gb152, 8, none⟩ = some (.int .i64 a0_8) := (blk_cell BK152.out 8).trans rfl
                                      have hcz69_9 : wc.cell? ⟨gb152, 9, none⟩ = some (.int .i64 a0_9) := (blk_cell BK152.out 9).trans rfl
                                      have hcz69_10 : wc.cell? ⟨gb152, 10, none⟩ = some (.int .i64 a0_10) := (blk_cell BK152.out 10).trans rfl
                                      have hfz69_0 := blk_frozen BK152.out 0
                                      have hfz69_1 := blk_frozen BK152.out 1
                                      have hfz69_2 := blk_frozen BK152.out 2
                                      have hfz69_3 := blk_frozen BK152.out 3
                                      have hfz69_4 := blk_frozen BK152.out 4
                                      have hfz69_5 := blk_frozen BK152.out 5
                                      have hfz69_6 := blk_frozen BK152.out 6
                                      have hfz69_7 := blk_frozen BK152.out 7
                                      have hfz69_8 := blk_frozen BK152.out 8
                                      have hfz69_9 := blk_frozen BK152.out 9
                                      have hfz69_10 := blk_frozen BK152.out 10
                                      go_wp2_with (first | ((with_reducible refine gate_callee (f := 30) rfl ?_); refine goesL_ (some 120) rfl rfl Tryd.func30 (by kernel_rfl) rfl #[.int .i64 a0_6, .int .i64 0, .int .i64 2147483646] rfl (by (try simp only [List.map_toArray, List.map_cons, List.map_nil]); first | done | rfl | (simp only [List.length_drop, List.length_take]; rfl)) ?_; (with_reducible refine (storagebarterref15_in.calls a0_6 0 2147483646 true _ A63.out).mono ?_); rintro e w' ⟨rfl, ⟨nd, rfl⟩⟩; refine ⟨_, rfl, ?_⟩) | (go_at_call 30; (with_reducible refine (storagebarterref15_in.calls a0_7 0 4294967293 true _ A65.out).mono ?_); rintro e w' ⟨rfl, ⟨nd, rfl⟩⟩))
                                      go_ret
                                      exact ⟨by first | rfl | (simp [errW_none, errW_some] <;> rfl) | (simp [*, errW_none, errW_some] <;> rfl), by repeat (first | (with_reducible first | exact HB.out | apply below_alloc | apply pw_below_drewN | apply below_drew1 | refine below_set ?_ GE152.out) | exact HB.out)⟩
                                  · replace c66 := Bool.eq_false_iff.mpr c66
                                    subst c66
                                    rw [if_neg (show ¬ (false = true) by decide)] at H
                                    obtain rfl := Option.some.inj H
                                    have hcz70_0 : wc.cell? ⟨gb152, 0, none⟩ = some (.int .i64 a0_0) := (blk_cell BK152.out 0).trans rfl
                                    have hcz70_1 : wc.cell? ⟨gb152, 1, none⟩ = some (.int .i64 a0_1) := (blk_cell BK152.out 1).trans rfl
                                    have hcz70_2 : wc.cell? ⟨gb152, 2, none⟩ = some (.int .i64 a0_2) := (blk_cell BK152.out 2).trans rfl
                                    have hcz70_3 : wc.cell? ⟨gb152, 3, none⟩ = some (.int .i64 a0_3) := (blk_cell BK152.out 3).trans rfl
                                    have hcz70_4 : wc.cell? ⟨gb152, 4, none⟩ = some (.int .i64 a0_4) := (blk_cell BK152.out 4).trans rfl
                                    have hcz70_5 : wc.cell? ⟨gb152, 5, none⟩ = some (.int .i64 a0_5) := (blk_cell BK152.out 5).trans rfl
                                    have hcz70_6 : wc.cell? ⟨gb152, 6, none⟩ = some (.int .i64 a0_6) := (blk_cell BK152.out 6).trans rfl
                                    have hcz70_7 : wc.cell? ⟨gb152, 7, none⟩ = some (.int .i64 a0_7) := (blk_cell BK152.out 7).trans rfl
                                    have hcz70_8 : wc.cell? ⟨gb152, 8, none⟩ = some (.int .i64 a0_8) := (blk_cell BK152.out 8).trans rfl
                                    have hcz70_9 : wc.cell? ⟨gb152, 9, none⟩ = some (.int .i64 a0_9) := (blk_cell BK152.out 9).trans rfl
                                    have hcz70_10 : wc.cell? ⟨gb152, 10, none⟩ = some (.int .i64 a0_10) := (blk_cell BK152.out 10).trans rfl
                                    have hfz70_0 := blk_frozen BK152.out 0
                                    have hfz70_1 := blk_frozen BK152.out 1
                                    have hfz70_2 := blk_frozen BK152.out 2
                                    have hfz70_3 := blk_frozen BK152.out 3
                                    have hfz70_4 := blk_frozen BK152.out 4
                                    have hfz70_5 := blk_frozen BK152.out 5
                                    have hfz70_6 := blk_frozen BK152.out 6
                                    have hfz70_7 := blk_frozen BK152.out 7
                                    have hfz70_8 := blk_frozen BK152.out 8
                                    have hfz70_9 := blk_frozen BK152.out 9
                                    have hfz70_10 := blk_frozen BK152.out 10
                                    go_wp2_with (first | ((with_reducible refine gate_callee (f := 30) rfl ?_); refine goesL_ (some 120) rfl rfl Tryd.func30 (by kernel_rfl) rfl #[.int .i64 a0_6, .int .i64 0, .int .i64 2147483646] rfl (by (try simp only [List.map_toArray, List.map_cons, List.map_nil]); first | done | rfl | (simp only [List.length_drop, List.length_take]; rfl)) ?_; (with_reducible refine (storagebarterref15_in.calls a0_6 0 2147483646 true _ A63.out).mono ?_); rintro e w' ⟨rfl, ⟨nd, rfl⟩⟩; refine ⟨_, rfl, ?_⟩) | (go_at_call 30; (with_reducible refine (storagebarterref15_in.calls a0_7 0 4294967293 false _ A65.out).mono ?_); rintro e w' ⟨rfl, ⟨nd, rfl⟩⟩))
                                    go_ret
                                    exact ⟨by first | rfl | (simp [errW_none, errW_some] <;> rfl) | (simp [*, errW_none, errW_some] <;> rfl), by repeat (first | (with_reducible first | exact HB.out | apply below_alloc | apply pw_below_drewN | apply below_drew1 | refine below_set ?_ GE152.out) | exact HB.out)⟩
                                · replace c64 := Bool.eq_false_iff.mpr c64
                                  subst c64
                                  rw [if_neg (show ¬ (false = true) by decide)] at H
                                  obtain rfl := Option.some.inj H
                                  have hcz71_0 : wc.cell? ⟨gb152, 0, none⟩ = some (.int .i64 a0_0) := (blk_cell BK152.out 0).trans rfl
                                  have hcz71_1 : wc.cell? ⟨gb152, 1, none⟩ = some (.int .i64 a0_1) := (blk_cell BK152.out 1).trans rfl
                                  have hcz71_2 : wc.cell? ⟨gb152, 2, none⟩ = some (.int .i64 a0_2) := (blk_cell BK152.out 2).trans rfl
                                  have hcz71_3 : wc.cell? ⟨gb152, 3, none⟩ = some (.int .i64 a0_3) := (blk_cell BK152.out 3).trans rfl
                                  have hcz71_4 : wc.cell? ⟨gb152, 4, none⟩ = some (.int .i64 a0_4) := (blk_cell BK152.out 4).trans rfl
                                  have hcz71_5 : wc.cell? ⟨gb152, 5, none⟩ = some (.int .i64 a0_5) := (blk_cell BK152.out 5).trans rfl
                                  have hcz71_6 : wc.cell? ⟨gb152, 6, none⟩ = some (.int .i64 a0_6) := (blk_cell BK152.out 6).trans rfl
                                  have hcz71_7 : wc.cell? ⟨gb152, 7, none⟩ = some (.int .i64 a0_7) := (blk_cell BK152.out 7).trans rfl
                                  have hcz71_8 : wc.cell? ⟨gb152, 8, none⟩ = some (.int .i64 a0_8) := (blk_cell BK152.out 8).trans rfl
                                  have hcz71_9 : wc.cell? ⟨gb152, 9, none⟩ = some (.int .i64 a0_9) := (blk_cell BK152.out 9).trans rfl
                                  have hcz71_10 : wc.cell? ⟨gb152, 10, none⟩ = some (.int .i64 a0_10) := (blk_cell BK152.out 10).trans rfl
                                  have hfz71_0 := blk_frozen BK152.out 0
                                  have hfz71_1 := blk_frozen BK152.out 1
                                  have hfz71_2 := blk_frozen BK152.out 2
                                  have hfz71_3 := blk_frozen BK152.out 3
                                  have hfz71_4 := blk_frozen BK152.out 4
                                  have hfz71_5 := blk_frozen BK152.out 5
                                  have hfz71_6 := blk_frozen BK152.out 6
                                  have hfz71_7 := blk_frozen BK152.out 7
                                  have hfz71_8 := blk_frozen BK152.out 8
                                  have hfz71_9 := blk_frozen BK152.out 9
                                  have hfz71_10 := blk_frozen BK152.out 10
                                  go_wp2_with (first | ((with_reducible refine gate_callee (f := 30) rfl ?_); refine goesL_ (some 120) rfl rfl Tryd.func30 (by kernel_rfl) rfl #[.int .i64 a0_6, .int .i64 0, .int .i64 2147483646] rfl (by (try simp only [List.map_toArray, List.map_cons, List.map_nil]); first | done | rfl | (simp only [List.length_drop, List.length_take]; rfl)) ?_; (with_reducible refine (storagebarterref15_in.calls a0_6 0 2147483646 false _ A63.out).mono ?_); rintro e w' ⟨rfl, ⟨nd, rfl⟩⟩; refine ⟨_, rfl, ?_⟩))
                                  go_ret
                                  exact ⟨by first | rfl | (simp [errW_none, errW_some] <;> rfl) | (simp [*, errW_none, errW_some] <;> rfl), by repeat (first | (with_reducible first | exact HB.out | apply below_alloc | apply pw_below_drewN | apply below_drew1 | refine below_set ?_ GE152.out) | exact HB.out)⟩
                              · rw [if_neg c62] at H
                                have c62b0 : (a0_5 == 8) = false := beq_eq_false_iff_ne.mpr c62
                                have c62b1 : (a0_5 != 8) = true := bne_iff_ne.mpr c62
                                obtain rfl := Option.some.inj H
                                go_wp2
                                go_ret
                                exact ⟨by first | rfl | (simp [errW_none, errW_some] <;> rfl) | (simp [*, errW_none, errW_some] <;> rfl), by repeat (first | (with_reducible first | exact HB.out | apply below_alloc | apply pw_below_drewN | apply below_drew1 | refine below_set ?_ GE152.out) | exact HB.out)⟩
end Go.Proofs.YtcalkhlchjjalaaDoor.Q

namespace Go.Proofs.YtcalkhlchjjalaaDoor.Q
open Go.RowKit Go.Proofs.YtcalkhlchjjalaaDoorW.PrintWords Go.Proofs.YtcalkhlchjjalaaDoorW.PrintLast Go.Proofs.YtcalkhlchjjalaaDoorW.PrintMore Go.Proofs.YtcalkhlchjjalaaDoor.Gput
attribute [local go_sem] max2_int min2_int max_two min_two max_three min_three max_four min_four   -- for this text's walks alone
set_option linter.unusedVariables false
set_option linter.unusedSimpArgs false
def storagebarterref15_Valid.f (k : Nat) (a0_0 : Int) (a0_1 : Int) (a0_2 : Int) (a0_3 : Int) (a0_4 : Int) (a0_5 : Int) (a0_6 : Int) (a0_7 : Int) (a0_8 : Int) (a0_9 : Int) (a0_10 : Int) : Option (Bool) := (storagebarterref15_in.f a0_0 1 2147483646).bind fun t165 => (if t165 = true then ((storagebarterref15_in.f a0_1 1 2147483646).bind fun t166 => (if t166 = true then (if a0_0 = a0_1 then (some false) else ((storagebarterref15_in.f a0_2 1 256).bind fun t167 => (if t167 = true then ((storagebarterref15_in.f a0_3 0 2147483646).bind fun t168 => (if t168 = true then (if a0_2 > 1 then ((storagebarterref15_in.f a0_4 0 1048576).bind fun t169 => (if t169 = true then ((storagebarterref15_in.f a0_10 0 2147483646).bind fun t170 => (if t170 = true then ((storagebarterref15_parts.f k a0_0 a0_1 a0_2 a0_3 a0_4 a0_5 a0_6 a0_7 a0_8 a0_9 a0_10).bind fun t171 => (some t171)) else (some false))) else (some false))) else (if a0_3 = 0 then ((storagebarterref15_in.f a0_4 0 1048576).bind fun t172 => (if t172 = true then ((storagebarterref15_in.f a0_10 0 2147483646).bind fun t173 => (if t173 = true then ((storagebarterref15_parts.f k a0_0 a0_1 a0_2 a0_3 a0_4 a0_5 a0_6 a0_7 a0_8 a0_9 a0_10).bind fun t174 => (some t174)) else (some false))) else (some false))) else (some false))) else (some false))) else (some false)))) else (some false))) else (some false))
theorem storagebarterref15_Valid.mono : ∀ a0 a1 a2 a3 a4 a5 a6 a7 a8 a9 a10 k, LeO (storagebarterref15_Valid.f k a0 a1 a2 a3 a4 a5 a6 a7 a8 a9 a10) (storagebarterref15_Valid.f (k + 1) a0 a1 a2 a3 a4 a5 a6 a7 a8 a9 a10) := by
  intro a0 a1 a2 a3 a4 a5 a6 a7 a8 a9 a10 k
  unfold storagebarterref15_Valid.f
  repeat' first
      | (with_reducible exact storagebarterref15_parts.mono _ _ _ _ _ _ _ _ _ _ _ _)
      | (with_reducible exact LeO.refl _)
      | (with_reducible exact LeO.none _)
      | (with_reducible refine LeO.ite ?_ ?_)
      | (with_reducible refine LeO.bind ?_ (fun _ => ?_))
      | exact storagebarterref15_parts.mono _ _ _ _ _ _ _ _ _ _ _ _
      | exact LeO.none _
      | refine LeO.ite ?_ ?_
      | refine LeO.bind ?_ (fun _ => ?_)
set_option maxHeartbeats 8000000 in
set_option maxRecDepth 100000 in
theorem storagebarterref15_Valid.calls (k : Nat) (a0_0 : Int) (a0_1 : Int) (a0_2 : Int) (a0_3 : Int) (a0_4 : Int) (a0_5 : Int) (a0_6 : Int) (a0_7 : Int) (a0_8 : Int) (a0_9 : Int) (a0_10 : Int) (r : Bool) (w : World) (h : storagebarterref15_Valid.f k a0_0 a0_1 a0_2 a0_3 a0_4 a0_5 a0_6 a0_7 a0_8 a0_9 a0_10 = some r) :
    Calls Tryd.prog 34 #[.agg #[.int .i64 a0_0, .int .i64 a0_1, .int .i64 a0_2, .int .i64 a0_3, .int .i64 a0_4, .int .i64 a0_5, .int .i64 a0_6, .int .i64 a0_7, .int .i64 a0_8, .int .i64 a0_9, .int .i64 a0_10]] w fun e w' => e = .returned (.bool r) ∧ Below w.heap.size w w' := by
  have hu39 := Tryd.underlying39
  have HB := Aside0.mk (Below.refl w.heap.size w)
  have H : ((storagebarterref15_in.f a0_0 1 2147483646).bind fun t165 => (if t165 = true then ((storagebarterref15_in.f a0_1 1 2147483646).bind fun t166 => (if t166 = true then (if a0_0 = a0_1 then (some false) else ((storagebarterref15_in.f a0_2 1 256).bind fun t167 => (if t167 = true then ((storagebarterref15_in.f a0_3 0 2147483646).bind fun t168 => (if t168 = true then (if a0_2 > 1 then ((storagebarterref15_in.f a0_4 0 1048576).bind fun t169 => (if t169 = true then ((storagebarterref15_in.f a0_10 0 2147483646).bind fun t170 => (if t170 = true then ((storagebarterref15_parts.f k a0_0 a0_1 a0_2 a0_3 a0_4 a0_5 a0_6 a0_7 a0_8 a0_9 a0_10).bind fun t171 => (some t171)) else (some false))) else (some false))) else (if a0_3 = 0 then ((storagebarterref15_in.f a0_4 0 1048576).bind fun t172 => (if t172 = true then ((storagebarterref15_in.f a0_10 0 2147483646).bind fun t173 => (if t173 = true then ((storagebarterref15_parts.f k a0_0 a0_1 a0_2 a0_3 a0_4 a0_5 a0_6 a0_7 a0_8 a0_9 a0_10).bind fun t174 => (some t174)) else (some false))) else (some false))) else (some false))) else (some false))) else (some false)))) else (some false))) else (some false))) = some r := h
  clear h
  replace H := Option.bind_eq_some_iff.mp H
  obtain ⟨t165, A20, H⟩ := H
  replace H : (if t165 = true then ((storagebarterref15_in.f a0_1 1 2147483646).bind fun t166 => (if t166 = true then (if a0_0 = a0_1 then (some false) else ((storagebarterref15_in.f a0_2 1 256).bind fun t167 => (if t167 = true then ((storagebarterref15_in.f a0_3 0 2147483646).bind fun t168 => (if t168 = true then (if a0_2 > 1 then ((storagebarterref15_in.f a0_4 0 1048576).bind fun t169 => (if t169 = true then ((storagebarterref15_in.f a0_10 0 2147483646).bind fun t170 => (if t170 = true then ((storagebarterref15_parts.f k a0_0 a0_1 a0_2 a0_3 a0_4 a0_5 a0_6 a0_7 a0_8 a0_9 a0_10).bind fun t171 => (some t171)) else (some false))) else (some false))) else (if a0_3 = 0 then ((storagebarterref15_in.f a0_4 0 1048576).bind fun t172 => (if t172 = true then ((storagebarterref15_in.f a0_10 0 2147483646).bind fun t173 => (if t173 = true then ((storagebarterref15_parts.f k a0_0 a0_1 a0_2 a0_3 a0_4 a0_5 a0_6 a0_7 a0_8 a0_9 a0_10).bind fun t174 => (some t174)) else (some false))) else (some false))) else (some false))) else (some false))) else (some false)))) else (some false))) else (some false)) = some r := H
  have A2 := Aside0.mk A20
  clear A20
  by_cases c3 : t165 = true
  · subst c3
    have H1 : ((storagebarterref15_in.f a0_1 1 2147483646).bind fun t166 => (if t166 = true then (if a0_0 = a0_1 then (some false) else ((storagebarterref15_in.f a0_2 1 256).bind fun t167 => (if t167 = true then ((storagebarterref15_in.f a0_3 0 2147483646).bind fun t168 => (if t168 = true then (if a0_2 > 1 then ((storagebarterref15_in.f a0_4 0 1048576).bind fun t169 => (if t169 = true then ((storagebarterref15_in.f a0_10 0 2147483646).bind fun t170 => (if t170 = true then ((storagebarterref15_parts.f k a0_0 a0_1 a0_2 a0_3 a0_4 a0_5 a0_6 a0_7 a0_8 a0_9 a0_10).bind fun t171 => (some t171)) else (some false))) else (some false))) else (if a0_3 = 0 then ((storagebarterref15_in.f a0_4 0 1048576).bind fun t172 => (if t172 = true then ((storagebarterref15_in.f a0_10 0 2147483646).bind fun t173 => (if t173 = true then ((storagebarterref15_parts.f k a0_0 a0_1 a0_2 a0_3 a0_4 a0_5 a0_6 a0_7 a0_8 a0_9 a0_10).bind fun t174 => (some t174)) else (some false))) else (some false))) else (some false))) else (some false))) else (some false)))) else (some false))) = some r := by rw [if_pos rfl] at H; exact H
    clear H
    have H := H1
    clear H1
    replace H := Option.bind_eq_some_iff.mp H
    obtain ⟨t166, A40, H⟩ := H
    replace H : (if t166 = true then (if a0_0 = a0_1 then (some false) else ((storagebarterref15_in.f a0_2 1 256).bind fun t167 => (if t167 = true then ((storagebarterref15_in.f a0_3 0 2147483646).bind fun t168 => (if t168 = true then (if a0_2 > 1 then ((storagebarterref15_in.f a0_4 0 1048576).bind fun t169 => (if t169 = true then ((storagebarterref15_in.f a0_10 0 2147483646).bind fun t170 => (if t170 = true then ((storagebarterref15_parts.f k a0_0 a0_1 a0_2 a0_3 a0_4 a0_5 a0_6 a0_7 a0_8 a0_9 a0_10).bind fun t171 => (some t171)) else (some false))) else (some false))) else (if a0_3 = 0 then ((storagebarterref15_in.f a0_4 0 1048576).bind fun t172 => (if t172 = true then ((storagebarterref15_in.f a0_10 0 2147483646).bind fun t173 => (if t173 = true then ((storagebarterref15_parts.f k a0_0 a0_1 a0_2 a0_3 a0_4 a0_5 a0_6 a0_7 a0_8 a0_9 a0_10).bind fun t174 => (some t174)) else (some false))) else (some false))) else (some false))) else (some false))) else (some false)))) else (some false)) = some r := H
    have A4 := Aside0.mk A40
    clear A40
    by_cases c5 : t166 = true
    · subst c5
      have H1 : (if a0_0 = a0_1 then (some false) else ((storagebarterref15_in.f a0_2 1 256).bind fun t167 => (if t167 = true then ((storagebarterref15_in.f a0_3 0 2147483646).bind fun t168 => (if t168 = true then (if a0_2 > 1 then ((storagebarterref15_in.f a0_4 0 1048576).bind fun t169 => (if t169 = true then ((storagebarterref15_in.f a0_10 0 2147483646).bind fun t170 => (if t170 = true then ((storagebarterref15_parts.f k a0_0 a0_1 a0_2 a0_3 a0_4 a0_5 a0_6 a0_7 a0_8 a0_9 a0_10).bind fun t171 => (some t171)) else (some false))) else (some false))) else (if a0_3 = 0 then ((storagebarterref15_in.f a0_4 0 1048576).bind fun t172 => (if t172 = true then ((storagebarterref15_in.f a0_10 0 2147483646).bind fun t173 => (if t173 = true then ((storagebarterref15_parts.f k a0_0 a0_1 a0_2 a0_3 a0_4 a0_5 a0_6 a0_7 a0_8 a0_9 a0_10).bind fun t174 => (some t174)) else (some false))) else (some false))) else (some false))) else (some false))) else (some false)))) = some r := by rw [if_pos rfl] at H; exact H
      clear H
      have H := H1
      clear H1
      by_cases c6 : a0_0 = a0_1
      · rw [if_pos c6] at H
        have c6b0 : (a0_0 == a0_1) = true := beq_iff_eq.mpr c6
        have c6b1 : (a0_0 != a0_1) = false := bne_eq_false_iff_eq.mpr c6
        clear c6
        obtain rfl := Option.some.inj H
        go_enter Tryd.func34, Tryd.ntmps34
        go_wp2_with (first | ((with_reducible refine gate_dst (N := 1) rfl ?_); refine box_event ?hg (N := 1) ?hd (cs := #[.int .i64 a0_0, .int .i64 a0_1, .int .i64 a0_2, .int .i64 a0_3, .int .i64 a0_4, .int .i64 a0_5, .int .i64 a0_6, .int .i64 a0_7, .int .i64 a0_8, .int .i64 a0_9, .int .i64 a0_10]) (t := 39) ?hr ?_; (case hd => rfl); (case hg => rfl); (case hr => first | (go_simp; done) | (go_simp; rfl)); intro gb164 hg w7 hbox hb; have n0_ := Aside0.mk (below_step (by repeat (first | (with_reducible first | exact HB.out | apply below_alloc | apply pw_below_drewN | apply below_drew1) | exact HB.out)) hb); have n1_ := Aside0.mk (hbox); have n2_ := Aside0.mk ((by rw [hg]; exact (below_size (by repeat (first | (with_reducible first | exact HB.out | apply below_alloc | apply pw_below_drewN | apply below_drew1) | exact HB.out))) : w.heap.size ≤ gb164)); have n3_ := Aside0.mk ((by rw [hg]; exact (below_size (by repeat (first | (with_reducible first | exact HB.out | apply below_alloc | apply pw_below_drewN | apply below_drew1) | exact HB.out))) : w.heap.size ≤ gb164)); clear HB; have HB := n0_; have BK164 := n1_; have GW164 := n2_; have GE164 := n3_; clear n0_ n1_ n2_ n3_; clear hb hbox hg; have hcz8_0 : w7.cell? ⟨gb164, 0, none⟩ = some (.int .i64 a0_0) := (blk_cell BK164.out 0).trans rfl; have hcz8_1 : w7.cell? ⟨gb164, 1, none⟩ = some (.int .i64 a0_1) := (blk_cell BK164.out 1).trans rfl; have hcz8_2 : w7.cell? ⟨gb164, 2, none⟩ = some (.int .i64 a0_2) := (blk_cell BK164.out 2).trans rfl; have hcz8_3 : w7.cell? ⟨gb164, 3, none⟩ = some (.int .i64 a0_3) := (blk_cell BK164.out 3).trans rfl; have hcz8_4 : w7.cell? ⟨gb164, 4, none⟩ = some (.int .i64 a0_4) := (blk_cell BK164.out 4).trans rfl; have hcz8_5 : w7.cell? ⟨gb164, 5, none⟩ = some (.int .i64 a0_5) := (blk_cell BK164.out 5).trans rfl; have hcz8_6 : w7.cell? ⟨gb164, 6, none⟩ = some (.int .i64 a0_6) := (blk_cell BK164.out 6).trans rfl; have hcz8_7 : w7.cell? ⟨gb164, 7, none⟩ = some (.int .i64 a0_7) := (blk_cell BK164.out 7).trans rfl; have hcz8_8 : w7.cell? ⟨gb164, 8, none⟩ = some (.int .i64 a0_8) := (blk_cell BK164.out 8).trans rfl; have hcz8_9 : w7.cell? ⟨gb164, 9, none⟩ = some (.int .i64 a0_9) := (blk_cell BK164.out 9).trans rfl; have hcz8_10 : w7.cell? ⟨gb164, 10, none⟩ = some (.int .i64 a0_10) := (blk_cell BK164.out 10).trans rfl; have hfz8_0 := blk_frozen BK164.out 0; have hfz8_1 := blk_frozen BK164.out 1; have hfz8_2 := blk_frozen BK164.out 2; have hfz8_3 := blk_frozen BK164.out 3; have hfz8_4 := blk_frozen BK164.out 4; have hfz8_5 := blk_frozen BK164.out 5; have hfz8_6 := blk_frozen BK164.out 6; have hfz8_7 := blk_frozen BK164.out 7; have hfz8_8 := blk_frozen BK164.out 8; have hfz8_9 := blk_frozen BK164.out 9; have hfz8_10 := blk_frozen BK164.out 10) | ((with_reducible refine gate_callee (f := 30) rfl ?_); refine goesL_ (some 5) rfl rfl Tryd.func30 (by kernel_rfl) rfl #[.int .i64 a0_0, .int .i64 1, .int .i64 2147483646] rfl (by (try simp only [List.map_toArray, List.map_cons, List.map_nil]); first | done | rfl | (simp only [List.length_drop, List.length_take]; rfl)) ?_; (with_reducible refine (storagebarterref15_in.calls a0_0 1 2147483646 true _ A2.out).mono ?_); rintro e w' ⟨rfl, ⟨nd, rfl⟩⟩; refine ⟨_, rfl, ?_⟩) | (go_at_call 30; (with_reducible refine (storagebarterref15_in.calls a0_1 1 2147483646 true _ A4.out).mono ?_); rintro e w' ⟨rfl, ⟨nd, rfl⟩⟩))
        go_ret
        exact ⟨by first | rfl | (simp [errW_none, errW_some] <;> rfl) | (simp [*, errW_none, errW_some] <;> rfl), by repeat (first | (with_reducible first | exact HB.out | apply below_alloc | apply pw_below_drewN | apply below_drew1 | refine below_set ?_ GE164.out) | exact HB.out)⟩
      · rw [if_neg c6] at H
        have c6b0 : (a0_0 == a0_1) = false := beq_eq_false_iff_ne.mpr c6
        have c6b1 : (a0_0 != a0_1) = true := bne_iff_ne.mpr c6
        replace H := Option.bind_eq_some_iff.mp H
        obtain ⟨t167, A90, H⟩ := H
        replace H : (if t167 = true then ((storagebarterref15_in.f a0_3 0 2147483646).bind fun t168 => (if t168 = true then (if a0_2 > 1 then ((storagebarterref15_in.f a0_4 0 1048576).bind fun t169 => (if t169 = true then ((storagebarterref15_in.f a0_10 0 2147483646).bind fun t170 => (if t170 = true then ((storagebarterref15_parts.f k a0_0 a0_1 a0_2 a0_3 a0_4 a0_5 a0_6 a0_7 a0_8 a0_9 a0_10).bind fun t171 => (some t171)) else (some false))) else (some false))) else (if a0_3 = 0 then ((storagebarterref15_in.f a0_4 0 1048576).bind fun t172 => (if t172 = true then ((storagebarterref15_in.f a0_10 0 2147483646).bind fun t173 => (if t173 = true then ((storagebarterref15_parts.f k a0_0 a0_1 a0_2 a0_3 a0_4 a0_5 a0_6 a0_7 a0_8 a0_9 a0_10).bind fun t174 => (some t174)) else (some false))) else (some false))) else (some false))) else (some false))) else (some false)) = some r := H
        have A9 := Aside0.mk A90
        clear A90
        by_cases c10 : t167 = true
        · subst c10
          have H1 : ((storagebarterref15_in.f a0_3 0 2147483646).bind fun t168 => (if t168 = true then (if a0_2 > 1 then ((storagebarterref15_in.f a0_4 0 1048576).bind fun t169 => (if t169 = true then ((storagebarterref15_in.f a0_10 0 2147483646).bind fun t170 => (if t170 = true then ((storagebarterref15_parts.f k a0_0 a0_1 a0_2 a0_3 a0_4 a0_5 a0_6 a0_7 a0_8 a0_9 a0_10).bind fun t171 => (some t171)) else (some false))) else (some false))) else (if a0_3 = 0 then ((storagebarterref15_in.f a0_4 0 1048576).bind fun t172 => (if t172 = true then ((storagebarterref15_in.f a0_10 0 2147483646).bind fun t173 => (if t173 = true then ((storagebarterref15_parts.f k a0_0 a0_1 a0_2 a0_3 a0_4 a0_5 a0_6 a0_7 a0_8 a0_9 a0_10).bind fun t174 => (some t174)) else (some false))) else (some false))) else (some false))) else (some false))) = some r := by rw [if_pos rfl] at H; exact H
          clear H
          have H := H1
          clear H1
          replace H := Option.bind_eq_some_iff.mp H
          obtain ⟨t168, A110, H⟩ := H
          replace H : (if t168 = true then (if a0_2 > 1 then ((storagebarterref15_in.f a0_4 0 1048576).bind fun t169 => (if t169 = true then ((storagebarterref15_in.f a0_10 0 2147483646).bind fun t170 => (if t170 = true then ((storagebarterref15_parts.f k a0_0 a0_1 a0_2 a0_3 a0_4 a0_5 a0_6 a0_7 a0_8 a0_9 a0_10).bind fun t171 => (some t171)) else (some false))) else (some false))) else (if a0_3 = 0 then ((storagebarterref15_in.f a0_4 0 1048576).bind fun t172 => (if t172 = true then ((storagebarterref15_in.f a0_10 0 2147483646).bind fun t173 => (if t173 = true then ((storagebarterref15_parts.f k a0_0 a0_1 a0_2 a0_3 a0_4 a0_5 a0_6 a0_7 a0_8 a0_9 a0_10).bind fun t174 => (some t174)) else (some false))) else (some false))) else (some false))) else (some false)) = some r := H
          have A11 := Aside0.mk A110
          clear A110
          by_cases c12 : t168 = true
          · subst c12
            have H1 : (if a0_2 > 1 then ((storagebarterref15_in.f a0_4 0 1048576).bind fun t169 => (if t169 = true then ((storagebarterref15_in.f a0_10 0 2147483646).bind fun t170 => (if t170 = true then ((storagebarterref15_parts.f k a0_0 a0_1 a0_2 a0_3 a0_4 a0_5 a0_6 a0_7 a0_8 a0_9 a0_10).bind fun t171 => (some t171)) else (some false))) else (some false))) else (if a0_3 = 0 then ((storagebarterref15_in.f a0_4 0 1048576).bind fun t172 => (if t172 = true then ((storagebarterref15_in.f a0_10 0 2147483646).bind fun t173 => (if t173 = true then ((storagebarterref15_parts.f k a0_0 a0_1 a0_2 a0_3 a0_4 a0_5 a0_6 a0_7 a0_8 a0_9 a0_10).bind fun t174 => (some t174)) else (some false))) else (some false))) else (some false))) = some r := by rw [if_pos rfl] at H; exact H
            clear H
            have H := H1
            clear H1
            by_cases c13 : a0_2 > 1
            · rw [if_pos c13] at H
              have c13b0 : decide (1 < a0_2) = true := decide_eq_true c13
              clear c13
              replace H := Option.bind_eq_some_iff.mp H
              obtain ⟨t169, A140, H⟩ := H
              replace H : (if t169 = true then ((storagebarterref15_in.f a0_10 0 2147483646).bind fun t170 => (if t170 = true then ((storagebarterref15_parts.f k a0_0 a0_1 a0_2 a0_3 a0_4 a0_5 a0_6 a0_7 a0_8 a0_9 a0_10).bind fun t171 => (some t171)) else (some false))) else (some false)) = some r := H
              have A14 := Aside0.mk A140
              clear A140
              by_cases c15 : t169 = true
              · subst c15
                have H1 : ((storagebarterref15_in.f a0_10 0 2147483646).bind fun t170 => (if t170 = true then ((storagebarterref15_parts.f k a0_0 a0_1 a0_2 a0_3 a0_4 a0_5 a0_6 a0_7 a0_8 a0_9 a0_10).bind fun t171 => (some t171)) else (some false))) = some r := by rw [if_pos rfl] at H; exact H
                clear H
                have H := H1
                clear H1
                replace H := Option.bind_eq_some_iff.mp H
                obtain ⟨t170, A160, H⟩ := H
                replace H : (if t170 = true then ((storagebarterref15_parts.f k a0_0 a0_1 a0_2 a0_3 a0_4 a0_5 a0_6 a0_7 a0_8 a0_9 a0_10).bind fun t171 => (some t171)) else (some false)) = some r := H
                have A16 := Aside0.mk A160
                clear A160
                by_cases c17 : t170 = true
                · subst c17
                  have H1 : ((storagebarterref15_parts.f k a0_0 a0_1 a0_2 a0_3 a0_4 a0_5 a0_6 a0_7 a0_8 a0_9 a0_10).bind fun t171 => (some t171)) = some r := by rw [if_pos rfl] at H; exact H
                  clear H
                  have H := H1
                  clear H1
                  replace H := Option.bind_eq_some_iff.mp H
                  obtain ⟨t171, A180, H⟩ := H
                  replace H : (some t171) = some r := H
                  have A18 := Aside0.mk A180
                  clear A180
                  obtain rfl := Option.some.inj H
                  go_enter Tryd.func34, Tryd.ntmps34
                  go_wp2_with (first | ((with_reducible refine gate_dst (N := 1) rfl ?_); refine box_event ?hg (N := 1) ?hd (cs := #[.int .i64 a0_0, .int .i64 a0_1, .int .i64 a0_2, .int .i64 a0_3, .int .i64 a0_4, .int .i64 a0_5, .int .i64 a0_6, .int .i64 a0_7, .int .i64 a0_8, .int .i64 a0_9, .int .i64 a0_10]) (t := 39) ?hr ?_; (case hd => rfl); (case hg => rfl); (case hr => first | (go_simp; done) | (go_simp; rfl)); intro gb164 hg w19 hbox hb; have n0_ := Aside0.mk (below_step (by repeat (first | (with_reducible first | exact HB.out | apply below_alloc | apply pw_below_drewN | apply below_drew1) | exact HB.out)) hb); have n1_ := Aside0.mk (hbox); have n2_ := Aside0.mk ((by rw [hg]; exact (below_size (by repeat (first | (with_reducible first | exact HB.out | apply below_alloc | apply pw_below_drewN | apply below_drew1) | exact HB.out))) : w.heap.size ≤ gb164)); have n3_ := Aside0.mk ((by rw [hg]; exact (below_size (by repeat (first | (with_reducible first | exact HB.out | apply below_alloc | apply pw_below_drewN | apply below_drew1) | exact HB.out))) : w.heap.size ≤ gb164)); clear HB; have HB := n0_; have BK164 := n1_; have GW164 := n2_; have GE164 := n3_; clear n0_ n1_ n2_ n3_; clear hb hbox hg; have hcz20_0 : w19.cell? ⟨gb164, 0, none⟩ = some (.int .i64 a0_0) := (blk_cell BK164.out 0).trans rfl; have hcz20_1 : w19.cell? ⟨gb164, 1, none⟩ = some (.int .i64 a0_1) := (blk_cell BK164.out 1).trans rfl; have hcz20_2 : w19.cell? ⟨gb164, 2, none⟩ = some (.int .i64 a0_2) := (blk_cell BK164.out 2).trans rfl; have hcz20_3 : w19.cell? ⟨gb164, 3, none⟩ = some (.int .i64 a0_3) := (blk_cell BK164.out 3).trans rfl; have hcz20_4 : w19.cell? ⟨gb164, 4, none⟩ = some (.int .i64 a0_4) := (blk_cell BK164.out 4).trans rfl; have hcz20_5 : w19.cell? ⟨gb164, 5, none⟩ = some (.int .i64 a0_5) := (blk_cell BK164.out 5).trans rfl; have hcz20_6 : w19.cell? ⟨gb164, 6, none⟩ = some (.int .i64 a0_6) := (blk_cell BK164.out 6).trans rfl; have hcz20_7 : w19.cell? ⟨gb164, 7, none⟩ = some (.int .i64 a0_7) := (blk_cell BK164.out 7).trans rfl; have hcz20_8 : w19.cell? ⟨gb164, 8, none⟩ = some (.int .i64 a0_8) := (blk_cell BK164.out 8).trans rfl; have hcz20_9 : w19.cell? ⟨gb164, 9, none⟩ = some (.int .i64 a0_9) := (blk_cell BK164.out 9).trans rfl; have hcz20_10 : w19.cell? ⟨gb164, 10, none⟩ = some (.int .i64 a0_10) := (blk_cell BK164.out 10).trans rfl; have hfz20_0 := blk_frozen BK164.out 0; have hfz20_1 := blk_frozen BK164.out 1; have hfz20_2 := blk_frozen BK164.out 2; have hfz20_3 := blk_frozen BK164.out 3; have hfz20_4 := blk_frozen BK164.out 4; have hfz20_5 := blk_frozen BK164.out 5; have hfz20_6 := blk_frozen BK164.out 6; have hfz20_7 := blk_frozen BK164.out 7; have hfz20_8 := blk_frozen BK164.out 8; have hfz20_9 := blk_frozen BK164.out 9; have hfz20_10 := blk_frozen BK164.out 10) | ((with_reducible refine gate_callee (f := 30) rfl ?_); refine goesL_ (some 5) rfl rfl Tryd.func30 (by kernel_rfl) rfl #[.int .i64 a0_0, .int .i64 1, .int .i64 2147483646] rfl (by (try simp only [List.map_toArray, List.map_cons, List.map_nil]); first | done | rfl | (simp only [List.length_drop, List.length_take]; rfl)) ?_; (with_reducible refine (storagebarterref15_in.calls a0_0 1 2147483646 true _ A2.out).mono ?_); rintro e w' ⟨rfl, ⟨nd, rfl⟩⟩; refine ⟨_, rfl, ?_⟩) | (go_at_call 30; (with_reducible refine (storagebarterref15_in.calls a0_1 1 2147483646 true _ A4.out).mono ?_); rintro e w' ⟨rfl, ⟨nd, rfl⟩⟩) | (go_at_call 30; (with_reducible refine (storagebarterref15_in.calls a0_2 1 256 true _ A9.out).mono ?_); rintro e w' ⟨rfl, ⟨nd, rfl⟩⟩) | (go_at_call 30; (with_reducible refine (storagebarterref15_in.calls a0_3 0 2147483646 true _ A11.out).mono ?_); rintro e w' ⟨rfl, ⟨nd, rfl⟩⟩) | (go_at_call 30; (with_reducible refine (storagebarterref15_in.calls a0_4 0 1048576 true _ A14.out).mono ?_); rintro e w' ⟨rfl, ⟨nd, rfl⟩⟩) | (go_at_call 30; (with_reducible refine (storagebarterref15_in.calls a0_10 0 2147483646 true _ A16.out).mono ?_); rintro e w' ⟨rfl, ⟨nd, rfl⟩⟩) | (go_at_call 47; (with_reducible refine (storagebarterref15_parts.calls k a0_0 a0_1 a0_2 a0_3 a0_4 a0_5 a0_6 a0_7 a0_8 a0_9 a0_10 t171 _ A18.out).mono ?_); rintro e w21 ⟨rfl, hb⟩; have n0_ := Aside0.mk (blk_below (g := gb164) (o := .cells #[.int .i64 a0_0, .int .i64 a0_1, .int .i64 a0_2, .int .i64 a0_3, .int .i64 a0_4, .int .i64 a0_5, .int .i64 a0_6, .int .i64 a0_7, .int .i64 a0_8, .int .i64 a0_9, .int .i64 a0_10] 39 (0, 0)) (by (with_reducible repeat (first | refine blk_drewN ?_ _ | refine blk_drew ?_ | refine blk_alloc ?_ _)); exact BK164.out) hb); have n1_ := Aside0.mk (below_step (by repeat (first | (with_reducible first | exact HB.out | apply below_alloc | apply pw_below_drewN | apply below_drew1 | refine below_set ?_ GE164.out) | exact HB.out)) hb); clear BK164; clear HB; have BK164 := n0_; have HB := n1_; clear n0_ n1_; (try clear hb); (try clear hb2); (try clear hk); (try clear hi)))
                  go_ret
                  exact ⟨by first | rfl | (simp [errW_none, errW_some] <;> rfl) | (simp [*, errW_none, errW_some] <;> rfl), by repeat (first | (with_reducible first | exact HB.out | apply below_alloc | apply pw_below_drewN | apply below_drew1 | refine below_set ?_ GE164.out) | exact HB.out)⟩
                · replace c17 := Bool.eq_false_iff.mpr c17
                  subst c17
                  have H1 : (some false) = some r := by rw [if_neg (show ¬ (false = true) by decide)] at H; exact H
                  clear H
                  have H := H1
                  clear H1
                  obtain rfl := Option.some.inj H
                  go_enter Tryd.func34, Tryd.ntmps34
                  go_wp2_with (first | ((with_reducible refine gate_dst (N := 1) rfl ?_); refine box_event ?hg (N := 1) ?hd (cs := #[.int .i64 a0_0, .int .i64 a0_1, .int .i64 a0_2, .int .i64 a0_3, .int .i64 a0_4, .int .i64 a0_5, .int .i64 a0_6, .int .i64 a0_7, .int .i64 a0_8, .int .i64 a0_9, .int .i64 a0_10]) (t := 39) ?hr ?_; (case hd => rfl); (case hg => rfl); (case hr => first | (go_simp; done) | (go_simp; rfl)); intro gb164 hg w22 hbox hb; have n0_ := Aside0.mk (below_step (by repeat (first | (with_reducible first | exact HB.out | apply below_alloc | apply pw_below_drewN | apply below_drew1) | exact HB.out)) hb); have n1_ := Aside0.mk (hbox); have n2_ := Aside0.mk ((by rw [hg]; exact (below_size (by repeat (first | (with_reducible first | exact HB.out | apply below_alloc | apply pw_below_drewN | apply below_drew1) | exact HB.out))) : w.heap.size ≤ gb164)); have n3_ := Aside0.mk ((by rw [hg]; exact (below_size (by repeat (first | (with_reducible first | exact HB.out | apply below_alloc | apply pw_below_drewN | apply below_drew1) | exact HB.out))) : w.heap.size ≤ gb164)); clear HB; have HB := n0_; have BK164 := n1_; have GW164 := n2_; have GE164 := n3_; clear n0_ n1_ n2_ n3_; clear hb hbox hg; have hcz23_0 : w22.cell? ⟨gb164, 0, none⟩ = some (.int .i64 a0_0) := (blk_cell BK164.out 0).trans rfl; have hcz23_1 : w22.cell? ⟨gb164, 1, none⟩ = some (.int .i64 a0_1) := (blk_cell BK164.out 1).trans rfl; have hcz23_2 : w22.cell? ⟨gb164, 2, none⟩ = some (.int .i64 a0_2) := (blk_cell BK164.out 2).trans rfl; have hcz23_3 : w22.cell? ⟨gb164, 3, none⟩ = some (.int .i64 a0_3) := (blk_cell BK164.out 3).trans rfl; have hcz23_4 : w22.cell? ⟨gb164, 4, none⟩ = some (.int .i64 a0_4) := (blk_cell BK164.out 4).trans rfl; have hcz23_5 : w22.cell? ⟨gb164, 5, none⟩ = some (.int .i64 a0_5) := (blk_cell BK164.out 5).trans rfl; have hcz23_6 : w22.cell? ⟨gb164, 6, none⟩ = some (.int .i64 a0_6) := (blk_cell BK164.out 6).trans rfl; have hcz23_7 : w22.cell? ⟨gb164, 7, none⟩ = some (.int .i64 a0_7) := (blk_cell BK164.out 7).trans rfl; have hcz23_8 : w22.cell? ⟨gb164, 8, none⟩ = some (.int .i64 a0_8) := (blk_cell BK164.out 8).trans rfl; have hcz23_9 : w22.cell? ⟨gb164, 9, none⟩ = some (.int .i64 a0_9) := (blk_cell BK164.out 9).trans rfl; have hcz23_10 : w22.cell? ⟨gb164, 10, none⟩ = some (.int .i64 a0_10) := (blk_cell BK164.out 10).trans rfl; have hfz23_0 := blk_frozen BK164.out 0; have hfz23_1 := blk_frozen BK164.out 1; have hfz23_2 := blk_frozen BK164.out 2; have hfz23_3 := blk_frozen BK164.out 3; have hfz23_4 := blk_frozen BK164.out 4; have hfz23_5 := blk_frozen BK164.out 5; have hfz23_6 := blk_frozen BK164.out 6; have hfz23_7 := blk_frozen BK164.out 7; have hfz23_8 := blk_frozen BK164.out 8; have hfz23_9 := blk_frozen BK164.out 9; have hfz23_10 := blk_frozen BK164.out 10) | ((with_reducible refine gate_callee (f := 30) rfl ?_); refine goesL_ (some 5) rfl rfl Tryd.func30 (by kernel_rfl) rfl #[.int .i64 a0_0, .int .i64 1, .int .i64 2147483646] rfl (by (try simp only [List.map_toArray, List.map_cons, List.map_nil]); first | done | rfl | (simp only [List.length_drop, List.length_take]; rfl)) ?_; (with_reducible refine (storagebarterref15_in.calls a0_0 1 2147483646 true _ A2.out).mono ?_); rintro e w' ⟨rfl, ⟨nd, rfl⟩⟩; refine ⟨_, rfl, ?_⟩) | (go_at_call 30; (with_reducible refine (storagebarterref15_in.calls a0_1 1 2147483646 true _ A4.out).mono ?_); rintro e w' ⟨rfl, ⟨nd, rfl⟩⟩) | (go_at_call 30; (with_reducible refine (storagebarterref15_in.calls a0_2 1 256 true _ A9.out).mono ?_); rintro e w' ⟨rfl, ⟨nd, rfl⟩⟩) | (go_at_call 30; (with_reducible refine (storagebarterref15_in.calls a0_3 0 2147483646 true _ A11.out).mono ?_); rintro e w' ⟨rfl, ⟨nd, rfl⟩⟩) | (go_at_call 30; (with_reducible refine (storagebarterref15_in.calls a0_4 0 1048576 true _ A14.out).mono ?_); rintro e w' ⟨rfl, ⟨nd, rfl⟩⟩) | (go_at_call 30; (with_reducible refine (storagebarterref15_in.calls a0_10 0 2147483646 false _ A16.out).mono ?_); rintro e w' ⟨rfl, ⟨nd, rfl⟩⟩))
                  go_ret
                  exact ⟨by first | rfl | (simp [errW_none, errW_some] <;> rfl) | (simp [*, errW_none, errW_some] <;> rfl), by repeat (first | (with_reducible first | exact HB.out | apply below_alloc | apply pw_below_drewN | apply below_drew1 | refine below_set ?_ GE164.out) | exact HB.out)⟩
              · replace c15 := Bool.eq_false_iff.mpr c15
                subst c15
                have H1 : (some false) = some r := by rw [if_neg (show ¬ (false = true) by decide)] at H; exact H
                clear H
                have H := H1
                clear H1
                obtain rfl := Option.some.inj H
                go_enter Tryd.func34, Tryd.ntmps34
                go_wp2_with (first | ((with_reducible refine gate_dst (N := 1) rfl ?_); refine box_event ?hg (N := 1) ?hd (cs := #[.int .i64 a0_0, .int .i64 a0_1, .int .i64 a0_2, .int .i64 a0_3, .int .i64 a0_4, .int .i64 a0_5, .int .i64 a0_6, .int .i64 a0_7, .int .i64 a0_8, .int .i64 a0_9, .int .i64 a0_10]) (t := 39) ?hr ?_; (case hd => rfl); (case hg => rfl); (case hr => first | (go_simp; done) | (go_simp; rfl)); intro gb164 hg w24 hbox hb; have n0_ := Aside0.mk (below_step (by repeat (first | (with_reducible first | exact HB.out | apply below_alloc | apply pw_below_drewN | apply below_drew1) | exact HB.out)) hb); have n1_ := Aside0.mk (hbox); have n2_ := Aside0.mk ((by rw [hg]; exact (below_size (by repeat (first | (with_reducible first | exact HB.out | apply below_alloc | apply pw_below_drewN | apply below_drew1) | exact HB.out))) : w.heap.size ≤ gb164)); have n3_ := Aside0.mk ((by rw [hg]; exact (below_size (by repeat (first | (with_reducible first | exact HB.out | apply below_alloc | apply pw_below_drewN | apply below_drew1) | exact HB.out))) : w.heap.size ≤ gb164)); clear HB; have HB := n0_; have BK164 := n1_; have GW164 := n2_; have GE164 := n3_; clear n0_ n1_ n2_ n3_; clear hb hbox hg; have hcz25_0 : w24.cell? ⟨gb164, 0, none⟩ = some (.int .i64 a0_0) := (blk_cell BK164.out 0).trans rfl; have hcz25_1 : w24.cell? ⟨gb164, 1, none⟩ = some (.int .i64 a0_1) := (blk_cell BK164.out 1).trans rfl; have hcz25_2 : w24.cell? ⟨gb164, 2, none⟩ = some (.int .i64 a0_2) := (blk_cell BK164.out 2).trans rfl; have hcz25_3 : w24.cell? ⟨gb164, 3, none⟩ = some (.int .i64 a0_3) := (blk_cell BK164.out 3).trans rfl; have hcz25_4 : w24.cell? ⟨gb164, 4, none⟩ = some (.int .i64 a0_4) := (blk_cell BK164.out 4).trans rfl; have hcz25_5 : w24.cell? ⟨gb164, 5, none⟩ = some (.int .i64 a0_5) := (blk_cell BK164.out 5).trans rfl; have hcz25_6 : w24.cell? ⟨gb164, 6, none⟩ = some (.int .i64 a0_6) := (blk_cell BK164.out 6).trans rfl; have hcz25_7 : w24.cell? ⟨gb164, 7, none⟩ = some (.int .i64 a0_7) := (blk_cell BK164.out 7).trans rfl; have hcz25_8 : w24.cell? ⟨gb164, 8, none⟩ = some (.int .i64 a0_8) := (blk_cell BK164.out 8).trans rfl; have hcz25_9 : w24.cell? ⟨gb164, 9, none⟩ = some (.int .i64 a0_9) := (blk_cell BK164.out 9).trans rfl; have hcz25_10 : w24.cell? ⟨gb164, 10, none⟩ = some (.int .i64 a0_10) := (blk_cell BK164.out 10).trans rfl; have hfz25_0 := blk_frozen BK164.out 0; have hfz25_1 := blk_frozen BK164.out 1; have hfz25_2 := blk_frozen BK164.out 2; have hfz25_3 := blk_frozen BK164.out 3; have hfz25_4 := blk_frozen BK164.out 4; have hfz25_5 := blk_frozen BK164.out 5; have hfz25_6 := blk_frozen BK164.out 6; have hfz25_7 := blk_frozen BK164.out 7; have hfz25_8 := blk_frozen BK164.out 8; have hfz25_9 := blk_frozen BK164.out 9; have hfz25_10 := blk_frozen BK164.out 10) | ((with_reducible refine gate_callee (f := 30) rfl ?_); refine goesL_ (some 5) rfl rfl Tryd.func30 (by kernel_rfl) rfl #[.int .i64 a0_0, .int .i64 1, .int .i64 2147483646] rfl (by (try simp only [List.map_toArray, List.map_cons, List.map_nil]); first | done | rfl | (simp only [List.length_drop, List.length_take]; rfl)) ?_; (with_reducible refine (storagebarterref15_in.calls a0_0 1 2147483646 true _ A2.out).mono ?_); rintro e w' ⟨rfl, ⟨nd, rfl⟩⟩; refine ⟨_, rfl, ?_⟩) | (go_at_call 30; (with_reducible refine (storagebarterref15_in.calls a0_1 1 2147483646 true _ A4.out).mono ?_); rintro e w' ⟨rfl, ⟨nd, rfl⟩⟩) | (go_at_call 30; (with_reducible refine (storagebarterref15_in.calls a0_2 1 256 true _ A9.out).mono ?_); rintro e w' ⟨rfl, ⟨nd, rfl⟩⟩) | (go_at_call 30; (with_reducible refine (storagebarterref15_in.calls a0_3 0 2147483646 true _ A11.out).mono ?_); rintro e w' ⟨rfl, ⟨nd, rfl⟩⟩) | (go_at_call 30; (with_reducible refine (storagebarterref15_in.calls a0_4 0 1048576 false _ A14.out).mono ?_); rintro e w' ⟨rfl, ⟨nd, rfl⟩⟩))
                go_ret
                exact ⟨by first | rfl | (simp [errW_none, errW_some] <;> rfl) | (simp [*, errW_none, errW_some] <;> rfl), by repeat (first | (with_reducible first | exact HB.out | apply below_alloc | apply pw_below_drewN | apply below_drew1 | refine below_set ?_ GE164.out) | exact HB.out)⟩
            · rw [if_neg c13] at H
              have c13b0 : decide (1 < a0_2) = false := decide_eq_false c13
              clear c13
              by_cases c26 : a0_3 = 0
              · rw [if_pos c26] at H
                have c26b0 : (a0_3 == 0) = true := beq_iff_eq.mpr c26
                have c26b1 : (a0_3 != 0) = false := bne_eq_false_iff_eq.mpr c26
                clear c26
                replace H := Option.bind_eq_some_iff.mp H
                obtain ⟨t172, A270, H⟩ := H
                replace H : (if t172 = true then ((storagebarterref15_in.f a0_10 0 2147483646).bind fun t173 => (if t173 = true then ((storagebarterref15_parts.f k a0_0 a0_1 a0_2 a0_3 a0_4 a0_5 a0_6 a0_7 a0_8 a0_9 a0_10).bind fun t174 => (some t174)) else (some false))) else (some false)) = some r := H
                have A27 := Aside0.mk A270
                clear A270
                by_cases c28 : t172 = true
                · subst c28
                  have H1 : ((storagebarterref15_in.f a0_10 0 2147483646).bind fun t173 => (if t173 = true then ((storagebarterref15_parts.f k a0_0 a0_1 a0_2 a0_3 a0_4 a0_5 a0_6 a0_7 a0_8 a0_9 a0_10).bind fun t174 => (some t174)) else (some false))) = some r := by rw [if_pos rfl] at H; exact H
                  clear H
                  have H := H1
                  clear H1
                  replace H := Option.bind_eq_some_iff.mp H
                  obtain ⟨t173, A290, H⟩ := H
                  replace H : (if t173 = true then ((storagebarterref15_parts.f k a0_0 a0_1 a0_2 a0_3 a0_4 a0_5 a0_6 a0_7 a0_8 a0_9 a0_10).bind fun t174 => (some t174)) else (some false)) = some r := H
                  have A29 := Aside0.mk A290
                  clear A290
                  by_cases c30 : t173 = true
                  · subst c30
                    have H1 : ((storagebarterref15_parts.f k a0_0 a0_1 a0_2 a0_3 a0_4 a0_5 a0_6 a0_7 a0_8 a0_9 a0_10).bind fun t174 => (some t174)) = some r := by rw [if_pos rfl] at H; exact H
                    clear H
                    have H := H1
                    clear H1
                    replace H := Option.bind_eq_some_iff.mp H
                    obtain ⟨t174, A310, H⟩ := H
                    replace H : (some t174) = some r := H
                    have A31 := Aside0.mk A310
                    clear A310
                    obtain rfl := Option.some.inj H
                    go_enter Tryd.func34, Tryd.ntmps34
                    go_wp2_with (first | ((with_reducible refine gate_dst (N := 1) rfl ?_); refine box_event ?hg (N := 1) ?hd (cs := #[.int .i64 a0_0, .int .i64 a0_1, .int .i64 a0_2, .int .i64 a0_3, .int .i64 a0_4, .int .i64 a0_5, .int .i64 a0_6, .int .i64 a0_7, .int .i64 a0_8, .int .i64 a0_9, .int .i64 a0_10]) (t := 39) ?hr ?_; (case hd => rfl); (case hg => rfl); (case hr => first | (go_simp; done) | (go_simp; rfl)); intro gb164 hg w32 hbox hb; have n0_ := Aside0.mk (below_step (by repeat (first | (with_reducible first | exact HB.out | apply below_alloc | apply pw_below_drewN | apply below_drew1) | exact HB.out)) hb); have n1_ := Aside0.mk (hbox); have n2_ := Aside0.mk ((by rw [hg]; exact (below_size (by repeat (first | (with_reducible first | exact HB.out | apply below_alloc | apply pw_below_drewN | apply below_drew1) | exact HB.out))) : w.heap.size ≤ gb164)); have n3_ := Aside0.mk ((by rw [hg]; exact (below_size (by repeat (first | (with_reducible first | exact HB.out | apply below_alloc | apply pw_below_drewN | apply below_drew1) | exact HB.out))) : w.heap.size ≤ gb164)); clear HB; have HB := n0_; have BK164 := n1_; have GW164 := n2_; have GE164 := n3_; clear n0_ n1_ n2_ n3_; clear hb hbox hg; have hcz33_0 : w32.cell? ⟨gb164, 0, none⟩ = some (.int .i64 a0_0) := (blk_cell BK164.out 0).trans rfl; have hcz33_1 : w32.cell? ⟨gb164, 1, none⟩ = some (.int .i64 a0_1) := (blk_cell BK164.out 1).trans rfl; have hcz33_2 : w32.cell? ⟨gb164, 2, none⟩ = some (.int .i64 a0_2) := (blk_cell BK164.out 2).trans rfl; have hcz33_3 : w32.cell? ⟨gb164, 3, none⟩ = some (.int .i64 a0_3) := (blk_cell BK164.out 3).trans rfl; have hcz33_4 : w32.cell? ⟨gb164, 4, none⟩ = some (.int .i64 a0_4) := (blk_cell BK164.out 4).trans rfl; have hcz33_5 : w32.cell? ⟨gb164, 5, none⟩ = some (.int .i64 a0_5) := (blk_cell BK164.out 5).trans rfl; have hcz33_6 : w32.cell? ⟨gb164, 6, none⟩ = some (.int .i64 a0_6) := (blk_cell BK164.out 6).trans rfl; have hcz33_7 : w32.cell? ⟨gb164, 7, none⟩ = some (.int .i64 a0_7) := (blk_cell BK164.out 7).trans rfl; have hcz33_8 : w32.cell? ⟨gb164, 8, none⟩ = some (.int .i64 a0_8) := (blk_cell BK164.out 8).trans rfl; have hcz33_9 : w32.cell? ⟨gb164, 9, none⟩ = some (.int .i64 a0_9) := (blk_cell BK164.out 9).trans rfl; have hcz33_10 : w32.cell? ⟨gb164, 10, none⟩ = some (.int .i64 a0_10) := (blk_cell BK164.out 10).trans rfl; have hfz33_0 := blk_frozen BK164.out 0; have hfz33_1 := blk_frozen BK164.out 1; have hfz33_2 := blk_frozen BK164.out 2; have hfz33_3 := blk_frozen BK164.out 3; have hfz33_4 := blk_frozen BK164.out 4; have hfz33_5 := blk_frozen BK164.out 5; have hfz33_6 := blk_frozen BK164.out 6; have hfz33_7 := blk_frozen BK164.out 7; have hfz33_8 := blk_frozen BK164.out 8; have hfz33_9 := blk_frozen BK164.out 9; have hfz33_10 := blk_frozen BK164.out 10) | ((with_reducible refine gate_callee (f := 30) rfl ?_); refine goesL_ (some 5) rfl rfl Tryd.func30 (by kernel_rfl) rfl #[.int .i64 a0_0, .int .i64 1, .int .i64 2147483646] rfl (by (try simp only [List.map_toArray, List.map_cons, List.map_nil]); first | done | rfl | (simp only [List.length_drop, List.length_take]; rfl)) ?_; (with_reducible refine (storagebarterref15_in.calls a0_0 1 2147483646 true _ A2.out).mono ?_); rintro e w' ⟨rfl, ⟨nd, rfl⟩⟩; refine ⟨_, rfl, ?_⟩) | (go_at_call 30; (with_reducible refine (storagebarterref15_in.calls a0_1 1 2147483646 true _ A4.out).mono ?_); rintro e w' ⟨rfl, ⟨nd, rfl⟩⟩) | (go_at_call 30; (with_reducible refine (storagebarterref15_in.calls a0_2 1 256 true _ A9.out).mono ?_); rintro e w' ⟨rfl, ⟨nd, rfl⟩⟩) | (go_at_call 30; (with_reducible refine (storagebarterref15_in.calls a0_3 0 2147483646 true _ A11.out).mono ?_); rintro e w' ⟨rfl, ⟨nd, rfl⟩⟩) | (go_at_call 30; (with_reducible refine (storagebarterref15_in.calls a0_4 0 1048576 true _ A27.out).mono ?_); rintro e w' ⟨rfl, ⟨nd, rfl⟩⟩) | (go_at_call 30; (with_reducible refine (storagebarterref15_in.calls a0_10 0 2147483646 true _ A29.out).mono ?_); rintro e w' ⟨rfl, ⟨nd, rfl⟩⟩) | (go_at_call 47; (with_reducible refine (storagebarterref15_parts.calls k a0_0 a0_1 a0_2 a0_3 a0_4 a0_5 a0_6 a0_7 a0_8 a0_9 a0_10 t174 _ A31.out).mono ?_); rintro e w34 ⟨rfl, hb⟩; have n0_ := Aside0.mk (blk_below (g := gb164) (o := .cells #[.int .i64 a0_0, .int .i64 a0_1, .int .i64 a0_2, .int .i64 a0_3, .int .i64 a0_4, .int .i64 a0_5, .int .i64 a0_6, .int .i64 a0_7, .int .i64 a0_8, .int .i64 a0_9, .int .i64 a0_10] 39 (0, 0)) (by (with_reducible repeat (first | refine blk_drewN ?_ _ | refine blk_drew ?_ | refine blk_alloc ?_ _)); exact BK164.out) hb); have n1_ := Aside0.mk (below_step (by repeat (first | (with_reducible first | exact HB.out | apply below_alloc | apply pw_below_drewN | apply below_drew1 | refine below_set ?_ GE164.out) | exact HB.out)) hb); clear BK164; clear HB; have BK164 := n0_; have HB := n1_; clear n0_ n1_; (try clear hb); (try clear hb2); (try clear hk); (try clear hi)))
                    go_ret
                    exact ⟨by first | rfl | (simp [errW_none, errW_some] <;> rfl) | (simp [*, errW_none, errW_some] <;> rfl), by repeat (first | (with_reducible first | exact HB.out | apply below_alloc | apply pw_below_drewN | apply below_drew1 | refine below_set ?_ GE164.out) | exact HB.out)⟩
                  · replace c30 := Bool.eq_false_iff.mpr c30
                    subst c30
                    have H1 : (some false) = some r := by rw [if_neg (show ¬ (false = true) by decide)] at H; exact H
                    clear H
                    have H := H1
                    clear H1
                    obtain rfl := Option.some.inj H
                    go_enter Tryd.func34, Tryd.ntmps34
                    go_wp2_with (first | ((with_reducible refine gate_dst (N := 1) rfl ?_); refine box_event ?hg (N := 1) ?hd (cs := #[.int .i64 a0_0, .int .i64 a0_1, .int .i64 a0_2, .int .i64 a0_3, .int .i64 a0_4, .int .i64 a0_5, .int .i64 a0_6, .int .i64 a0_7, .int .i64 a0_8, .int .i64 a0_9, .int .i64 a0_10]) (t := 39) ?hr ?_; (case hd => rfl); (case hg => rfl); (case hr => first | (go_simp; done) | (go_simp; rfl)); intro gb164 hg w35 hbox hb; have n0_ := Aside0.mk (below_step (by repeat (first | (with_reducible first | exact HB.out | apply below_alloc | apply pw_below_drewN | apply below_drew1) | exact HB.out)) hb); have n1_ := Aside0.mk (hbox); have n2_ := Aside0.mk ((by rw [hg]; exact (below_size (by repeat (first | (with_reducible first | exact HB.out | apply below_alloc | apply pw_below_drewN | apply below_drew1) | exact HB.out))) : w.heap.size ≤ gb164)); have n3_ := Aside0.mk ((by rw [hg]; exact (below_size (by repeat (first | (with_reducible first | exact HB.out | apply below_alloc | apply pw_below_drewN | apply below_drew1) | exact HB.out))) : w.heap.size ≤ gb164)); clear HB; have HB := n0_; have BK164 := n1_; have GW164 := n2_; have GE164 := n3_; clear n0_ n1_ n2_ n3_; clear hb hbox hg; have hcz36_0 : w35.cell? ⟨gb164, 0, none⟩ = some (.int .i64 a0_0) := (blk_cell BK164.out 0).trans rfl; have hcz36_1 : w35.cell? ⟨gb164, 1, none⟩ = some (.int .i64 a0_1) := (blk_cell BK164.out 1).trans rfl; have hcz36_2 : w35.cell? ⟨gb164, 2, none⟩ = some (.int .i64 a0_2) := (blk_cell BK164.out 2).trans rfl; have hcz36_3 : w35.cell? ⟨gb164, 3, none⟩ = some (.int .i64 a0_3) := (blk_cell BK164.out 3).trans rfl; have hcz36_4 : w35.cell? ⟨gb164, 4, none⟩ = some (.int .i64 a0_4) := (blk_cell BK164.out 4).trans rfl; have hcz36_5 : w35.cell? ⟨gb164, 5, none⟩ = some (.int .i64 a0_5) := (blk_cell BK164.out 5).trans rfl; have hcz36_6 : w35.cell? ⟨gb164, 6, none⟩ = some (.int .i64 a0_6) := (blk_cell BK164.out 6).trans rfl; have hcz36_7 : w35.cell? ⟨gb164, 7, none⟩ = some (.int .i64 a0_7) := (blk_cell BK164.out 7).trans rfl; have hcz36_8 : w35.cell? ⟨gb164, 8, none⟩ = some (.int .i64 a0_8) := (blk_cell BK164.out 8).trans rfl; have hcz36_9 : w35.cell? ⟨gb164, 9, none⟩ = some (.int .i64 a0_9) := (blk_cell BK164.out 9).trans rfl; have hcz36_10 : w35.cell? ⟨gb164, 10, none⟩ = some (.int .i64 a0_10) := (blk_cell BK164.out 10).trans rfl; have hfz36_0 := blk_frozen BK164.out 0; have hfz36_1 := blk_frozen BK164.out 1; have hfz36_2 := blk_frozen BK164.out 2; have hfz36_3 := blk_frozen BK164.out 3; have hfz36_4 := blk_frozen BK164.out 4; have hfz36_5 := blk_frozen BK164.out 5; have hfz36_6 := blk_frozen BK164.out 6; have hfz36_7 := blk_frozen BK164.out 7; have hfz36_8 := blk_frozen BK164.out 8; have hfz36_9 := blk_frozen BK164.out 9; have hfz36_10 := blk_frozen BK164.out 10) | ((with_reducible refine gate_callee (f := 30) rfl ?_); refine goesL_ (some 5) rfl rfl Tryd.func30 (by kernel_rfl) rfl #[.int .i64 a0_0, .int .i64 1, .int .i64 2147483646] rfl (by (try simp only [List.map_toArray, List.map_cons, List.map_nil]); first | done | rfl | (simp only [List.length_drop, List.length_take]; rfl)) ?_; (with_reducible refine (storagebarterref15_in.calls a0_0 1 2147483646 true _ A2.out).mono ?_); rintro e w' ⟨rfl, ⟨nd, rfl⟩⟩; refine ⟨_, rfl, ?_⟩) | (go_at_call 30; (with_reducible refine (storagebarterref15_in.calls a0_1 1 2147483646 true _ A4.out).mono ?_); rintro e w' ⟨rfl, ⟨nd, rfl⟩⟩) | (go_at_call 30; (with_reducible refine (storagebarterref15_in.calls a0_2 1 256 true _ A9.out).mono ?_); rintro e w' ⟨rfl, ⟨nd, rfl⟩⟩) | (go_at_call 30; (with_reducible refine (storagebarterref15_in.calls a0_3 0 2147483646 true _ A11.out).mono ?_); rintro e w' ⟨rfl, ⟨nd, rfl⟩⟩) | (go_at_call 30; (with_reducible refine (storagebarterref15_in.calls a0_4 0 1048576 true _ A27.out).mono ?_); rintro e w' ⟨rfl, ⟨nd, rfl⟩⟩) | (go_at_call 30; (with_reducible refine (storagebarterref15_in.calls a0_10 0 2147483646 false _ A29.out).mono ?_); rintro e w' ⟨rfl, ⟨nd, rfl⟩⟩))
                    go_ret
                    exact ⟨by first | rfl | (simp [errW_none, errW_some] <;> rfl) | (simp [*, errW_none, errW_some] <;> rfl), by repeat (first | (with_reducible first | exact HB.out | apply below_alloc | apply pw_below_drewN | apply below_drew1 | refine below_set ?_ GE164.out) | exact HB.out)⟩
                · replace c28 := Bool.eq_false_iff.mpr c28
                  subst c28
                  have H1 : (some false) = some r := by rw [if_neg (show ¬ (false = true) by decide)] at H; exact H
                  clear H
                  have H := H1
                  clear H1
                  obtain rfl := Option.some.inj H
                  go_enter Tryd.func34, Tryd.ntmps34
                  go_wp2_with (first | ((with_reducible refine gate_dst (N := 1) rfl ?_); refine box_event ?hg (N := 1) ?hd (cs := #[.int .i64 a0_0, .int .i64 a0_1, .int .i64 a0_2, .int .i64 a0_3, .int .i64 a0_4, .int .i64 a0_5, .int .i64 a0_6, .int .i64 a0_7, .int .i64 a0_8, .int .i64 a0_9, .int .i64 a0_10]) (t := 39) ?hr ?_; (case hd => rfl); (case hg => rfl); (case hr => first | (go_simp; done) | (go_simp; rfl)); intro gb164 hg w37 hbox hb; have n0_ := Aside0.mk (below_step (by repeat (first | (with_reducible first | exact HB.out | apply below_alloc | apply pw_below_drewN | apply below_drew1) | exact HB.out)) hb); have n1_ := Aside0.mk (hbox); have n2_ := Aside0.mk ((by rw [hg]; exact (below_size (by repeat (first | (with_reducible first | exact HB.out | apply below_alloc | apply pw_below_drewN | apply below_drew1) | exact HB.out))) : w.heap.size ≤ gb164)); have n3_ := Aside0.mk ((by rw [hg]; exact (below_size (by repeat (first | (with_reducible first | exact HB.out | apply below_alloc | apply pw_below_drewN | apply below_drew1) | exact HB.out))) : w.heap.size ≤ gb164)); clear HB; have HB := n0_; have BK164 := n1_; have GW164 := n2_; have GE164 := n3_; clear n0_ n1_ n2_ n3_; clear hb hbox hg; have hcz38_0 : w37.cell? ⟨gb164, 0, none⟩ = some (.int .i64 a0_0) := (blk_cell BK164.out 0).trans rfl; have hcz38_1 : w37.cell? ⟨gb164, 1, none⟩ = some (.int .i64 a0_1) := (blk_cell BK164.out 1).trans rfl; have hcz38_2 : w37.cell? ⟨gb164, 2, none⟩ = some (.int .i64 a0_2) := (blk_cell BK164.out 2).trans rfl; have hcz38_3 : w37.cell? ⟨gb164, 3, none⟩ = some (.int .i64 a0_3) := (blk_cell BK164.out 3).trans rfl; have hcz38_4 : w37.cell? ⟨gb164, 4, none⟩ = some (.int .i64 a0_4) := (blk_cell BK164.out 4).trans rfl; have hcz38_5 : w37.cell? ⟨gb164, 5, none⟩ = some (.int .i64 a0_5) := (blk_cell BK164.out 5).trans rfl; have hcz38_6 : w37.cell? ⟨gb164, 6, none⟩ = some (.int .i64 a0_6) := (blk_cell BK164.out 6).trans rfl; have hcz38_7 : w37.cell? ⟨gb164, 7, none⟩ = some (.int .i64 a0_7) := (blk_cell BK164.out 7).trans rfl; have hcz38_8 : w37.cell? ⟨gb164, 8, none⟩ = some (.int .i64 a0_8) := (blk_cell BK164.out 8).trans rfl; have hcz38_9 : w37.cell? ⟨gb164, 9, none⟩ = some (.int .i64 a0_9) := (blk_cell BK164.out 9).trans rfl; have hcz38_10 : w37.cell? ⟨gb164, 10, none⟩ = some (.int .i64 a0_10) := (blk_cell BK164.out 10).trans rfl; have hfz38_0 := blk_frozen BK164.out 0; have hfz38_1 := blk_frozen BK164.out 1; have hfz38_2 := blk_frozen BK164.out 2; have hfz38_3 := blk_frozen BK164.out 3; have hfz38_4 := blk_frozen BK164.out 4; have hfz38_5 := blk_frozen BK164.out 5; have hfz38_6 := blk_frozen BK164.out 6; have hfz38_7 := blk_frozen BK164.out 7; have hfz38_8 := blk_frozen BK164.out 8; have hfz38_9 := blk_frozen BK164.out 9; have hfz38_10 := blk_frozen BK164.out 10) | ((with_reducible refine gate_callee (f := 30) rfl ?_); refine goesL_ (some 5) rfl rfl Tryd.func30 (by kernel_rfl) rfl #[.int .i64 a0_0, .int .i64 1, .int .i64 2147483646] rfl (by (try simp only [List.map_toArray, List.map_cons, List.map_nil]); first | done | rfl | (simp only [List.length_drop, List.length_take]; rfl)) ?_; (with_reducible refine (storagebarterref15_in.calls a0_0 1 2147483646 true _ A2.out).mono ?_); rintro e w' ⟨rfl, ⟨nd, rfl⟩⟩; refine ⟨_, rfl, ?_⟩) | (go_at_call 30; (with_reducible refine (storagebarterref15_in.calls a0_1 1 2147483646 true _ A4.out).mono ?_); rintro e w' ⟨rfl, ⟨nd, rfl⟩⟩) | (go_at_call 30; (with_reducible refine (storagebarterref15_in.calls a0_2 1 256 true _ A9.out).mono ?_); rintro e w' ⟨rfl, ⟨nd, rfl⟩⟩) | (go_at_call 30; (with_reducible refine (storagebarterref15_in.calls a0_3 0 2147483646 true _ A11.out).mono ?_); rintro e w' ⟨rfl, ⟨nd, rfl⟩⟩) | (go_at_call 30; (with_reducible refine (storagebarterref15_in.calls a0_4 0 1048576 false _ A27.out).mono ?_); rintro e w' ⟨rfl, ⟨nd, rfl⟩⟩))
                  go_ret
                  exact ⟨by first | rfl | (simp [errW_none, errW_some] <;> rfl) | (simp [*, errW_none, errW_some] <;> rfl), by repeat (first | (with_reducible first | exact HB.out | apply below_alloc | apply pw_below_drewN | apply below_drew1 | refine below_set ?_ GE164.out) | exact HB.out)⟩
              · rw [if_neg c26] at H
                have c26b0 : (a0_3 == 0) = false := beq_eq_false_iff_ne.mpr c26
                have c26b1 : (a0_3 != 0) = true := bne_iff_ne.mpr c26
                obtain rfl := Option.some.inj H
                go_enter Tryd.func34, Tryd.ntmps34
                go_wp2_with (first | ((with_reducible refine gate_dst (N := 1) rfl ?_); refine box_event ?hg (N := 1) ?hd (cs := #[.int .i64 a0_0, .int .i64 a0_1, .int .i64 a0_2, .int .i64 a0_3, .int .i64 a0_4, .int .i64 a0_5, .int .i64 a0_6, .int .i64 a0_7, .int .i64 a0_8, .int .i64 a0_9, .int .i64 a0_10]) (t := 39) ?hr ?_; (case hd => rfl); (case hg => rfl); (case hr => first | (go_simp; done) | (go_simp; rfl)); intro gb164 hg w39 hbox hb; have n0_ := Aside0.mk (below_step (by repeat (first | (with_reducible first | exact HB.out | apply below_alloc | apply pw_below_drewN | apply below_drew1) | exact HB.out)) hb); have n1_ := Aside0.mk (hbox); have n2_ := Aside0.mk ((by rw [hg]; exact (below_size (by repeat (first | (with_reducible first | exact HB.out | apply below_alloc | apply pw_below_drewN | apply below_drew1) | exact HB.out))) : w.heap.size ≤ gb164)); have n3_ := Aside0.mk ((by rw [hg]; exact (below_size (by repeat (first | (with_reducible first | exact HB.out | apply below_alloc | apply pw_below_drewN | apply below_drew1) | exact HB.out))) : w.heap.size ≤ gb164)); clear HB; have HB := n0_; have BK164 := n1_; have GW164 := n2_; have GE164 := n3_; clear n0_ n1_ n2_ n3_; clear hb hbox hg; have hcz40_0 : w39.cell? ⟨gb164, 0, none⟩ = some (.int .i64 a0_0) := (blk_cell BK164.out 0).trans rfl; have hcz40_1 : w39.cell? ⟨gb164, 1, none⟩ = some (.int .i64 a0_1) := (blk_cell BK164.out 1).trans rfl; have hcz40_2 : w39.cell? ⟨gb164, 2, none⟩ = some (.int .i64 a0_2) := (blk_cell BK164.out 2).trans rfl; have hcz40_3 : w39.cell? ⟨gb164, 3, none⟩ = some (.int .i64 a0_3) := (blk_cell BK164.out 3).trans rfl; have hcz40_4 : w39.cell? ⟨gb164, 4, none⟩ = some (.int .i64 a0_4) := (blk_cell BK164.out 4).trans rfl; have hcz40_5 : w39.cell? ⟨gb164, 5, none⟩ = some (.int .i64 a0_5) := (blk_cell BK164.out 5).trans rfl; have hcz40_6 : w39.cell? ⟨gb164, 6, none⟩ = some (.int .i64 a0_6) := (blk_cell BK164.out 6).trans rfl; have hcz40_7 : w39.cell? ⟨gb164, 7, none⟩ = some (.int .i64 a0_7) := (blk_cell BK164.out 7).trans rfl; have hcz40_8 : w39.cell? ⟨gb164, 8, none⟩ = some (.int .i64 a0_8) := (blk_cell BK164.out 8).trans rfl; have hcz40_9 : w39.cell? ⟨gb164, 9, none⟩ = some (.int .i64 a0_9) := (blk_cell BK164.out 9).trans rfl; have hcz40_10 : w39.cell? ⟨gb164, 10, none⟩ = some (.int .i64 a0_10) := (blk_cell BK164.out 10).trans rfl; have hfz40_0 := blk_frozen BK164.out 0; have hfz40_1 := blk_frozen BK164.out 1; have hfz40_2 := blk_frozen BK164.out 2; have hfz40_3 := blk_frozen BK164.out 3; have hfz40_4 := blk_frozen BK164.out 4; have hfz40_5 := blk_frozen BK164.out 5; have hfz40_6 := blk_frozen BK164.out 6; have hfz40_7 := blk_frozen BK164.out 7; have hfz40_8 := blk_frozen BK164.out 8; have hfz40_9 := blk_frozen BK164.out 9; have hfz40_10 := blk_frozen BK164.out 10) | ((with_reducible refine gate_callee (f := 30) rfl ?_); refine goesL_ (some 5) rfl rfl Tryd.func30 (by kernel_rfl) rfl #[.int .i64 a0_0, .int .i64 1, .int .i64 2147483646] rfl (by (try simp only [List.map_toArray, List.map_cons, List.map_nil]); first | done | rfl | (simp only [List.length_drop, List.length_take]; rfl)) ?_; (with_reducible refine (storagebarterref15_in.calls a0_0 1 2147483646 true _ A2.out).mono ?_); rintro e w' ⟨rfl, ⟨nd, rfl⟩⟩; refine ⟨_, rfl, ?_⟩) | (go_at_call 30; (with_reducible refine (storagebarterref15_in.calls a0_1 1 2147483646 true _ A4.out).mono ?_); rintro e w' ⟨rfl, ⟨nd, rfl⟩⟩) | (go_at_call 30; (with_reducible refine (storagebarterref15_in.calls a0_2 1 256 true _ A9.out).mono ?_); rintro e w' ⟨rfl, ⟨nd, rfl⟩⟩) | (go_at_call 30; (with_reducible refine (storagebarterref15_in.calls a0_3 0 2147483646 true _ A11.out).mono ?_); rintro e w' ⟨rfl, ⟨nd, rfl⟩⟩))
                go_ret
                exact ⟨by first | rfl | (simp [errW_none, errW_some] <;> rfl) | (simp [*, errW_none, errW_some] <;> rfl), by repeat (first | (with_reducible first | exact HB.out | apply below_alloc | apply pw_below_drewN | apply below_drew1 | refine below_set ?_ GE164.out) | exact HB.out)⟩
          · replace c12 := Bool.eq_false_iff.mpr c12
            subst c12
            have H1 : (some false) = some r := by rw [if_neg (show ¬ (false = true) by decide)] at H; exact H
            clear H
            have H := H1
            clear H1
            obtain rfl := Option.some.inj H
            go_enter Tryd.func34, Tryd.ntmps34
            go_wp2_with (first | ((with_reducible refine gate_dst (N := 1) rfl ?_); refine box_event ?hg (N := 1) ?hd (cs := #[.int .i64 a0_0, .int .i64 a0_1, .int .i64 a0_2, .int .i64 a0_3, .int .i64 a0_4, .int .i64 a0_5, .int .i64 a0_6, .int .i64 a0_7, .int .i64 a0_8, .int .i64 a0_9, .int .i64 a0_10]) (t := 39) ?hr ?_; (case hd => rfl); (case hg => rfl); (case hr => first | (go_simp; done) | (go_simp; rfl)); intro gb164 hg w41 hbox hb; have n0_ := Aside0.mk (below_step (by repeat (first | (with_reducible first | exact HB.out | apply below_alloc | apply pw_below_drewN | apply below_drew1) | exact HB.out)) hb); have n1_ := Aside0.mk (hbox); have n2_ := Aside0.mk ((by rw [hg]; exact (below_size (by repeat (first | (with_reducible first | exact HB.out | apply below_alloc | apply pw_below_drewN | apply below_drew1) | exact HB.out))) : w.heap.size ≤ gb164)); have n3_ := Aside0.mk ((by rw [hg]; exact (below_size (by repeat (first | (with_reducible first | exact HB.out | apply below_alloc | apply pw_below_drewN | apply below_drew1) | exact HB.out))) : w.heap.size ≤ gb164)); clear HB; have HB := n0_; have BK164 := n1_; have GW164 := n2_; have GE164 := n3_; clear n0_ n1_ n2_ n3_; clear hb hbox hg; have hcz42_0 : w41.cell? ⟨gb164, 0, none⟩ = some (.int .i64 a0_0) := (blk_cell BK164.out 0).trans rfl; have hcz42_1 : w41.cell? ⟨gb164, 1, none⟩ = some (.int .i64 a0_1) := (blk_cell BK164.out 1).trans rfl; have hcz42_2 : w41.cell? ⟨gb164, 2, none⟩ = some (.int .i64 a0_2) := (blk_cell BK164.out 2).trans rfl; have hcz42_3 : w41.cell? ⟨gb164, 3, none⟩ = some (.int .i64 a0_3) := (blk_cell BK164.out 3).trans rfl; have hcz42_4 : w41.cell? ⟨gb164, 4, none⟩ = some (.int .i64 a0_4) := (blk_cell BK164.out 4).trans rfl; have hcz42_5 : w41.cell? ⟨gb164, 5, none⟩ = some (.int .i64 a0_5) := (blk_cell BK164.out 5).trans rfl; have hcz42_6 : w41.cell? ⟨gb164, 6, none⟩ = some (.int .i64 a0_6) := (blk_cell BK164.out 6).trans rfl; have hcz42_7 : w41.cell? ⟨gb164, 7, none⟩ = some (.int .i64 a0_7) := (blk_cell BK164.out 7).trans rfl; have hcz42_8 : w41.cell? ⟨gb164, 8, none⟩ = some (.int .i64 a0_8) := (blk_cell BK164.out 8).trans rfl; have hcz42_9 : w41.cell? ⟨gb164, 9, none⟩ = some (.int .i64 a0_9) := (blk_cell BK164.out 9).trans rfl; have hcz42_10 : w41.cell? ⟨gb164, 10, none⟩ = some (.int .i64 a0_10) := (blk_cell BK164.out 10).trans rfl; have hfz42_0 := blk_frozen BK164.out 0; have hfz42_1 := blk_frozen BK164.out 1; have hfz42_2 := blk_frozen BK164.out 2; have hfz42_3 := blk_frozen BK164.out 3; have hfz42_4 := blk_frozen BK164.out 4; have hfz42_5 := blk_frozen BK164.out 5; have hfz42_6 := blk_frozen BK164.out 6; have hfz42_7 := blk_frozen BK164.out 7; have hfz42_8 := blk_frozen BK164.out 8; have hfz42_9 := blk_frozen BK164.out 9; have hfz42_10 := blk_frozen BK164.out 10) | ((with_reducible refine gate_callee (f := 30) rfl ?_); refine goesL_ (some 5) rfl rfl Tryd.func30 (by kernel_rfl) rfl #[.int .i64 a0_0, .int .i64 1, .int .i64 2147483646] rfl (by (try simp only [List.map_toArray, List.map_cons, List.map_nil]); first | done | rfl | (simp only [List.length_drop, List.length_take]; rfl)) ?_; (with_reducible refine (storagebarterref15_in.calls a0_0 1 2147483646 true _ A2.out).mono ?_); rintro e w' ⟨rfl, ⟨nd, rfl⟩⟩; refine ⟨_, rfl, ?_⟩) | (go_at_call 30; (with_reducible refine (storagebarterref15_in.calls a0_1 1 2147483646 true _ A4.out).mono ?_); rintro e w' ⟨rfl, ⟨nd, rfl⟩⟩) | (go_at_call 30; (with_reducible refine (storagebarterref15_in.calls a0_2 1 256 true _ A9.out).mono ?_); rintro e w' ⟨rfl, ⟨nd, rfl⟩⟩) | (go_at_call 30; (with_reducible refine (storagebarterref15_in.calls a0_3 0 2147483646 false _ A11.out).mono ?_); rintro e w' ⟨rfl, ⟨nd, rfl⟩⟩))
            go_ret
            exact ⟨by first | rfl | (simp [errW_none, errW_some] <;> rfl) | (simp [*, errW_none, errW_some] <;> rfl), by repeat (first | (with_reducible first | exact HB.out | apply below_alloc | apply pw_below_drewN | apply below_drew1 | refine below_set ?_ GE164.out) | exact HB.out)⟩
        · replace c10 := Bool.eq_false_iff.mpr c10
          subst c10
          have H1 : (some false) = some r := by rw [if_neg (show ¬ (false = true) by decide)] at H; exact H
          clear H
          have H := H1
          clear H1
          obtain rfl := Option.some.inj H
          go_enter Tryd.func34, Tryd.ntmps34
          go_wp2_with (first | ((with_reducible refine gate_dst (N := 1) rfl ?_); refine box_event ?hg (N := 1) ?hd (cs := #[.int .i64 a0_0, .int .i64 a0_1, .int .i64 a0_2, .int .i64 a0_3, .int .i64 a0_4, .int .i64 a0_5, .int .i64 a0_6, .int .i64 a0_7, .int .i64 a0_8, .int .i64 a0_9, .int .i64 a0_10]) (t := 39) ?hr ?_; (case hd => rfl); (case hg => rfl); (case hr => first | (go_simp; done) | (go_simp; rfl)); intro gb164 hg w43 hbox hb; have n0_ := Aside0.mk (below_step (by repeat (first | (with_reducible first | exact HB.out | apply below_alloc | apply pw_below_drewN | apply below_drew1) | exact HB.out)) hb); have n1_ := Aside0.mk (hbox); have n2_ := Aside0.mk ((by rw [hg]; exact (below_size (by repeat (first | (with_reducible first | exact HB.out | apply below_alloc | apply pw_below_drewN | apply below_drew1) | exact HB.out))) : w.heap.size ≤ gb164)); have n3_ := Aside0.mk ((by rw [hg]; exact (below_size (by repeat (first | (with_reducible first | exact HB.out | apply below_alloc | apply pw_below_drewN | apply below_drew1) | exact HB.out))) : w.heap.size ≤ gb164)); clear HB; have HB := n0_; have BK164 := n1_; have GW164 := n2_; have GE164 := n3_; clear n0_ n1_ n2_ n3_; clear hb hbox hg; have hcz44_0 : w43.cell? ⟨gb164, 0, none⟩ = some (.int .i64 a0_0) := (blk_cell BK164.out 0).trans rfl; have hcz44_1 : w43.cell? ⟨gb164, 1, none⟩ = some (.int .i64 a0_1) := (blk_cell BK164.out 1).trans rfl; have hcz44_2 : w43.cell? ⟨gb164, 2, none⟩ = some (.int .i64 a0_2) := (blk_cell BK164.out 2).trans rfl; have hcz44_3 : w43.cell? ⟨gb164, 3, none⟩ = some (.int .i64 a0_3) := (blk_cell BK164.out 3).trans rfl; have hcz44_4 : w43.cell? ⟨gb164, 4, none⟩ = some (.int .i64 a0_4) := (blk_cell BK164.out 4).trans rfl; have hcz44_5 : w43.cell? ⟨gb164, 5, none⟩ = some (.int .i64 a0_5) := (blk_cell BK164.out 5).trans rfl; have hcz44_6 : w43.cell? ⟨gb164, 6, none⟩ = some (.int .i64 a0_6) := (blk_cell BK164.out 6).trans rfl; have hcz44_7 : w43.cell? ⟨gb164, 7, none⟩ = some (.int .i64 a0_7) := (blk_cell BK164.out 7).trans rfl; have hcz44_8 : w43.cell? ⟨gb164, 8, none⟩ = some (.int .i64 a0_8) := (blk_cell BK164.out 8).trans rfl; have hcz44_9 : w43.cell? ⟨gb164, 9, none⟩ = some (.int .i64 a0_9) := (blk_cell BK164.out 9).trans rfl; have hcz44_10 : w43.cell? ⟨gb164, 10, none⟩ = some (.int .i64 a0_10) := (blk_cell BK164.out 10).trans rfl; have hfz44_0 := blk_frozen BK164.out 0; have hfz44_1 := blk_frozen BK164.out 1; have hfz44_2 := blk_frozen BK164.out 2; have hfz44_3 := blk_frozen BK164.out 3; have hfz44_4 := blk_frozen BK164.out 4; have hfz44_5 := blk_frozen BK164.out 5; have hfz44_6 := blk_frozen BK164.out 6; have hfz44_7 := blk_frozen BK164.out 7; have hfz44_8 := blk_frozen BK164.out 8; have hfz44_9 := blk_frozen BK164.out 9; have hfz44_10 := blk_frozen BK164.out 10) | ((with_reducible refine gate_callee (f := 30) rfl ?_); refine goesL_ (some 5) rfl rfl Tryd.func30 (by kernel_rfl) rfl #[.int .i64 a0_0, .int .i64 1, .int .i64 2147483646] rfl (by (try simp only [List.map_toArray, List.map_cons, List.map_nil]); first | done | rfl | (simp only [List.length_drop, List.length_take]; rfl)) ?_; (with_reducible refine (storagebarterref15_in.calls a0_0 1 2147483646 true _ A2.out).mono ?_); rintro e w' ⟨rfl, ⟨nd, rfl⟩⟩; refine ⟨_, rfl, ?_⟩) | (go_at_call 30; (with_reducible refine (storagebarterref15_in.calls a0_1 1 2147483646 true _ A4.out).mono ?_); rintro e w' ⟨rfl, ⟨nd, rfl⟩⟩) | (go_at_call 30; (with_reducible refine (storagebarterref15_in.calls a0_2 1 256 false _ A9.out).mono ?_); rintro e w' ⟨rfl, ⟨nd, rfl⟩⟩))
          go_ret
          exact ⟨by first | rfl | (simp [errW_none, errW_some] <;> rfl) | (simp [*, errW_none, errW_some] <;> rfl), by repeat (first | (with_reducible first | exact HB.out | apply below_alloc | apply pw_below_drewN | apply below_drew1 | refine below_set ?_ GE164.out) | exact HB.out)⟩
    · replace c5 := Bool.eq_false_iff.mpr c5
      subst c5
      have H1 : (some false) = some r := by rw [if_neg (show ¬ (false = true) by decide)] at H; exact H
      clear H
      have H := H1
      clear H1
      obtain rfl := Option.some.inj H
      go_enter Tryd.func34, Tryd.ntmps34
      go_wp2_with (first | ((with_reducible refine gate_dst (N := 1) rfl ?_); refine box_event ?hg (N := 1) ?hd (cs := #[.int .i64 a0_0, .int .i64 a0_1, .int .i64 a0_2, .int .i64 a0_3, .int .i64 a0_4, .int .i64 a0_5, .int .i64 a0_6, .int .i64 a0_7, .int .i64 a0_8, .int .i64 a0_9, .int .i64 a0_10]) (t := 39) ?hr ?_; (case hd => rfl); (case hg => rfl); (case hr => first | (go_simp; done) | (go_simp; rfl)); intro gb164 hg w45 hbox hb; have n0_ := Aside0.mk (below_step (by repeat (first | (with_reducible first | exact HB.out | apply below_alloc | apply pw_below_drewN | apply below_drew1) | exact HB.out)) hb); have n1_ := Aside0.mk (hbox); have n2_ := Aside0.mk ((by rw [hg]; exact (below_size (by repeat (first | (with_reducible first | exact HB.out | apply below_alloc | apply pw_below_drewN | apply below_drew1) | exact HB.out))) : w.heap.size ≤ gb164)); have n3_ := Aside0.mk ((by rw [hg]; exact (below_size (by repeat (first | (with_reducible first | exact HB.out | apply below_alloc | apply pw_below_drewN | apply below_drew1) | exact HB.out))) : w.heap.size ≤ gb164)); clear HB; have HB := n0_; have BK164 := n1_; have GW164 := n2_; have GE164 := n3_; clear n0_ n1_ n2_ n3_; clear hb hbox hg; have hcz46_0 : w45.cell? ⟨gb164, 0, none⟩ = some (.int .i64 a0_0) := (blk_cell BK164.out 0).trans rfl; have hcz46_1 : w45.cell? ⟨gb164, 1, none⟩ = some (.int .i64 a0_1) := (blk_cell BK164.out 1).trans rfl; have hcz46_2 : w45.cell? ⟨gb164, 2, none⟩ = some (.int .i64 a0_2) := (blk_cell BK164.out 2).trans rfl; have hcz46_3 : w45.cell? ⟨gb164, 3, none⟩ = some (.int .i64 a0_3) := (blk_cell BK164.out 3).trans rfl; have hcz46_4 : w45.cell? ⟨gb164, 4, none⟩ = some (.int .i64 a0_4) := (blk_cell BK164.out 4).trans rfl; have hcz46_5 : w45.cell? ⟨gb164, 5, none⟩ = some (.int .i64 a0_5) := (blk_cell BK164.out 5).trans rfl; have hcz46_6 : w45.cell? ⟨gb164, 6, none⟩ = some (.int .i64 a0_6) := (blk_cell BK164.out 6).trans rfl; have hcz46_7 : w45.cell? ⟨gb164, 7, none⟩ = some (.int .i64 a0_7) := (blk_cell BK164.out 7).trans rfl; have hcz46_8 : w45.cell? ⟨gb164, 8, none⟩ = some (.int .i64 a0_8) := (blk_cell BK164.out 8).trans rfl; have hcz46_9 : w45.cell? ⟨gb164, 9, none⟩ = some (.int .i64 a0_9) := (blk_cell BK164.out 9).trans rfl; have hcz46_10 : w45.cell? ⟨gb164, 10, none⟩ = some (.int .i64 a0_10) := (blk_cell BK164.out 10).trans rfl; have hfz46_0 := blk_frozen BK164.out 0; have hfz46_1 := blk_frozen BK164.out 1; have hfz46_2 := blk_frozen BK164.out 2; have hfz46_3 := blk_frozen BK164.out 3; have hfz46_4 := blk_frozen BK164.out 4; have hfz46_5 := blk_frozen BK164.out 5; have hfz46_6 := blk_frozen BK164.out 6; have hfz46_7 := blk_frozen BK164.out 7; have hfz46_8 := blk_frozen BK164.out 8; have hfz46_9 := blk_frozen BK164.out 9; have hfz46_10 := blk_frozen BK164.out 10) | ((with_reducible refine gate_callee (f := 30) rfl ?_); refine goesL_ (some 5) rfl rfl Tryd.func30 (by kernel_rfl) rfl #[.int .i64 a0_0, .int .i64 1, .int .i64 2147483646] rfl (by (try simp only [List.map_toArray, List.map_cons, List.map_nil]); first | done | rfl | (simp only [List.length_drop, List.length_take]; rfl)) ?_; (with_reducible refine (storagebarterref15_in.calls a0_0 1 2147483646 true _ A2.out).mono ?_); rintro e w' ⟨rfl, ⟨nd, rfl⟩⟩; refine ⟨_, rfl, ?_⟩) | (go_at_call 30; (with_reducible refine (storagebarterref15_in.calls a0_1 1 2147483646 false _ A4.out).mono ?_); rintro e w' ⟨rfl, ⟨nd, rfl⟩⟩))
      go_ret
      exact ⟨by first | rfl | (simp [errW_none, errW_some] <;> rfl) | (simp [*, errW_none, errW_some] <;> rfl), by repeat (first | (with_reducible first | exact HB.out | apply below_alloc | apply pw_below_drewN | apply below_drew1 | refine below_set ?_ GE164.out) | exact HB.out)⟩
  · replace c3 := Bool.eq_false_iff.mpr c3
    subst c3
    have H1 : (some false) = some r := by rw [if_neg (show ¬ (false = true) by decide)] at H; exact H
    clear H
    have H := H1
    clear H1
    obtain rfl := Option.some.inj H
    go_enter Tryd.func34, Tryd.ntmps34
    go_wp2_with (first | ((with_reducible refine gate_dst (N := 1) rfl ?_); refine box_event ?hg (N := 1) ?hd (cs := #[.int .i64 a0_0, .int .i64 a0_1, .int .i64 a0_2, .int .i64 a0_3, .int .i64 a0_4, .int .i64 a0_5, .int .i64 a0_6, .int .i64 a0_7, .int .i64 a0_8, .int .i64 a0_9, .int .i64 a0_10]) (t := 39) ?hr ?_; (case hd => rfl); (case hg => rfl); (case hr => first | (go_simp; done) | (go_simp; rfl)); intro gb164 hg w47 hbox hb; have n0_ := Aside0.mk (below_step (by repeat (first | (with_reducible first | exact HB.out | apply below_alloc | apply pw_below_drewN | apply below_drew1) | exact HB.out)) hb); have n1_ := Aside0.mk (hbox); have n2_ := Aside0.mk ((by rw [hg]; exact (below_size (by repeat (first | (with_reducible first | exact HB.out | apply below_alloc | apply pw_below_drewN | apply below_drew1) | exact HB.out))) : w.heap.size ≤ gb164)); have n3_ := Aside0.mk ((by rw [hg]; exact (below_size (by repeat (first | (with_reducible first | exact HB.out | apply below_alloc | apply pw_below_drewN | apply below_drew1) | exact HB.out))) : w.heap.size ≤ gb164)); clear HB; have HB := n0_; have BK164 := n1_; have GW164 := n2_; have GE164 := n3_; clear n0_ n1_ n2_ n3_; clear hb hbox hg; have hcz48_0 : w47.cell? ⟨gb164, 0, none⟩ = some (.int .i64 a0_0) := (blk_cell BK164.out 0).trans rfl; have hcz48_1 : w47.cell? ⟨gb164, 1, none⟩ = some (.int .i64 a0_1) := (blk_cell BK164.out 1).trans rfl; have hcz48_2 : w47.cell? ⟨gb164, 2, none⟩ = some (.int .i64 a0_2) := (blk_cell BK164.out 2).trans rfl; have hcz48_3 : w47.cell? ⟨gb164, 3, none⟩ = some (.int .i64 a0_3) := (blk_cell BK164.out 3).trans rfl; have hcz48_4 : w47.cell? ⟨gb164, 4, none⟩ = some (.int .i64 a0_4) := (blk_cell BK164.out 4).trans rfl; have hcz48_5 : w47.cell? ⟨gb164, 5, none⟩ = some (.int .i64 a0_5) := (blk_cell BK164.out 5).trans rfl; have hcz48_6 : w47.cell? ⟨gb164, 6, none⟩ = some (.int .i64 a0_6) := (blk_cell BK164.out 6).trans rfl; have hcz48_7 : w47.cell? ⟨gb164, 7, none⟩ = some (.int .i64 a0_7) := (blk_cell BK164.out 7).trans rfl; have hcz48_8 : w47.cell? ⟨gb164, 8, none⟩ = some (.int .i64 a0_8) := (blk_cell BK164.out 8).trans rfl; have hcz48_9 : w47.cell? ⟨gb164, 9, none⟩ = some (.int .i64 a0_9) := (blk_cell BK164.out 9).trans rfl; have hcz48_10 : w47.cell? ⟨gb164, 10, none⟩ = some (.int .i64 a0_10) := (blk_cell BK164.out 10).trans rfl; have hfz48_0 := blk_frozen BK164.out 0; have hfz48_1 := blk_frozen BK164.out 1; have hfz48_2 := blk_frozen BK164.out 2; have hfz48_3 := blk_frozen BK164.out 3; have hfz48_4 := blk_frozen BK164.out 4; have hfz48_5 := blk_frozen BK164.out 5; have hfz48_6 := blk_frozen BK164.out 6; have hfz48_7 := blk_frozen BK164.out 7; have hfz48_8 := blk_frozen BK164.out 8; have hfz48_9 := blk_frozen BK164.out 9; have hfz48_10 := blk_frozen BK164.out 10) | ((with_reducible refine gate_callee (f := 30) rfl ?_); refine goesL_ (some 5) rfl rfl Tryd.func30 (by kernel_rfl) rfl #[.int .i64 a0_0, .int .i64 1, .int .i64 2147483646] rfl (by (try simp only [List.map_toArray, List.map_cons, List.map_nil]); first | done | rfl | (simp only [List.length_drop, List.length_take]; rfl)) ?_; (with_reducible refine (storagebarterref15_in.calls a0_0 1 2147483646 false _ A2.out).mono ?_); rintro e w' ⟨rfl, ⟨nd, rfl⟩⟩; refine ⟨_, rfl, ?_⟩))
    go_ret
    exact ⟨by first | rfl | (simp [errW_none, errW_some] <;> rfl) | (simp [*, errW_none, errW_some] <;> rfl), by repeat (first | (with_reducible first | exact HB.out | apply below_alloc | apply pw_below_drewN | apply below_drew1 | refine below_set ?_ GE164.out) | exact HB.out)⟩
end Go.Proofs.YtcalkhlchjjalaaDoor.Q

namespace Go.Proofs.YtcalkhlchjjalaaDoor.Grv
open Go Go.RowKit Go.Proofs Go.Proofs.YtcalkhlchjjalaaDoor.Gm Go.Proofs.YtcalkhlchjjalaaDoor.Gdm Go.Proofs.YtcalkhlchjjalaaDoor.Gmr Go.Proofs.YtcalkhlchjjalaaDoor.Gsy Go.Proofs.YtcalkhlchjjalaaDoor.Gnx Go.Proofs.YtcalkhlchjjalaaDoor.Gck Go.Proofs.YtcalkhlchjjalaaDoor.Ggd Go.Proofs.YtcalkhlchjjalaaDoor.Q
set_option linter.unusedVariables false
theorem in_eq (a b c : Int) : storagebarterref15_in.f a b c = some (hold b c a) := by
  unfold storagebarterref15_in.f hold
  by_cases h : a ≥ b
  · rw [if_pos h, decide_eq_true (show b ≤ a from h), Bool.true_and]
  · rw [if_neg h, decide_eq_false (show ¬ b ≤ a from h), Bool.false_and]
def lockB (d : Int) : Bool := decide (1 ≤ d) && (decide (d % 3 = 1) && decide (d / 3 < 4294967294))
theorem lock_eq (d : Int) (h : I64 d) : storagebarterref15_lock.f d = some (lockB d) := by
  unfold storagebarterref15_lock.f lockB
  unfold I64 at h
  by_cases h1 : d ≥ 1
  · rw [if_pos h1, decide_eq_true (show 1 ≤ d from h1), Bool.true_and, Int.tmod_eq_emod_of_nonneg (by omega), Int.tdiv_eq_ediv_of_nonneg (by omega), w64 (by omega)]
    by_cases h2 : d % 3 = 1
    · rw [if_pos h2, decide_eq_true h2, Bool.true_and]
    · rw [if_neg h2, decide_eq_false h2, Bool.false_and]
  · rw [if_neg h1, decide_eq_false (show ¬ 1 ≤ d from h1), Bool.false_and]
theorem ite_b {α : Type} (F : Bool → α) (b x : Bool) : (if b = true then F x else F false) = F (b && x) := by cases b <;> rfl
theorem ite_p {α : Type} (F : Bool → α) (p : Prop) [Decidable p] (x : Bool) : (if p then F x else F false) = F (decide p && x) := by by_cases h : p <;> simp [h]
/-- What the reference asks of the numbers A to D. -/
def partB (kind tick a b c d : Int) : Bool :=
  let slot := hold 0 63 a
  let name := hold 0 2147483646 b && hold 1 1024 c
  let term := hold (tick + 1) (tick + 65536) d && decide (d ≤ 1048576)
  let none := decide (b = 0) && (c == 0)
  if kind = 1 then slot && (name && term)
  else if kind = 2 then slot && (none && term)
  else if kind = 3 ∨ kind = 5 then slot && (none && d == 0)
  else if kind = 4 then slot && (name && d == 0)
  else if kind = 6 then hold 0 2147483646 a && (hold 0 2147483646 b && (hold 0 256 c && d == 0))
  else if kind = 7 then hold 0 2147483646 a && (name && lockB d)
  else if kind = 8 then hold 0 2147483646 a && (hold 0 4294967293 b && (c == 0 && d == 0))
  else false
theorem j3_eq (k : Nat) (sl nm no : Bool) (kind : Int) (f0 f1 f2 f3 tick a b c d f10 : Int) (hd : I64 d) (h1 : kind ≠ 1) (h2 : kind ≠ 2) (x : Bool) (hx : x = decide (kind = 3 ∨ kind = 5)) :
    storagebarterref15_parts.j3 (k + 1) sl nm no kind x f0 f1 f2 f3 tick kind a b c d f10 = some (
      if kind = 3 ∨ kind = 5 then sl && (no && d == 0)
      else if kind = 4 then sl && (nm && d == 0)
      else if kind = 6 then hold 0 2147483646 a && (hold 0 2147483646 b && (hold 0 256 c && d == 0))
      else if kind = 7 then hold 0 2147483646 a && (nm && lockB d)
      else if kind = 8 then hold 0 2147483646 a && (hold 0 4294967293 b && (c == 0 && d == 0))
      else false) := by
  rw [storagebarterref15_parts.j3]
  simp only [in_eq, lock_eq d hd, Option.bind_some]
  subst hx
  by_cases h : kind = 3 ∨ kind = 5
  · rw [if_pos (decide_eq_true h), if_pos h]; cases sl <;> cases no <;> simp
  rw [if_neg (by rw [decide_eq_false h]; simp), if_neg h]
  by_cases h : kind = 4
  · rw [if_pos h, if_pos h]; cases sl <;> cases nm <;> simp
  rw [if_neg h, if_neg h]
  by_cases h : kind = 6
  · rw [if_pos h, if_pos h]; cases hold 0 2147483646 a <;> cases hold 0 2147483646 b <;> cases hold 0 256 c <;> simp
  rw [if_neg h, if_neg h]
  by_cases h : kind = 7
  · rw [if_pos h, if_pos h]; cases hold 0 2147483646 a <;> cases nm <;> simp
  rw [if_neg h, if_neg h]
  by_cases h : kind = 8
  · rw [if_pos h, if_pos h]
    by_cases hc : c = 0
    · cases hold 0 2147483646 a <;> cases hold 0 4294967293 b <;> simp [hc]
    · cases hold 0 2147483646 a <;> cases hold 0 4294967293 b <;> simp [hc]
  rw [if_neg h, if_neg h]
theorem parts_eq (k : Nat) (f0 f1 f2 f3 tick kind a b c d f10 : Int) (ht : 0 ≤ tick ∧ tick ≤ 1048576) (hd : I64 d) :
    storagebarterref15_parts.f (k + 4) f0 f1 f2 f3 tick kind a b c d f10 = some (partB kind tick a b c d) := by
  unfold storagebarterref15_parts.f
  simp only [in_eq, Option.bind_some]
  rw [ite_b (fun x => storagebarterref15_parts.j0 (k + 4) (hold 0 63 a) x f0 f1 f2 f3 tick kind a b c d f10)]
  rw [storagebarterref15_parts.j0]
  simp only [in_eq, Option.bind_some]
  rw [ite_b (fun x => storagebarterref15_parts.j1 (k + 3) (hold 0 63 a) (hold 0 2147483646 b && hold 1 1024 c) x f0 f1 f2 f3 tick kind a b c d f10), w64 (by omega), w64 (by omega)]
  rw [storagebarterref15_parts.j1]
  rw [ite_p (fun x => storagebarterref15_parts.j2 (k + 2) (hold 0 63 a) (hold 0 2147483646 b && hold 1 1024 c) (hold (tick + 1) (tick + 65536) d && decide (d ≤ 1048576)) x f0 f1 f2 f3 tick kind a b c d f10)]
  rw [storagebarterref15_parts.j2]
  unfold partB
  simp only
  generalize hold 0 63 a = sl
  generalize (hold 0 2147483646 b && hold 1 1024 c) = nm
  generalize (hold (tick + 1) (tick + 65536) d && decide (d ≤ 1048576)) = te
  generalize (decide (b = 0) && (c == 0)) = no
  by_cases h1 : kind = 1
  · rw [if_pos h1, if_pos h1]; cases sl <;> cases nm <;> simp
  rw [if_neg h1, if_neg h1]
  by_cases h2 : kind = 2
  · rw [if_pos h2, if_pos h2]; cases sl <;> cases no <;> simp
  rw [if_neg h2, if_neg h2]
  by_cases h3 : kind = 3
  · rw [if_pos h3, j3_eq _ _ _ _ _ _ _ _ _ _ _ _ _ _ _ hd h1 h2 _ (by simp [h3])]
  · rw [if_neg h3, j3_eq _ _ _ _ _ _ _ _ _ _ _ _ _ _ _ hd h1 h2 _ (by simp [h3]; exact Bool.beq_eq_decide_eq _ _)]
theorem partB_fits (kind tick a b c d : Int) (ht : 0 ≤ tick ∧ tick ≤ 1048576) (hd : I64 d) : partB kind tick a b c d = fitsB kind tick a b c d := by
  unfold I64 at hd
  by_cases hk : kind < 1 ∨ 9 ≤ kind
  · unfold partB fitsB
    rw [if_pos hk]
    simp only
    rw [if_neg (by omega), if_neg (by omega), if_neg (by omega), if_neg (by omega), if_neg (by omega), if_neg (by omega), if_neg (by omega)]
  obtain rfl | rfl | rfl | rfl | rfl | rfl | rfl | rfl : kind = 1 ∨ kind = 2 ∨ kind = 3 ∨ kind = 4 ∨ kind = 5 ∨ kind = 6 ∨ kind = 7 ∨ kind = 8 := by omega
  all_goals
    unfold partB fitsB
    rw [if_neg hk]
    simp only [show (1 : Int).toNat = 1 from rfl, show (2 : Int).toNat = 2 from rfl, show (3 : Int).toNat = 3 from rfl, show (4 : Int).toNat = 4 from rfl, show (5 : Int).toNat = 5 from rfl, show (6 : Int).toNat = 6 from rfl, show (7 : Int).toNat = 7 from rfl, show (8 : Int).toNat = 8 from rfl, fm]
    unfold tailB
    simp only [Int.reduceEq, if_false, if_true, or_false, or_true, Bool.false_eq_true]
  · by_cases h : d < 0 ∨ 1048576 < d
    · rw [if_pos h, Bool.eq_iff_iff]; simp [hold_iff]; omega
    · rw [if_neg h, Bool.eq_iff_iff]; simp [hold_iff]; omega
  · by_cases h : d < 0 ∨ 1048576 < d
    · rw [if_pos h, Bool.eq_iff_iff]; simp [hold_iff]; omega
    · rw [if_neg h, Bool.eq_iff_iff]; simp [hold_iff]; omega
  · rw [Bool.eq_iff_iff]; simp [hold_iff]; omega
  · rw [Bool.eq_iff_iff]; simp [hold_iff]; omega
  · rw [Bool.eq_iff_iff]; simp [hold_iff]; omega
  · rw [Bool.eq_iff_iff]; simp [hold_iff]; omega
  · unfold lockB
    by_cases h : d < 1 ∨ d % 3 ≠ 1
    · rw [if_pos h, Bool.eq_iff_iff]; simp [hold_iff]; omega
    · rw [if_neg h, Int.tdiv_eq_ediv_of_nonneg (by omega), w64 (by omega), Bool.eq_iff_iff]; simp [hold_iff]; omega
  · rw [Bool.eq_iff_iff]; simp [hold_iff]; omega
theorem rValid_eq (k : Nat) (f0 f1 f2 f3 f4 f5 f6 f7 f8 f9 f10 : Int) (h9 : I64 f9) : storagebarterref15_Valid.f (k + 4) f0 f1 f2 f3 f4 f5 f6 f7 f8 f9 f10 = some (vldB f0 f1 f2 f3 f4 f5 f6 f7 f8 f9 f10) := by
  unfold storagebarterref15_Valid.f vldB
  simp only [in_eq, Option.bind_some]
  cases h0 : hold 1 2147483646 f0
  · simp
  rw [if_pos rfl, Bool.true_and]
  cases h1 : hold 1 2147483646 f1
  · simp
  rw [if_pos rfl, Bool.true_and]
  by_cases h01 : f0 = f1
  · rw [if_pos h01, h01]; simp
  rw [if_neg h01, beq_eq_false_iff_ne.2 h01, Bool.not_false, Bool.true_and]
  cases h2 : hold 1 256 f2
  · rw [if_neg (by simp)]
    have : ¬ (1 ≤ f2 ∧ f2 ≤ 256) := fun z => by rw [hold_iff.2 z] at h2; cases h2
    by_cases g : 1 ≤ f2
    · rw [decide_eq_false (show ¬ f2 ≤ 256 from fun z => this ⟨g, z⟩)]; simp
    · rw [decide_eq_false g]; simp
  rw [if_pos rfl, decide_eq_true (hold_iff.1 h2).1, decide_eq_true (hold_iff.1 h2).2, Bool.true_and, Bool.true_and]
  cases h3 : hold 0 2147483646 f3
  · simp
  rw [if_pos rfl, Bool.true_and]
  have hbody : (if hold 0 1048576 f4 = true then (if hold 0 2147483646 f10 = true then (storagebarterref15_parts.f (k + 4) f0 f1 f2 f3 f4 f5 f6 f7 f8 f9 f10).bind fun t => some t else some false) else some false) = some (decide (0 ≤ f4) && (decide (f4 ≤ 1048576) && (hold 0 2147483646 f10 && fitsB f5 f4 f6 f7 f8 f9))) := by
    cases h4 : hold 0 1048576 f4
    · rw [if_neg (by simp)]
      have : ¬ (0 ≤ f4 ∧ f4 ≤ 1048576) := fun z => by rw [hold_iff.2 z] at h4; cases h4
      by_cases g : 0 ≤ f4
      · rw [decide_eq_false (show ¬ f4 ≤ 1048576 from fun z => this ⟨g, z⟩)]; simp
      · rw [decide_eq_false g]; simp
    rw [if_pos rfl, decide_eq_true (hold_iff.1 h4).1, decide_eq_true (hold_iff.1 h4).2, Bool.true_and, Bool.true_and]
    cases h10 : hold 0 2147483646 f10
    · simp
    rw [if_pos rfl, parts_eq k _ _ _ _ _ _ _ _ _ _ _ (hold_iff.1 h4) h9, Option.bind_some, partB_fits _ _ _ _ _ _ (hold_iff.1 h4) h9, Bool.true_and]
  by_cases g2 : f2 > 1
  · rw [if_pos g2, decide_eq_true (show 1 < f2 from g2), Bool.true_or, Bool.true_and]
    exact hbody
  · rw [if_neg g2, decide_eq_false (show ¬ 1 < f2 from g2), Bool.false_or]
    by_cases g3 : f3 = 0
    · rw [if_pos g3, g3]
      simp only [beq_self_eq_true, Bool.true_and]
      rw [g3] at hbody
      exact hbody
    · rw [if_neg g3, beq_eq_false_iff_ne.2 g3, Bool.false_and]
end Go.Proofs.YtcalkhlchjjalaaDoor.Grv

namespace Go.Proofs.YtcalkhlchjjalaaDoor.Grn
open Go Go.RowKit Go.Proofs Go.Proofs.YtcalkhlchjjalaaDoor.Gm Go.Proofs.YtcalkhlchjjalaaDoor.Gdm Go.Proofs.YtcalkhlchjjalaaDoor.Gmr Go.Proofs.YtcalkhlchjjalaaDoor.Gsg Go.Proofs.YtcalkhlchjjalaaDoor.Gsy Go.Proofs.YtcalkhlchjjalaaDoor.Gnx Go.Proofs.YtcalkhlchjjalaaDoor.Ggd Go.Proofs.YtcalkhlchjjalaaDoor.Grv Go.Proofs.YtcalkhlchjjalaaDoor.Grs Go.Proofs.YtcalkhlchjjalaaDoor.Q Go.Proofs.YtcalkhlchjjalaaDoor.Gput Go.Proofs.YtcalkhlchjjalaaDoorW.PrintWords Go.Proofs.YtcalkhlchjjalaaDoorW.PrintLast Go.Proofs.YtcalkhlchjjalaaDoorW.PrintMore
set_option linter.unusedVariables false
theorem in_x (l m n : Int) (b : Bool) (hb : hold l m n = b) (w : World) : Calls Tryd.prog 30 #[.int .i64 n, .int .i64 l, .int .i64 m] w fun e w' => e = .returned (.bool b) ∧ w' = w := by
  subst hb
  unfold hold
  by_cases h1 : l ≤ n
  · have d1 := decide_eq_true h1
    rw [d1, Bool.true_and]
    go_enter Tryd.func30, Tryd.ntmps30
    go_wp2
    go_ret
    exact ⟨rfl, rfl⟩
  · have d1 := decide_eq_false h1
    rw [d1, Bool.false_and]
    go_enter Tryd.func30, Tryd.ntmps30
    go_wp2
    go_ret
    exact ⟨rfl, rfl⟩
theorem rbytes_x (f0 f1 f2 f3 f4 f5 f6 f7 f8 f9 f10 : Int) (h : W64 ⟨f0, f1, f2, f3, f4, f5, f6, f7, f8, f9, f10⟩) (w : World) :
    Calls Tryd.prog 32 #[.agg #[.int .i64 f0, .int .i64 f1, .int .i64 f2, .int .i64 f3, .int .i64 f4, .int .i64 f5, .int .i64 f6, .int .i64 f7, .int .i64 f8, .int .i64 f9, .int .i64 f10]] w fun e w' => e = .returned (.string (B (bts ⟨f0, f1, f2, f3, f4, f5, f6, f7, f8, f9, f10⟩))) ∧ Below w.heap.size w w' :=
  storagebarterref15_Bytes.calls 22 f0 f1 f2 f3 f4 f5 f6 f7 f8 f9 f10 _ w (rBytes_eq ⟨f0, f1, f2, f3, f4, f5, f6, f7, f8, f9, f10⟩ h 22 (Nat.le_refl _))
theorem rsum_x (l : List UInt8) (hl : l.length ≤ 1000) (w : World) : Calls Tryd.prog 31 #[.string (B l)] w fun e w' => e = .returned (.int .i64 (dg 1 l)) ∧ Below w.heap.size w w' :=
  (storagebarterref02_Sum.calls 1001 (B l) _ w (rSum_eq l 1001 (by omega) (by omega))).mono fun e w' z => ⟨z.1, z.2.below⟩
theorem rsign_x (p : Int) (l : List UInt8) (hp : within p) (hl : l.length ≤ 1000) (w : World) : Calls Tryd.prog 33 #[.int .i64 p, .string (B l)] w fun e w' => e = .returned (.tuple #[.int .i64 (mk_ p l), .int .i64 0]) ∧ Below w.heap.size w w' :=
  storagebarterref14_Sign.calls 1020 p (B l) (mk_ p l) 0 w (by rw [rSign_eq p l 1020 (by omega) (by omega)]; unfold sg mk_; rw [if_pos hp])
theorem vld_mk_no {s : S39} (hv : ¬ vldS s = true) {m : Int} (hm : 0 ≤ m ∧ m < 2147483647) (h0 : s.f10 = 0 := by rfl) : vldB s.f0 s.f1 s.f2 s.f3 s.f4 s.f5 s.f6 s.f7 s.f8 s.f9 m = false := by
  rw [Bool.eq_false_iff]
  intro z
  have h1 := vldS_mark (s := { s with f10 := m }) z 0 (by omega)
  have h2 : ({ ({ s with f10 := m } : S39) with f10 := 0 } : S39) = s := by cases s; simp only at h0; subst h0; rfl
  rw [h2] at h1
  exact hv h1
theorem rvalid_x (f0 f1 f2 f3 f4 f5 f6 f7 f8 f9 f10 : Int) (w : World) (h9 : I64 f9) (r : Bool) (hr : vldB f0 f1 f2 f3 f4 f5 f6 f7 f8 f9 f10 = r) :
    Calls Tryd.prog 34 #[.agg #[.int .i64 f0, .int .i64 f1, .int .i64 f2, .int .i64 f3, .int .i64 f4, .int .i64 f5, .int .i64 f6, .int .i64 f7, .int .i64 f8, .int .i64 f9, .int .i64 f10]] w fun e w' => e = .returned (.bool r) ∧ Below w.heap.size w w' :=
  storagebarterref15_Valid.calls 4 f0 f1 f2 f3 f4 f5 f6 f7 f8 f9 f10 r w (hr ▸ rValid_eq 0 f0 f1 f2 f3 f4 f5 f6 f7 f8 f9 f10 h9)
set_option maxRecDepth 100000 in
set_option maxHeartbeats 8000000 in
theorem rnext_x (A0 : Option Addr) (c0 : Nat) (l0 : List S39) (p0 p1 dst tick kind a b c d : Int) (w : World) (hr0 : Kd.C k39 w A0 l0.length l0) (hc0 : l0.length ≤ c0)
    (hW : ∀ s ∈ l0, W64 s) (i0 : I64 p0) (i2 : I64 dst) (i3 : I64 tick) (i4 : I64 kind) (i5 : I64 a) (i6 : I64 b) (i7 : I64 c) (i8 : I64 d) (r : S39) (re : Int) (hr : nxt l0 p0 p1 dst tick kind a b c d = (r, re)) :
    Calls Tryd.prog 15 #[.slice A0 l0.length c0, .agg #[.int .i64 p0, .int .i64 p1], .int .i64 dst, .int .i64 tick, .int .i64 kind, .int .i64 a, .int .i64 b, .int .i64 c, .int .i64 d] w fun e w' =>
      e = .returned (.tuple #[.agg #[.int .i64 r.f0, .int .i64 r.f1, .int .i64 r.f2, .int .i64 r.f3, .int .i64 r.f4, .int .i64 r.f5, .int .i64 r.f6, .int .i64 r.f7, .int .i64 r.f8, .int .i64 r.f9, .int .i64 r.f10], .int .i64 re]) ∧ Below w.heap.size w w' := by
  have hu39 := Tryd.underlying39
  have hu25 := Tryd.underlying25
  have HR := Aside0.mk hr0
  have HW := Aside0.mk hW
  have HN := Lib.hid hr
  have HI := Aside0.mk (And.intro i0 (And.intro i2 (And.intro i3 (And.intro i4 (And.intro i5 (And.intro i6 (And.intro i7 i8)))))))
  clear hr0 hr hW i0 i2 i3 i4 i5 i6 i7 i8
  obtain ⟨b0, hb0⟩ : ∃ b, hold 1 2147483646 p0 = b := ⟨_, rfl⟩
  have H0 := Lib.hid hb0
  clear hb0
  cases b0 with
  | false =>
    obtain ⟨rfl, rfl⟩ : z39 = r ∧ 1 = re := by have h := HN.out; unfold nxt at h; rw [if_pos (.inl H0.out)] at h; exact Prod.mk.inj h
    go_enter Tryd.func15, Tryd.ntmps15
    go_wp2_with (first | (go_at_call 30; with_reducible refine (in_x 1 2147483646 p0 false H0.out _).mono ?_; rintro e w' ⟨rfl, rfl⟩))
    have HB := Aside0.mk (Below.refl w.heap.size w)
    refine bodyPost_ret (results_ct rfl _ _ (w.heap.size + 1) 39 #[.int .i64 0, .int .i64 0, .int .i64 0, .int .i64 0, .int .i64 0, .int .i64 0, .int .i64 0, .int .i64 0, .int .i64 0, .int .i64 0, .int .i64 0] (0, 0) _ rfl (by exact two_new w _ _ _ _) Tryd.underlying39 rfl (by kernel_rfl)) rfl ?_
    exact ⟨rfl, by (repeat (with_reducible first | exact HB.out | exact Below.refl _ _ | apply below_alloc | apply pw_below_drewN | apply below_drew1 | refine below_set ?_ (Nat.le_succ _) | refine below_set ?_ HZ.out))⟩
  | true =>
    obtain ⟨b1, hb1⟩ : ∃ b, hold 1 2147483646 p1 = b := ⟨_, rfl⟩
    have H1 := Lib.hid hb1
    clear hb1
    cases b1 with
    | false =>
      obtain ⟨rfl, rfl⟩ : z39 = r ∧ 1 = re := by have h := HN.out; unfold nxt at h; rw [if_pos (.inr H1.out)] at h; exact Prod.mk.inj h
      go_enter Tryd.func15, Tryd.ntmps15
      go_wp2_with (first | (go_at_call 30; with_reducible refine (in_x 1 2147483646 p0 true H0.out _).mono ?_; rintro e w' ⟨rfl, rfl⟩) | (go_at_call 30; with_reducible refine (in_x 1 2147483646 p1 false H1.out _).mono ?_; rintro e w' ⟨rfl, rfl⟩))
      have HB := Aside0.mk (Below.refl w.heap.size w)
      refine bodyPost_ret (results_ct rfl _ _ (w.heap.size + 1) 39 #[.int .i64 0, .int .i64 0, .int .i64 0, .int .i64 0, .int .i64 0, .int .i64 0, .int .i64 0, .int .i64 0, .int .i64 0, .int .i64 0, .int .i64 0] (0, 0) _ rfl (by exact two_new w _ _ _ _) Tryd.underlying39 rfl (by kernel_rfl)) rfl ?_
      exact ⟨rfl, by (repeat (with_reducible first | exact HB.out | exact Below.refl _ _ | apply below_alloc | apply pw_below_drewN | apply below_drew1 | refine below_set ?_ (Nat.le_succ _) | refine below_set ?_ HZ.out))⟩
    | true =>
      have HP : Aside0 (within p0 ∧ within p1) := ⟨⟨hold_within H0.out, hold_within H1.out⟩⟩
      by_cases hl : 256 ≤ l0.length
      case pos =>
        obtain ⟨rfl, rfl⟩ : z39 = r ∧ 4 = re := by have h := HN.out; unfold nxt at h; rw [H0.out, H1.out, if_neg (by simp), if_pos hl] at h; exact Prod.mk.inj h
        have g1 : decide (256 ≤ l0.length) = true := decide_eq_true hl
        have g2 : decide (256 ≤ (l0.length : Int)) = true := decide_eq_true (by omega)
        clear hl
        go_enter Tryd.func15, Tryd.ntmps15
        go_wp2_with (first | (go_at_call 30; with_reducible refine (in_x 1 2147483646 p0 true H0.out _).mono ?_; rintro e w' ⟨rfl, rfl⟩) | (go_at_call 30; with_reducible refine (in_x 1 2147483646 p1 true H1.out _).mono ?_; rintro e w' ⟨rfl, rfl⟩))
        have HB := Aside0.mk (Below.refl w.heap.size w)
        refine bodyPost_ret (results_ct rfl _ _ (w.heap.size + 1) 39 #[.int .i64 0, .int .i64 0, .int .i64 0, .int .i64 0, .int .i64 0, .int .i64 0, .int .i64 0, .int .i64 0, .int .i64 0, .int .i64 0, .int .i64 0] (0, 0) _ rfl (by exact two_new w _ _ _ _) Tryd.underlying39 rfl (by kernel_rfl)) rfl ?_
        exact ⟨rfl, by (repeat (with_reducible first | exact HB.out | exact Below.refl _ _ | apply below_alloc | apply pw_below_drewN | apply below_drew1 | refine below_set ?_ (Nat.le_succ _) | refine below_set ?_ HZ.out))⟩
      case neg =>
      have g1 : decide (256 ≤ l0.length) = false := decide_eq_false hl
      have g2 : decide (256 ≤ (l0.length : Int)) = false := decide_eq_false (by omega)
      have hlen : l0.length < 256 := by omega
      clear hl
      go_enter Tryd.func15, Tryd.ntmps15
      go_wp2_with (first | (go_at_call 30; with_reducible refine (in_x 1 2147483646 p0 true H0.out _).mono ?_; rintro e w' ⟨rfl, rfl⟩) | (go_at_call 30; with_reducible refine (in_x 1 2147483646 p1 true H1.out _).mono ?_; rintro e w' ⟨rfl, rfl⟩))
      clear H0 H1 g1 g2
      go_loopw [41] (fun s41 wr => ∃ k : Nat, k ≤ l0.length ∧ s41 = .int .i64 k ∧ Aside0 (∀ j : Nat, j < k → (rd_T39 l0 j).f0 = p0 ∧ (rd_T39 l0 j).f1 = dst) ∧ Aside0 (NxW w wr p0 p1)) (fun s41 _ => l0.length - (intOf s41).toNat)
      case atStart => exact ⟨0, Nat.zero_le _, rfl, ⟨fun j hj => absurd hj (Nat.not_lt_zero _)⟩, ⟨⟨by repeat (first | exact Below.refl _ _ | (with_reducible apply below_alloc)), blk_alloc (heap_alloc_new w _) _, two_new w _ _ _ _⟩⟩⟩
      case round =>
        obtain ⟨k, hk, rfl, HJ, HX⟩ := hrel
        have hv0 : wr.cell? ⟨w.heap.size, 0, none⟩ = some (.int .i64 p0) := (blk_cell HX.out.b10 0).trans rfl
        have hv1 : wr.cell? ⟨w.heap.size, 1, none⟩ = some (.int .i64 p1) := (blk_cell HX.out.b10 1).trans rfl
        have hz0 : w.heap.size < wr.heap.size := blk_lt HX.out.b10
        have hz1 : w.heap.size + 1 < wr.heap.size := blk_lt HX.out.b18
        have hf0 := blk_frozen HX.out.b18 0
        have hq0 : wr.cell? ⟨w.heap.size + 1, 0, none⟩ = some (.int .i64 0) := (blk_cell HX.out.b18 0).trans rfl
        have hf1 := blk_frozen HX.out.b18 1
        have hq1 : wr.cell? ⟨w.heap.size + 1, 1, none⟩ = some (.int .i64 0) := (blk_cell HX.out.b18 1).trans rfl
        have hf2 := blk_frozen HX.out.b18 2
        have hq2 : wr.cell? ⟨w.heap.size + 1, 2, none⟩ = some (.int .i64 0) := (blk_cell HX.out.b18 2).trans rfl
        have hf3 := blk_frozen HX.out.b18 3
        have hq3 : wr.cell? ⟨w.heap.size + 1, 3, none⟩ = some (.int .i64 0) := (blk_cell HX.out.b18 3).trans rfl
        have hf4 := blk_frozen HX.out.b18 4
        have hq4 : wr.cell? ⟨w.heap.size + 1, 4, none⟩ = some (.int .i64 0) := (blk_cell HX.out.b18 4).trans rfl
        have hf5 := blk_frozen HX.out.b18 5
        have hq5 : wr.cell? ⟨w.heap.size + 1, 5, none⟩ = some (.int .i64 0) := (blk_cell HX.out.b18 5).trans rfl
        have hf6 := blk_frozen HX.out.b18 6
        have hq6 : wr.cell? ⟨w.heap.size + 1, 6, none⟩ = some (.int .i64 0) := (blk_cell HX.out.b18 6).trans rfl
        have hf7 := blk_frozen HX.out.b18 7
        have hq7 : wr.cell? ⟨w.heap.size + 1, 7, none⟩ = some (.int .i64 0) := (blk_cell HX.out.b18 7).trans rfl
        have hf8 := blk_frozen HX.out.b18 8
        have hq8 : wr.cell? ⟨w.heap.size + 1, 8, none⟩ = some (.int .i64 0) := (blk_cell HX.out.b18 8).trans rfl
        have hf9 := blk_frozen HX.out.b18 9
        have hq9 : wr.cell? ⟨w.heap.size + 1, 9, none⟩ = some (.int .i64 0) := (blk_cell HX.out.b18 9).trans rfl
        have hf10 := blk_frozen HX.out.b18 10
        have hq10 : wr.cell? ⟨w.heap.size + 1, 10, none⟩ = some (.int .i64 0) := (blk_cell HX.out.b18 10).trans rfl
        by_cases hlt : k < l0.length
        case pos =>
          obtain ⟨ad, ead, hx0, hx1, hx2, hx3, hx4, hx5, hx6, hx7, hx8, hx9, hx10⟩ := at_T39 HR.out k (by omega) (by omega)
          cases ead
          replace hx0 := (HX.out.hb.cell (World.block_lt_of_cell? w _ hx0)).trans hx0
          replace hx1 := (HX.out.hb.cell (World.block_lt_of_cell? w _ hx1)).trans hx1
          replace hx2 := (HX.out.hb.cell (World.block_lt_of_cell? w _ hx2)).trans hx2
          replace hx3 := (HX.out.hb.cell (World.block_lt_of_cell? w _ hx3)).trans hx3
          replace hx4 := (HX.out.hb.cell (World.block_lt_of_cell? w _ hx4)).trans hx4
          replace hx5 := (HX.out.hb.cell (World.block_lt_of_cell? w _ hx5)).trans hx5
          replace hx6 := (HX.out.hb.cell (World.block_lt_of_cell? w _ hx6)).trans hx6
          replace hx7 := (HX.out.hb.cell (World.block_lt_of_cell? w _ hx7)).trans hx7
          replace hx8 := (HX.out.hb.cell (World.block_lt_of_cell? w _ hx8)).trans hx8
          replace hx9 := (HX.out.hb.cell (World.block_lt_of_cell? w _ hx9)).trans hx9
          replace hx10 := (HX.out.hb.cell (World.block_lt_of_cell? w _ hx10)).trans hx10
          simp only [Int.toNat_natCast] at hx0 hx1 hx2 hx3 hx4 hx5 hx6 hx7 hx8 hx9 hx10
          obtain ⟨e, he⟩ : ∃ e, e = rd_T39 l0 k := ⟨_, rfl⟩
          rw [← he] at hx0 hx1 hx2 hx3 hx4 hx5 hx6 hx7 hx8 hx9 hx10
          have HE := Lib.hid he
          clear he
          obtain ⟨y0, y1, y2, y3, y4, y5, y6, y7, y8, y9, y10⟩ := e
          simp only at hx0 hx1 hx2 hx3 hx4 hx5 hx6 hx7 hx8 hx9 hx10
          by_cases e0 : y0 = p0
          case neg =>
            obtain ⟨rfl, rfl⟩ : z39 = r ∧ 16 = re := by
              have h := HN.out
              unfold nxt at h
              have hbad : ∃ s ∈ l0, s.f0 ≠ p0 ∨ s.f1 ≠ dst := ⟨l0[k], List.getElem_mem hlt, by rw [← rd_get l0 k hlt, ← HE.out]; exact .inl e0⟩
              rw [if_neg (by rintro (z | z); exact absurd HP.out.1 (fun y => by unfold hold at z; unfold within at y; simp at z; omega); exact absurd HP.out.2 (fun y => by unfold hold at z; unfold within at y; simp at z; omega)), if_neg (by omega), if_pos hbad] at h
              exact Prod.mk.inj h
            have g0 : (y0 != p0) = true := bne_iff_ne.2 e0
            have g0' : (y0 == p0) = false := beq_eq_false_iff_ne.2 e0
            clear e0
            go_wp2
            have HB := Aside0.mk HX.out.hb
            refine bodyPost_ret (results_ct rfl _ _ (w.heap.size + 1) 39 #[.int .i64 0, .int .i64 0, .int .i64 0, .int .i64 0, .int .i64 0, .int .i64 0, .int .i64 0, .int .i64 0, .int .i64 0, .int .i64 0, .int .i64 0] (0, 0) _ rfl (by (with_reducible refine blk_alloc ?_ _); (with_reducible exact put11 _ _ _ _ _ _ _ _ _ _ _ _ _ _ _ _ _ _ _ _ _ _ HX.out.b18)) Tryd.underlying39 rfl (by kernel_rfl)) rfl ?_
            exact ⟨rfl, by (repeat (with_reducible first | exact HB.out | exact Below.refl _ _ | apply below_alloc | apply pw_below_drewN | apply below_drew1 | refine below_set ?_ (Nat.le_succ _) | refine below_set ?_ HZ.out))⟩
          case pos =>
          by_cases e1 : y1 = dst
          case neg =>
            obtain ⟨rfl, rfl⟩ : z39 = r ∧ 16 = re := by
              have h := HN.out
              unfold nxt at h
              have hbad : ∃ s ∈ l0, s.f0 ≠ p0 ∨ s.f1 ≠ dst := ⟨l0[k], List.getElem_mem hlt, by rw [← rd_get l0 k hlt, ← HE.out]; exact .inr e1⟩
              rw [if_neg (by rintro (z | z); exact absurd HP.out.1 (fun y => by unfold hold at z; unfold within at y; simp at z; omega); exact absurd HP.out.2 (fun y => by unfold hold at z; unfold within at y; simp at z; omega)), if_neg (by omega), if_pos hbad] at h
              exact Prod.mk.inj h
            have g0 : (y0 != p0) = false := bne_eq_false_iff_eq.2 e0
            have g0' : (y0 == p0) = true := beq_iff_eq.2 e0
            have g1 : (y1 != dst) = true := bne_iff_ne.2 e1
            have g1' : (y1 == dst) = false := beq_eq_false_iff_ne.2 e1
            clear e0 e1
            go_wp2
            have HB := Aside0.mk HX.out.hb
            refine bodyPost_ret (results_ct rfl _ _ (w.heap.size + 1) 39 #[.int .i64 0, .int .i64 0, .int .i64 0, .int .i64 0, .int .i64 0, .int .i64 0, .int .i64 0, .int .i64 0, .int .i64 0, .int .i64 0, .int .i64 0] (0, 0) _ rfl (by (with_reducible refine blk_alloc ?_ _); (with_reducible exact put11 _ _ _ _ _ _ _ _ _ _ _ _ _ _ _ _ _ _ _ _ _ _ HX.out.b18)) Tryd.underlying39 rfl (by kernel_rfl)) rfl ?_
            exact ⟨rfl, by (repeat (with_reducible first | exact HB.out | exact Below.refl _ _ | apply below_alloc | apply pw_below_drewN | apply below_drew1 | refine below_set ?_ (Nat.le_succ _) | refine below_set ?_ HZ.out))⟩
          case pos =>
          have J1 : Aside0 (∀ j : Nat, j < k + 1 → (rd_T39 l0 j).f0 = p0 ∧ (rd_T39 l0 j).f1 = dst) := ⟨fun j hj => by
            by_cases z : j = k
            · subst z; rw [← HE.out]; exact ⟨e0, e1⟩
            · exact HJ.out j (by omega)⟩
          have g0 : (y0 != p0) = false := bne_eq_false_iff_eq.2 e0
          have g0' : (y0 == p0) = true := beq_iff_eq.2 e0
          have g1 : (y1 != dst) = false := bne_eq_false_iff_eq.2 e1
          have g1' : (y1 == dst) = true := beq_iff_eq.2 e1
          clear e0 e1
          go_wp2
          go_roundw
          case rel => exact ⟨k + 1, by omega, by go_num, J1, ⟨HX.out.alloc _⟩⟩
          case measure => simp only [intOf]; omega
        case neg =>
        obtain rfl : k = l0.length := by omega
        have HL0 : Aside0 (∀ s ∈ l0, s.f0 = p0 ∧ s.f1 = dst) := ⟨fun s hs => by obtain ⟨j, hj, rfl⟩ := List.getElem_of_mem hs; rw [← rd_get l0 j hj]; exact HJ.out j hj⟩
        have HN2 : Hid ((match l0.getLast? with | none => fin p0 p1 dst ((l0.length : Int) + 1) 0 tick kind a b c d | some s => if tick < s.f4 then (z39, 22) else fin p0 p1 dst ((l0.length : Int) + 1) (dg 1 (bts s)) tick kind a b c d) = (r, re)) := Lib.hid (by
          have h := HN.out
          unfold nxt at h
          rw [if_neg (by rintro (z | z); exact absurd HP.out.1 (fun y => by unfold hold at z; unfold within at y; simp at z; omega); exact absurd HP.out.2 (fun y => by unfold hold at z; unfold within at y; simp at z; omega)), if_neg (by omega), if_neg (by rintro ⟨s, hs, z | z⟩; exact z (HL0.out s hs).1; exact z (HL0.out s hs).2)] at h
          exact h)
        clear HN HJ HL0
        have HS := Aside0.mk (heap_alloc_new wr (.cells #[.int .i64 p0, .int .i64 dst, .int .i64 ((l0.length : Int) + 1), .int .i64 0, .int .i64 tick, .int .i64 kind, .int .i64 a, .int .i64 b, .int .i64 c, .int .i64 d, .int .i64 0] 39))
        by_cases hz : l0.length = 0
        case pos =>
          have HF : Hid (fin p0 p1 dst ((l0.length : Int) + 1) 0 tick kind a b c d = (r, re)) := Lib.hid (by have h := HN2.out; rw [List.length_eq_zero_iff.1 hz] at h ⊢; exact h)
          have gz : decide (0 < l0.length) = false := decide_eq_false (by omega)
          have gz' : decide (0 < (l0.length : Int)) = false := decide_eq_false (by omega)
          clear hz HN2
          replace HX := Aside0.mk (HX.out.alloc (.cells #[.int .i64 p0, .int .i64 dst, .int .i64 ((l0.length : Int) + 1), .int .i64 0, .int .i64 tick, .int .i64 kind, .int .i64 a, .int .i64 b, .int .i64 c, .int .i64 d, .int .i64 0] 39))
          have HWS : Aside0 (W64 ⟨p0, dst, (l0.length : Int) + 1, 0, tick, kind, a, b, c, d, 0⟩) := ⟨by obtain ⟨i0, i2, i3, i4, i5, i6, i7, i8⟩ := HI.out; exact ⟨i0, i2, by show I64 ((l0.length : Int) + 1); unfold I64; omega, by show I64 0; unfold I64; omega, i3, i4, i5, i6, i7, i8, by show I64 0; unfold I64; omega⟩⟩
          have HSL : Aside0 ((bts ⟨p0, dst, (l0.length : Int) + 1, 0, tick, kind, a, b, c, d, 0⟩).length ≤ 1000) := ⟨Nat.le_trans (bts_len HWS.out) (by omega)⟩
          have HI9 : Aside0 (I64 d) := ⟨HI.out.2.2.2.2.2.2.2⟩
          go_upto_region 17 with (first | fail)
          go_cut [] (fun wx => Aside0 (NxW w wx p0 p1) ∧ Aside0 (wx.heap[wr.heap.size]? = some (.cells #[.int .i64 p0, .int .i64 dst, .int .i64 ((l0.length : Int) + 1), .int .i64 0, .int .i64 tick, .int .i64 kind, .int .i64 a, .int .i64 b, .int .i64 c, .int .i64 d, .int .i64 (mk_ p1 (bts ⟨p0, dst, (l0.length : Int) + 1, 0, tick, kind, a, b, c, d, 0⟩))] 39 (0, 0))))
          case first =>
            go_region_with (first | (go_at_call 32; with_reducible refine (rbytes_x p0 dst ((l0.length : Int) + 1) 0 tick kind a b c d 0 HWS.out _).mono ?_; rintro e w3 ⟨rfl, hb⟩; have hb_ := below_step (show Below (wr.alloc (.cells #[.int .i64 p0, .int .i64 dst, .int .i64 ((l0.length : Int) + 1), .int .i64 0, .int .i64 tick, .int .i64 kind, .int .i64 a, .int .i64 b, .int .i64 c, .int .i64 d, .int .i64 0] 39)).heap.size (wr.alloc (.cells #[.int .i64 p0, .int .i64 dst, .int .i64 ((l0.length : Int) + 1), .int .i64 0, .int .i64 tick, .int .i64 kind, .int .i64 a, .int .i64 b, .int .i64 c, .int .i64 d, .int .i64 0] 39)) _ from by (repeat (with_reducible first | exact Below.refl _ _ | apply below_alloc | apply pw_below_drewN | apply below_drew1))) hb; clear hb; have hb := hb_; clear hb_; have n1_ := Aside0.mk (HX.out.below hb); have n2_ := Aside0.mk (blk_below HS.out hb); clear HX HS; have HX := n1_; have HS := n2_; clear n1_ n2_ hb; have hv1_ : w3.cell? ⟨w.heap.size, 1, none⟩ = some (.int .i64 p1) := (blk_cell HX.out.b10 1).trans rfl; have hs0_ : w3.cell? ⟨wr.heap.size, 0, none⟩ = some _ := (blk_cell HS.out 0).trans rfl; have hs1_ : w3.cell? ⟨wr.heap.size, 1, none⟩ = some _ := (blk_cell HS.out 1).trans rfl; have hs2_ : w3.cell? ⟨wr.heap.size, 2, none⟩ = some _ := (blk_cell HS.out 2).trans rfl; have hs3_ : w3.cell? ⟨wr.heap.size, 3, none⟩ = some _ := (blk_cell HS.out 3).trans rfl; have hs4_ : w3.cell? ⟨wr.heap.size, 4, none⟩ = some _ := (blk_cell HS.out 4).trans rfl; have hs5_ : w3.cell? ⟨wr.heap.size, 5, none⟩ = some _ := (blk_cell HS.out 5).trans rfl; have hs6_ : w3.cell? ⟨wr.heap.size, 6, none⟩ = some _ := (blk_cell HS.out 6).trans rfl; have hs7_ : w3.cell? ⟨wr.heap.size, 7, none⟩ = some _ := (blk_cell HS.out 7).trans rfl; have hs8_ : w3.cell? ⟨wr.heap.size, 8, none⟩ = some _ := (blk_cell HS.out 8).trans rfl; have hs9_ : w3.cell? ⟨wr.heap.size, 9, none⟩ = some _ := (blk_cell HS.out 9).trans rfl; have hs10_ : w3.cell? ⟨wr.heap.size, 10, none⟩ = some _ := (blk_cell HS.out 10).trans rfl) | (go_at_call 33; with_reducible refine (rsign_x p1 _ HP.out.2 HSL.out _).mono ?_; rintro e w4 ⟨rfl, hb⟩; have hb_ := below_step (show Below w3.heap.size w3 _ from by (repeat (with_reducible first | exact Below.refl _ _ | apply below_alloc | apply pw_below_drewN | apply below_drew1))) hb; clear hb; have hb := hb_; clear hb_; have n1_ := Aside0.mk (HX.out.below hb); have n2_ := Aside0.mk (blk_below HS.out hb); clear HX HS; have HX := n1_; have HS := n2_; clear n1_ n2_ hb; have hv1_ : w4.cell? ⟨w.heap.size, 1, none⟩ = some (.int .i64 p1) := (blk_cell HX.out.b10 1).trans rfl; have hs0_ : w4.cell? ⟨wr.heap.size, 0, none⟩ = some _ := (blk_cell HS.out 0).trans rfl; have hs1_ : w4.cell? ⟨wr.heap.size, 1, none⟩ = some _ := (blk_cell HS.out 1).trans rfl; have hs2_ : w4.cell? ⟨wr.heap.size, 2, none⟩ = some _ := (blk_cell HS.out 2).trans rfl; have hs3_ : w4.cell? ⟨wr.heap.size, 3, none⟩ = some _ := (blk_cell HS.out 3).trans rfl; have hs4_ : w4.cell? ⟨wr.heap.size, 4, none⟩ = some _ := (blk_cell HS.out 4).trans rfl; have hs5_ : w4.cell? ⟨wr.heap.size, 5, none⟩ = some _ := (blk_cell HS.out 5).trans rfl; have hs6_ : w4.cell? ⟨wr.heap.size, 6, none⟩ = some _ := (blk_cell HS.out 6).trans rfl; have hs7_ : w4.cell? ⟨wr.heap.size, 7, none⟩ = some _ := (blk_cell HS.out 7).trans rfl; have hs8_ : w4.cell? ⟨wr.heap.size, 8, none⟩ = some _ := (blk_cell HS.out 8).trans rfl; have hs9_ : w4.cell? ⟨wr.heap.size, 9, none⟩ = some _ := (blk_cell HS.out 9).trans rfl; have hs10_ : w4.cell? ⟨wr.heap.size, 10, none⟩ = some _ := (blk_cell HS.out 10).trans rfl; have hzz_ := blk_lt HS.out; have hf10_ := blk_frozen HS.out 10))
            all_goals (go_wp2_with fail; go_meet; exact ⟨⟨HX.out.set hz1 _ _⟩, ⟨blk_put HS.out 10 _ rfl⟩⟩)
          case rest =>
          obtain ⟨HX, HS⟩ := hcut
          have hsc0_ : wc.cell? ⟨wr.heap.size, 0, none⟩ = some _ := (blk_cell HS.out 0).trans rfl
          have hsc1_ : wc.cell? ⟨wr.heap.size, 1, none⟩ = some _ := (blk_cell HS.out 1).trans rfl
          have hsc2_ : wc.cell? ⟨wr.heap.size, 2, none⟩ = some _ := (blk_cell HS.out 2).trans rfl
          have hsc3_ : wc.cell? ⟨wr.heap.size, 3, none⟩ = some _ := (blk_cell HS.out 3).trans rfl
          have hsc4_ : wc.cell? ⟨wr.heap.size, 4, none⟩ = some _ := (blk_cell HS.out 4).trans rfl
          have hsc5_ : wc.cell? ⟨wr.heap.size, 5, none⟩ = some _ := (blk_cell HS.out 5).trans rfl
          have hsc6_ : wc.cell? ⟨wr.heap.size, 6, none⟩ = some _ := (blk_cell HS.out 6).trans rfl
          have hsc7_ : wc.cell? ⟨wr.heap.size, 7, none⟩ = some _ := (blk_cell HS.out 7).trans rfl
          have hsc8_ : wc.cell? ⟨wr.heap.size, 8, none⟩ = some _ := (blk_cell HS.out 8).trans rfl
          have hsc9_ : wc.cell? ⟨wr.heap.size, 9, none⟩ = some _ := (blk_cell HS.out 9).trans rfl
          have hsc10_ : wc.cell? ⟨wr.heap.size, 10, none⟩ = some _ := (blk_cell HS.out 10).trans rfl
          have hzz := blk_lt HS.out
          have hzy := blk_lt HX.out.b18
          have HZ := Aside0.mk (Nat.le_of_lt hz0)
          by_cases hv : vldS ⟨p0, dst, (l0.length : Int) + 1, 0, tick, kind, a, b, c, d, 0⟩ = true
          case neg =>
            obtain ⟨rfl, rfl⟩ : z39 = r ∧ 2 = re := by have h := HF.out; unfold fin at h; rw [if_neg hv] at h; exact Prod.mk.inj h
            have HV : Hid (vldB p0 dst ((l0.length : Int) + 1) 0 tick kind a b c d (mk_ p1 (bts ⟨p0, dst, (l0.length : Int) + 1, 0, tick, kind, a, b, c, d, 0⟩)) = false) := Lib.hid (vld_mk_no hv (mk_range p1 _))
            clear hv
            go_wp2_with (first | (go_at_call 34; with_reducible refine (rvalid_x p0 dst ((l0.length : Int) + 1) 0 tick kind a b c d (mk_ p1 (bts ⟨p0, dst, (l0.length : Int) + 1, 0, tick, kind, a, b, c, d, 0⟩)) _ HI9.out false HV.out).mono ?_; rintro e w2 ⟨rfl, hb⟩; have n1_ := Aside0.mk (HX.out.below hb); have n2_ := Aside0.mk (blk_below HS.out hb); clear HX HS; have HX := n1_; have HS := n2_; clear n1_ n2_ hb; have hv1_ : w2.cell? ⟨w.heap.size, 1, none⟩ = some (.int .i64 p1) := (blk_cell HX.out.b10 1).trans rfl; have hq0_ : w2.cell? ⟨w.heap.size + 1, 0, none⟩ = some (.int .i64 0) := (blk_cell HX.out.b18 0).trans rfl; have hf0_ := blk_frozen HX.out.b18 0; have hq1_ : w2.cell? ⟨w.heap.size + 1, 1, none⟩ = some (.int .i64 0) := (blk_cell HX.out.b18 1).trans rfl; have hf1_ := blk_frozen HX.out.b18 1; have hq2_ : w2.cell? ⟨w.heap.size + 1, 2, none⟩ = some (.int .i64 0) := (blk_cell HX.out.b18 2).trans rfl; have hf2_ := blk_frozen HX.out.b18 2; have hq3_ : w2.cell? ⟨w.heap.size + 1, 3, none⟩ = some (.int .i64 0) := (blk_cell HX.out.b18 3).trans rfl; have hf3_ := blk_frozen HX.out.b18 3; have hq4_ : w2.cell? ⟨w.heap.size + 1, 4, none⟩ = some (.int .i64 0) := (blk_cell HX.out.b18 4).trans rfl; have hf4_ := blk_frozen HX.out.b18 4; have hq5_ : w2.cell? ⟨w.heap.size + 1, 5, none⟩ = some (.int .i64 0) := (blk_cell HX.out.b18 5).trans rfl; have hf5_ := blk_frozen HX.out.b18 5; have hq6_ : w2.cell? ⟨w.heap.size + 1, 6, none⟩ = some (.int .i64 0) := (blk_cell HX.out.b18 6).trans rfl; have hf6_ := blk_frozen HX.out.b18 6; have hq7_ : w2.cell? ⟨w.heap.size + 1, 7, none⟩ = some (.int .i64 0) := (blk_cell HX.out.b18 7).trans rfl; have hf7_ := blk_frozen HX.out.b18 7; have hq8_ : w2.cell? ⟨w.heap.size + 1, 8, none⟩ = some (.int .i64 0) := (blk_cell HX.out.b18 8).trans rfl; have hf8_ := blk_frozen HX.out.b18 8; have hq9_ : w2.cell? ⟨w.heap.size + 1, 9, none⟩ = some (.int .i64 0) := (blk_cell HX.out.b18 9).trans rfl; have hf9_ := blk_frozen HX.out.b18 9; have hq10_ : w2.cell? ⟨w.heap.size + 1, 10, none⟩ = some (.int .i64 0) := (blk_cell HX.out.b18 10).trans rfl; have hf10_ := blk_frozen HX.out.b18 10))
            have HB := Aside0.mk HX.out.hb
            refine bodyPost_ret (results_ct rfl _ _ (w.heap.size + 1) 39 #[.int .i64 0, .int .i64 0, .int .i64 0, .int .i64 0, .int .i64 0, .int .i64 0, .int .i64 0, .int .i64 0, .int .i64 0, .int .i64 0, .int .i64 0] (0, 0) _ rfl (by (with_reducible exact put11 _ _ _ _ _ _ _ _ _ _ _ _ _ _ _ _ _ _ _ _ _ _ HX.out.b18)) Tryd.underlying39 rfl (by kernel_rfl)) rfl ?_
            exact ⟨rfl, by (repeat (with_reducible first | exact HB.out | exact Below.refl _ _ | apply below_alloc | apply pw_below_drewN | apply below_drew1 | refine below_set ?_ (Nat.le_succ _) | refine below_set ?_ HZ.out))⟩
          case pos =>
            obtain ⟨hr_, hre_⟩ : (⟨p0, dst, (l0.length : Int) + 1, 0, tick, kind, a, b, c, d, mk_ p1 (bts ⟨p0, dst, (l0.length : Int) + 1, 0, tick, kind, a, b, c, d, 0⟩)⟩ : S39) = r ∧ 0 = re := by have h := HF.out; unfold fin at h; rw [if_pos hv] at h; exact Prod.mk.inj h
            subst hr_
            subst hre_
            have HV : Hid (vldB p0 dst ((l0.length : Int) + 1) 0 tick kind a b c d (mk_ p1 (bts ⟨p0, dst, (l0.length : Int) + 1, 0, tick, kind, a, b, c, d, 0⟩)) = true) := Lib.hid (vldS_mark hv _ (mk_range p1 _))
            clear hv
            go_wp2_with (first | (go_at_call 34; with_reducible refine (rvalid_x p0 dst ((l0.length : Int) + 1) 0 tick kind a b c d (mk_ p1 (bts ⟨p0, dst, (l0.length : Int) + 1, 0, tick, kind, a, b, c, d, 0⟩)) _ HI9.out true HV.out).mono ?_; rintro e w2 ⟨rfl, hb⟩; have n1_ := Aside0.mk (HX.out.below hb); have n2_ := Aside0.mk (blk_below HS.out hb); clear HX HS; have HX := n1_; have HS := n2_; clear n1_ n2_ hb; have hv1_ : w2.cell? ⟨w.heap.size, 1, none⟩ = some (.int .i64 p1) := (blk_cell HX.out.b10 1).trans rfl; have hq0_ : w2.cell? ⟨w.heap.size + 1, 0, none⟩ = some (.int .i64 0) := (blk_cell HX.out.b18 0).trans rfl; have hf0_ := blk_frozen HX.out.b18 0; have hq1_ : w2.cell? ⟨w.heap.size + 1, 1, none⟩ = some (.int .i64 0) := (blk_cell HX.out.b18 1).trans rfl; have hf1_ := blk_frozen HX.out.b18 1; have hq2_ : w2.cell? ⟨w.heap.size + 1, 2, none⟩ = some (.int .i64 0) := (blk_cell HX.out.b18 2).trans rfl; have hf2_ := blk_frozen HX.out.b18 2; have hq3_ : w2.cell? ⟨w.heap.size + 1, 3, none⟩ = some (.int .i64 0) := (blk_cell HX.out.b18 3).trans rfl; have hf3_ := blk_frozen HX.out.b18 3; have hq4_ : w2.cell? ⟨w.heap.size + 1, 4, none⟩ = some (.int .i64 0) := (blk_cell HX.out.b18 4).trans rfl; have hf4_ := blk_frozen HX.out.b18 4; have hq5_ : w2.cell? ⟨w.heap.size + 1, 5, none⟩ = some (.int .i64 0) := (blk_cell HX.out.b18 5).trans rfl; have hf5_ := blk_frozen HX.out.b18 5; have hq6_ : w2.cell? ⟨w.heap.size + 1, 6, none⟩ = some (.int .i64 0) := (blk_cell HX.out.b18 6).trans rfl; have hf6_ := blk_frozen HX.out.b18 6; have hq7_ : w2.cell? ⟨w.heap.size + 1, 7, none⟩ = some (.int .i64 0) := (blk_cell HX.out.b18 7).trans rfl; have hf7_ := blk_frozen HX.out.b18 7; have hq8_ : w2.cell? ⟨w.heap.size + 1, 8, none⟩ = some (.int .i64 0) := (blk_cell HX.out.b18 8).trans rfl; have hf8_ := blk_frozen HX.out.b18 8; have hq9_ : w2.cell? ⟨w.heap.size + 1, 9, none⟩ = some (.int .i64 0) := (blk_cell HX.out.b18 9).trans rfl; have hf9_ := blk_frozen HX.out.b18 9; have hq10_ : w2.cell? ⟨w.heap.size + 1, 10, none⟩ = some (.int .i64 0) := (blk_cell HX.out.b18 10).trans rfl; have hf10_ := blk_frozen HX.out.b18 10; have hs0_ : w2.cell? ⟨wr.heap.size, 0, none⟩ = some _ := (blk_cell HS.out 0).trans rfl; have hs1_ : w2.cell? ⟨wr.heap.size, 1, none⟩ = some _ := (blk_cell HS.out 1).trans rfl; have hs2_ : w2.cell? ⟨wr.heap.size, 2, none⟩ = some _ := (blk_cell HS.out 2).trans rfl; have hs3_ : w2.cell? ⟨wr.heap.size, 3, none⟩ = some _ := (blk_cell HS.out 3).trans rfl; have hs4_ : w2.cell? ⟨wr.heap.size, 4, none⟩ = some _ := (blk_cell HS.out 4).trans rfl; have hs5_ : w2.cell? ⟨wr.heap.size, 5, none⟩ = some _ := (blk_cell HS.out 5).trans rfl; have hs6_ : w2.cell? ⟨wr.heap.size, 6, none⟩ = some _ := (blk_cell HS.out 6).trans rfl; have hs7_ : w2.cell? ⟨wr.heap.size, 7, none⟩ = some _ := (blk_cell HS.out 7).trans rfl; have hs8_ : w2.cell? ⟨wr.heap.size, 8, none⟩ = some _ := (blk_cell HS.out 8).trans rfl; have hs9_ : w2.cell? ⟨wr.heap.size, 9, none⟩ = some _ := (blk_cell HS.out 9).trans rfl; have hs10_ : w2.cell? ⟨wr.heap.size, 10, none⟩ = some _ := (blk_cell HS.out 10).trans rfl; have hzy2_ := blk_lt HX.out.b18))
            have HB := Aside0.mk HX.out.hb
            refine bodyPost_ret (results_ct rfl _ _ (w.heap.size + 1) 39 #[.int .i64 p0, .int .i64 dst, .int .i64 ((l0.length : Int) + 1), .int .i64 0, .int .i64 tick, .int .i64 kind, .int .i64 a, .int .i64 b, .int .i64 c, .int .i64 d, .int .i64 (mk_ p1 (bts ⟨p0, dst, (l0.length : Int) + 1, 0, tick, kind, a, b, c, d, 0⟩))] (0, 0) _ rfl (by (with_reducible exact put11 _ _ _ _ _ _ _ _ _ _ _ _ _ _ _ _ _ _ _ _ _ _ HX.out.b18)) Tryd.underlying39 rfl (by kernel_rfl)) rfl ?_
            exact ⟨rfl, by (repeat (with_reducible first | exact HB.out | exact Below.refl _ _ | apply below_alloc | apply pw_below_drewN | apply below_drew1 | refine below_set ?_ (Nat.le_succ _) | refine below_set ?_ HZ.out))⟩
        case neg =>
        have gz : decide (0 < l0.length) = true := decide_eq_true (by omega)
        have gz' : decide (0 < (l0.length : Int)) = true := decide_eq_true (by omega)
        obtain ⟨m, hm⟩ : ∃ m : Nat, l0.length = m + 1 := ⟨l0.length - 1, by omega⟩
        have hm1 : ((l0.length : Int) - 1) = (m : Int) := by omega
        have hml : m < l0.length := by omega
        obtain ⟨ad, ead, hx0, hx1, hx2, hx3, hx4, hx5, hx6, hx7, hx8, hx9, hx10⟩ := at_T39 HR.out m (by omega) (by omega)
        cases ead
        replace hx0 := (HX.out.hb.cell (World.block_lt_of_cell? w _ hx0)).trans hx0
        replace hx1 := (HX.out.hb.cell (World.block_lt_of_cell? w _ hx1)).trans hx1
        replace hx2 := (HX.out.hb.cell (World.block_lt_of_cell? w _ hx2)).trans hx2
        replace hx3 := (HX.out.hb.cell (World.block_lt_of_cell? w _ hx3)).trans hx3
        replace hx4 := (HX.out.hb.cell (World.block_lt_of_cell? w _ hx4)).trans hx4
        replace hx5 := (HX.out.hb.cell (World.block_lt_of_cell? w _ hx5)).trans hx5
        replace hx6 := (HX.out.hb.cell (World.block_lt_of_cell? w _ hx6)).trans hx6
        replace hx7 := (HX.out.hb.cell (World.block_lt_of_cell? w _ hx7)).trans hx7
        replace hx8 := (HX.out.hb.cell (World.block_lt_of_cell? w _ hx8)).trans hx8
        replace hx9 := (HX.out.hb.cell (World.block_lt_of_cell? w _ hx9)).trans hx9
        replace hx10 := (HX.out.hb.cell (World.block_lt_of_cell? w _ hx10)).trans hx10
        simp only [Int.toNat_natCast] at hx0 hx1 hx2 hx3 hx4 hx5 hx6 hx7 hx8 hx9 hx10
        obtain ⟨e, he⟩ : ∃ e, e = rd_T39 l0 m := ⟨_, rfl⟩
        rw [← he] at hx0 hx1 hx2 hx3 hx4 hx5 hx6 hx7 hx8 hx9 hx10
        have heW : W64 e := by rw [he, rd_get l0 m hml]; exact HW.out _ (List.getElem_mem hml)
        have HN3 : Hid ((if tick < e.f4 then (z39, 22) else fin p0 p1 dst ((l0.length : Int) + 1) (dg 1 (bts e)) tick kind a b c d) = (r, re)) := Lib.hid (by
          have h := HN2.out
          rw [List.getLast?_eq_getElem?, show l0.length - 1 = m by omega, List.getElem?_eq_getElem hml, ← rd_get l0 m hml, ← he] at h
          exact h)
        have hadl := World.block_lt_of_cell? wr _ hx0
        have HEW := Aside0.mk heW
        have HM1 := Lib.hid hm1
        clear he heW hm HN2 hz hm1
        obtain ⟨y0, y1, y2, y3, y4, y5, y6, y7, y8, y9, y10⟩ := e
        simp only at hx0 hx1 hx2 hx3 hx4 hx5 hx6 hx7 hx8 hx9 hx10
        have hm2 : IntKind.i64.wrap ((l0.length : Int) - 1) = (m : Int) := by rw [HM1.out]; exact IntWalk.i64_in _ (by omega)
        have hm3 : wrap64 ((l0.length : Int) - 1) = (m : Int) := by rw [HM1.out]; exact w64 (by omega)
        have hm4 : (l0.length : Int) - 1 = (m : Int) := HM1.out
        have HZ := Aside0.mk (Nat.le_of_lt hz0)
        by_cases ht : tick < y4
        case pos =>
          obtain ⟨rfl, rfl⟩ : z39 = r ∧ 22 = re := by have h := HN3.out; rw [if_pos ht] at h; exact Prod.mk.inj h
          have ht1 : decide (tick < y4) = true := decide_eq_true ht
          clear ht
          go_wp2
          have HB := Aside0.mk HX.out.hb
          refine bodyPost_ret (results_ct rfl _ _ (w.heap.size + 1) 39 #[.int .i64 0, .int .i64 0, .int .i64 0, .int .i64 0, .int .i64 0, .int .i64 0, .int .i64 0, .int .i64 0, .int .i64 0, .int .i64 0, .int .i64 0] (0, 0) _ rfl (by (repeat (with_reducible refine blk_alloc ?_ _)); (with_reducible exact put11 _ _ _ _ _ _ _ _ _ _ _ _ _ _ _ _ _ _ _ _ _ _ (by (repeat (with_reducible refine blk_alloc ?_ _)); exact HX.out.b18))) Tryd.underlying39 rfl (by kernel_rfl)) rfl ?_
          exact ⟨rfl, by (repeat (with_reducible first | exact HB.out | exact Below.refl _ _ | apply below_alloc | apply pw_below_drewN | apply below_drew1 | refine below_set ?_ (Nat.le_succ _) | refine below_set ?_ HZ.out))⟩
        case neg =>
        have HF0 : Hid (fin p0 p1 dst ((l0.length : Int) + 1) (dg 1 (bts ⟨y0, y1, y2, y3, y4, y5, y6, y7, y8, y9, y10⟩)) tick kind a b c d = (r, re)) := Lib.hid (by have h := HN3.out; rw [if_neg ht] at h; exact h)
        have ht1 : decide (tick < y4) = false := decide_eq_false ht
        clear ht HN3
        obtain ⟨dgl, hdg⟩ : ∃ z, dg 1 (bts ⟨y0, y1, y2, y3, y4, y5, y6, y7, y8, y9, y10⟩) = z := ⟨_, rfl⟩
        have hdr : 0 ≤ dgl ∧ dgl < 2147483647 := by rw [← hdg]; exact dg_range _ 1 (by omega)
        have HF : Hid (fin p0 p1 dst ((l0.length : Int) + 1) dgl tick kind a b c d = (r, re)) := Lib.hid (by rw [← hdg]; exact HF0.out)
        have HDG := Lib.hid hdg
        have HDR := Aside0.mk hdr
        clear hdg hdr HF0
        replace HX := Aside0.mk ((HX.out.alloc (.cells #[.int .i64 p0, .int .i64 dst, .int .i64 ((l0.length : Int) + 1), .int .i64 0, .int .i64 tick, .int .i64 kind, .int .i64 a, .int .i64 b, .int .i64 c, .int .i64 d, .int .i64 0] 39)).alloc (.cells #[.int .i64 y0, .int .i64 y1, .int .i64 y2, .int .i64 y3, .int .i64 y4, .int .i64 y5, .int .i64 y6, .int .i64 y7, .int .i64 y8, .int .i64 y9, .int .i64 y10] 39))
        replace HS := Aside0.mk (blk_alloc HS.out (.cells #[.int .i64 y0, .int .i64 y1, .int .i64 y2, .int .i64 y3, .int .i64 y4, .int .i64 y5, .int .i64 y6, .int .i64 y7, .int .i64 y8, .int .i64 y9, .int .i64 y10] 39))
        go_upto_if 73 with fail
        go_cut [] (fun wx => Aside0 (NxW w wx p0 p1) ∧ Aside0 (wx.heap[wr.heap.size]? = some (.cells #[.int .i64 p0, .int .i64 dst, .int .i64 ((l0.length : Int) + 1), .int .i64 dgl, .int .i64 tick, .int .i64 kind, .int .i64 a, .int .i64 b, .int .i64 c, .int .i64 d, .int .i64 0] 39 (0, 0))))
        case first =>
          go_wp2_with (first | (go_at_call 32; with_reducible refine (rbytes_x y0 y1 y2 y3 y4 y5 y6 y7 y8 y9 y10 HEW.out _).mono ?_; rintro e w5 ⟨rfl, hb⟩; have n1_ := Aside0.mk (HX.out.below hb); have n2_ := Aside0.mk (blk_below HS.out hb); clear HX HS; have HX := n1_; have HS := n2_; clear n1_ n2_ hb) | (go_at_call 31; with_reducible refine (rsum_x _ (Nat.le_trans (bts_len HEW.out) (by omega)) _).mono ?_; rintro e w6 ⟨rfl, hb⟩; have n1_ := Aside0.mk (HX.out.below hb); have n2_ := Aside0.mk (blk_below HS.out hb); clear HX HS; have HX := n1_; have HS := n2_; clear n1_ n2_ hb; have hs0_ : w6.cell? ⟨wr.heap.size, 0, none⟩ = some _ := (blk_cell HS.out 0).trans rfl; have hs1_ : w6.cell? ⟨wr.heap.size, 1, none⟩ = some _ := (blk_cell HS.out 1).trans rfl; have hs2_ : w6.cell? ⟨wr.heap.size, 2, none⟩ = some _ := (blk_cell HS.out 2).trans rfl; have hs3_ : w6.cell? ⟨wr.heap.size, 3, none⟩ = some _ := (blk_cell HS.out 3).trans rfl; have hs4_ : w6.cell? ⟨wr.heap.size, 4, none⟩ = some _ := (blk_cell HS.out 4).trans rfl; have hs5_ : w6.cell? ⟨wr.heap.size, 5, none⟩ = some _ := (blk_cell HS.out 5).trans rfl; have hs6_ : w6.cell? ⟨wr.heap.size, 6, none⟩ = some _ := (blk_cell HS.out 6).trans rfl; have hs7_ : w6.cell? ⟨wr.heap.size, 7, none⟩ = some _ := (blk_cell HS.out 7).trans rfl; have hs8_ : w6.cell? ⟨wr.heap.size, 8, none⟩ = some _ := (blk_cell HS.out 8).trans rfl; have hs9_ : w6.cell? ⟨wr.heap.size, 9, none⟩ = some _ := (blk_cell HS.out 9).trans rfl; have hs10_ : w6.cell? ⟨wr.heap.size, 10, none⟩ = some _ := (blk_cell HS.out 10).trans rfl; have hzz := blk_lt HS.out; have hg3_ := blk_frozen HS.out 3; rw [HDG.out]))
          go_meet
          exact ⟨⟨HX.out.set hz1 _ _⟩, ⟨blk_put HS.out 3 _ rfl⟩⟩
        case rest =>
          obtain ⟨HX, HS⟩ := hcut
          have hs00_ : wc.cell? ⟨wr.heap.size, 0, none⟩ = some _ := (blk_cell HS.out 0).trans rfl
          have hs10_ : wc.cell? ⟨wr.heap.size, 1, none⟩ = some _ := (blk_cell HS.out 1).trans rfl
          have hs20_ : wc.cell? ⟨wr.heap.size, 2, none⟩ = some _ := (blk_cell HS.out 2).trans rfl
          have hs30_ : wc.cell? ⟨wr.heap.size, 3, none⟩ = some _ := (blk_cell HS.out 3).trans rfl
          have hs40_ : wc.cell? ⟨wr.heap.size, 4, none⟩ = some _ := (blk_cell HS.out 4).trans rfl
          have hs50_ : wc.cell? ⟨wr.heap.size, 5, none⟩ = some _ := (blk_cell HS.out 5).trans rfl
          have hs60_ : wc.cell? ⟨wr.heap.size, 6, none⟩ = some _ := (blk_cell HS.out 6).trans rfl
          have hs70_ : wc.cell? ⟨wr.heap.size, 7, none⟩ = some _ := (blk_cell HS.out 7).trans rfl
          have hs80_ : wc.cell? ⟨wr.heap.size, 8, none⟩ = some _ := (blk_cell HS.out 8).trans rfl
          have hs90_ : wc.cell? ⟨wr.heap.size, 9, none⟩ = some _ := (blk_cell HS.out 9).trans rfl
          have hs100_ : wc.cell? ⟨wr.heap.size, 10, none⟩ = some _ := (blk_cell HS.out 10).trans rfl
          have hv1c_ : wc.cell? ⟨w.heap.size, 1, none⟩ = some (.int .i64 p1) := (blk_cell HX.out.b10 1).trans rfl
          have hzzc := blk_lt HS.out
          have hf10c := blk_frozen HS.out 10
          have HWS : Aside0 (W64 ⟨p0, dst, (l0.length : Int) + 1, dgl, tick, kind, a, b, c, d, 0⟩) := ⟨by obtain ⟨i0, i2, i3, i4, i5, i6, i7, i8⟩ := HI.out; exact ⟨i0, i2, by show I64 ((l0.length : Int) + 1); unfold I64; omega, (by show I64 dgl; have := HDR.out; unfold I64; omega), i3, i4, i5, i6, i7, i8, by show I64 0; unfold I64; omega⟩⟩
          have HSL : Aside0 ((bts ⟨p0, dst, (l0.length : Int) + 1, dgl, tick, kind, a, b, c, d, 0⟩).length ≤ 1000) := ⟨Nat.le_trans (bts_len HWS.out) (by omega)⟩
          have HI9 : Aside0 (I64 d) := ⟨HI.out.2.2.2.2.2.2.2⟩
          go_upto_region 17 with (first | fail)
          go_cut [] (fun wx => Aside0 (NxW w wx p0 p1) ∧ Aside0 (wx.heap[wr.heap.size]? = some (.cells #[.int .i64 p0, .int .i64 dst, .int .i64 ((l0.length : Int) + 1), .int .i64 dgl, .int .i64 tick, .int .i64 kind, .int .i64 a, .int .i64 b, .int .i64 c, .int .i64 d, .int .i64 (mk_ p1 (bts ⟨p0, dst, (l0.length : Int) + 1, dgl, tick, kind, a, b, c, d, 0⟩))] 39 (0, 0))))
          case first =>
            go_region_with (first | (go_at_call 32; with_reducible refine (rbytes_x p0 dst ((l0.length : Int) + 1) dgl tick kind a b c d 0 HWS.out _).mono ?_; rintro e w3 ⟨rfl, hb⟩; have hb_ := below_step (show Below wc.heap.size wc _ from by (repeat (with_reducible first | exact Below.refl _ _ | apply below_alloc | apply pw_below_drewN | apply below_drew1))) hb; clear hb; have hb := hb_; clear hb_; have n1_ := Aside0.mk (HX.out.below hb); have n2_ := Aside0.mk (blk_below HS.out hb); clear HX HS; have HX := n1_; have HS := n2_; clear n1_ n2_ hb; have hv1_ : w3.cell? ⟨w.heap.size, 1, none⟩ = some (.int .i64 p1) := (blk_cell HX.out.b10 1).trans rfl; have hs0_ : w3.cell? ⟨wr.heap.size, 0, none⟩ = some _ := (blk_cell HS.out 0).trans rfl; have hs1_ : w3.cell? ⟨wr.heap.size, 1, none⟩ = some _ := (blk_cell HS.out 1).trans rfl; have hs2_ : w3.cell? ⟨wr.heap.size, 2, none⟩ = some _ := (blk_cell HS.out 2).trans rfl; have hs3_ : w3.cell? ⟨wr.heap.size, 3, none⟩ = some _ := (blk_cell HS.out 3).trans rfl; have hs4_ : w3.cell? ⟨wr.heap.size, 4, none⟩ = some _ := (blk_cell HS.out 4).trans rfl; have hs5_ : w3.cell? ⟨wr.heap.size, 5, none⟩ = some _ := (blk_cell HS.out 5).trans rfl; have hs6_ : w3.cell? ⟨wr.heap.size, 6, none⟩ = some _ := (blk_cell HS.out 6).trans rfl; have hs7_ : w3.cell? ⟨wr.heap.size, 7, none⟩ = some _ := (blk_cell HS.out 7).trans rfl; have hs8_ : w3.cell? ⟨wr.heap.size, 8, none⟩ = some _ := (blk_cell HS.out 8).trans rfl; have hs9_ : w3.cell? ⟨wr.heap.size, 9, none⟩ = some _ := (blk_cell HS.out 9).trans rfl; have hs10_ : w3.cell? ⟨wr.heap.size, 10, none⟩ = some _ := (blk_cell HS.out 10).trans rfl) | (go_at_call 33; with_reducible refine (rsign_x p1 _ HP.out.2 HSL.out _).mono ?_; rintro e w4 ⟨rfl, hb⟩; have hb_ := below_step (show Below w3.heap.size w3 _ from by (repeat (with_reducible first | exact Below.refl _ _ | apply below_alloc | apply pw_below_drewN | apply below_drew1))) hb; clear hb; have hb := hb_; clear hb_; have n1_ := Aside0.mk (HX.out.below hb); have n2_ := Aside0.mk (blk_below HS.out hb); clear HX HS; have HX := n1_; have HS := n2_; clear n1_ n2_ hb; have hv1_ : w4.cell? ⟨w.heap.size, 1, none⟩ = some (.int .i64 p1) := (blk_cell HX.out.b10 1).trans rfl; have hs0_ : w4.cell? ⟨wr.heap.size, 0, none⟩ = some _ := (blk_cell HS.out 0).trans rfl; have hs1_ : w4.cell? ⟨wr.heap.size, 1, none⟩ = some _ := (blk_cell HS.out 1).trans rfl; have hs2_ : w4.cell? ⟨wr.heap.size, 2, none⟩ = some _ := (blk_cell HS.out 2).trans rfl; have hs3_ : w4.cell? ⟨wr.heap.size, 3, none⟩ = some _ := (blk_cell HS.out 3).trans rfl; have hs4_ : w4.cell? ⟨wr.heap.size, 4, none⟩ = some _ := (blk_cell HS.out 4).trans rfl; have hs5_ : w4.cell? ⟨wr.heap.size, 5, none⟩ = some _ := (blk_cell HS.out 5).trans rfl; have hs6_ : w4.cell? ⟨wr.heap.size, 6, none⟩ = some _ := (blk_cell HS.out 6).trans rfl; have hs7_ : w4.cell? ⟨wr.heap.size, 7, none⟩ = some _ := (blk_cell HS.out 7).trans rfl; have hs8_ : w4.cell? ⟨wr.heap.size, 8, none⟩ = some _ := (blk_cell HS.out 8).trans rfl; have hs9_ : w4.cell? ⟨wr.heap.size, 9, none⟩ = some _ := (blk_cell HS.out 9).trans rfl; have hs10_ : w4.cell? ⟨wr.heap.size, 10, none⟩ = some _ := (blk_cell HS.out 10).trans rfl; have hzz_ := blk_lt HS.out; have hf10_ := blk_frozen HS.out 10))
            all_goals (go_wp2_with fail; go_meet; exact ⟨⟨HX.out.set hz1 _ _⟩, ⟨blk_put HS.out 10 _ rfl⟩⟩)
          case rest =>
          obtain ⟨HX, HS⟩ := hcut
          have hsc0_ : wc.cell? ⟨wr.heap.size, 0, none⟩ = some _ := (blk_cell HS.out 0).trans rfl
          have hsc1_ : wc.cell? ⟨wr.heap.size, 1, none⟩ = some _ := (blk_cell HS.out 1).trans rfl
          have hsc2_ : wc.cell? ⟨wr.heap.size, 2, none⟩ = some _ := (blk_cell HS.out 2).trans rfl
          have hsc3_ : wc.cell? ⟨wr.heap.size, 3, none⟩ = some _ := (blk_cell HS.out 3).trans rfl
          have hsc4_ : wc.cell? ⟨wr.heap.size, 4, none⟩ = some _ := (blk_cell HS.out 4).trans rfl
          have hsc5_ : wc.cell? ⟨wr.heap.size, 5, none⟩ = some _ := (blk_cell HS.out 5).trans rfl
          have hsc6_ : wc.cell? ⟨wr.heap.size, 6, none⟩ = some _ := (blk_cell HS.out 6).trans rfl
          have hsc7_ : wc.cell? ⟨wr.heap.size, 7, none⟩ = some _ := (blk_cell HS.out 7).trans rfl
          have hsc8_ : wc.cell? ⟨wr.heap.size, 8, none⟩ = some _ := (blk_cell HS.out 8).trans rfl
          have hsc9_ : wc.cell? ⟨wr.heap.size, 9, none⟩ = some _ := (blk_cell HS.out 9).trans rfl
          have hsc10_ : wc.cell? ⟨wr.heap.size, 10, none⟩ = some _ := (blk_cell HS.out 10).trans rfl
          have hzz := blk_lt HS.out
          have hzy := blk_lt HX.out.b18
          have HZ := Aside0.mk (Nat.le_of_lt hz0)
          by_cases hv : vldS ⟨p0, dst, (l0.length : Int) + 1, dgl, tick, kind, a, b, c, d, 0⟩ = true
          case neg =>
            obtain ⟨rfl, rfl⟩ : z39 = r ∧ 2 = re := by have h := HF.out; unfold fin at h; rw [if_neg hv] at h; exact Prod.mk.inj h
            have HV : Hid (vldB p0 dst ((l0.length : Int) + 1) dgl tick kind a b c d (mk_ p1 (bts ⟨p0, dst, (l0.length : Int) + 1, dgl, tick, kind, a, b, c, d, 0⟩)) = false) := Lib.hid (vld_mk_no hv (mk_range p1 _))
            clear hv
            go_wp2_with (first | (go_at_call 34; with_reducible refine (rvalid_x p0 dst ((l0.length : Int) + 1) dgl tick kind a b c d (mk_ p1 (bts ⟨p0, dst, (l0.length : Int) + 1, dgl, tick, kind, a, b, c, d, 0⟩)) _ HI9.out false HV.out).mono ?_; rintro e w2 ⟨rfl, hb⟩; have n1_ := Aside0.mk (HX.out.below hb); have n2_ := Aside0.mk (blk_below HS.out hb); clear HX HS; have HX := n1_; have HS := n2_; clear n1_ n2_ hb; have hv1_ : w2.cell? ⟨w.heap.size, 1, none⟩ = some (.int .i64 p1) := (blk_cell HX.out.b10 1).trans rfl; have hq0_ : w2.cell? ⟨w.heap.size + 1, 0, none⟩ = some (.int .i64 0) := (blk_cell HX.out.b18 0).trans rfl; have hf0_ := blk_frozen HX.out.b18 0; have hq1_ : w2.cell? ⟨w.heap.size + 1, 1, none⟩ = some (.int .i64 0) := (blk_cell HX.out.b18 1).trans rfl; have hf1_ := blk_frozen HX.out.b18 1; have hq2_ : w2.cell? ⟨w.heap.size + 1, 2, none⟩ = some (.int .i64 0) := (blk_cell HX.out.b18 2).trans rfl; have hf2_ := blk_frozen HX.out.b18 2; have hq3_ : w2.cell? ⟨w.heap.size + 1, 3, none⟩ = some (.int .i64 0) := (blk_cell HX.out.b18 3).trans rfl; have hf3_ := blk_frozen HX.out.b18 3; have hq4_ : w2.cell? ⟨w.heap.size + 1, 4, none⟩ = some (.int .i64 0) := (blk_cell HX.out.b18 4).trans rfl; have hf4_ := blk_frozen HX.out.b18 4; have hq5_ : w2.cell? ⟨w.heap.size + 1, 5, none⟩ = some (.int .i64 0) := (blk_cell HX.out.b18 5).trans rfl; have hf5_ := blk_frozen HX.out.b18 5; have hq6_ : w2.cell? ⟨w.heap.size + 1, 6, none⟩ = some (.int .i64 0) := (blk_cell HX.out.b18 6).trans rfl; have hf6_ := blk_frozen HX.out.b18 6; have hq7_ : w2.cell? ⟨w.heap.size + 1, 7, none⟩ = some (.int .i64 0) := (blk_cell HX.out.b18 7).trans rfl; have hf7_ := blk_frozen HX.out.b18 7; have hq8_ : w2.cell? ⟨w.heap.size + 1, 8, none⟩ = some (.int .i64 0) := (blk_cell HX.out.b18 8).trans rfl; have hf8_ := blk_frozen HX.out.b18 8; have hq9_ : w2.cell? ⟨w.heap.size + 1, 9, none⟩ = some (.int .i64 0) := (blk_cell HX.out.b18 9).trans rfl; have hf9_ := blk_frozen HX.out.b18 9; have hq10_ : w2.cell? ⟨w.heap.size + 1, 10, none⟩ = some (.int .i64 0) := (blk_cell HX.out.b18 10).trans rfl; have hf10_ := blk_frozen HX.out.b18 10))
            have HB := Aside0.mk HX.out.hb
            refine bodyPost_ret (results_ct rfl _ _ (w.heap.size + 1) 39 #[.int .i64 0, .int .i64 0, .int .i64 0, .int .i64 0, .int .i64 0, .int .i64 0, .int .i64 0, .int .i64 0, .int .i64 0, .int .i64 0, .int .i64 0] (0, 0) _ rfl (by (with_reducible exact put11 _ _ _ _ _ _ _ _ _ _ _ _ _ _ _ _ _ _ _ _ _ _ HX.out.b18)) Tryd.underlying39 rfl (by kernel_rfl)) rfl ?_
            exact ⟨rfl, by (repeat (with_reducible first | exact HB.out | exact Below.refl _ _ | apply below_alloc | apply pw_below_drewN | apply below_drew1 | refine below_set ?_ (Nat.le_succ _) | refine below_set ?_ HZ.out))⟩
          case pos =>
            obtain ⟨hr_, hre_⟩ : (⟨p0, dst, (l0.length : Int) + 1, dgl, tick, kind, a, b, c, d, mk_ p1 (bts ⟨p0, dst, (l0.length : Int) + 1, dgl, tick, kind, a, b, c, d, 0⟩)⟩ : S39) = r ∧ 0 = re := by have h := HF.out; unfold fin at h; rw [if_pos hv] at h; exact Prod.mk.inj h
            subst hr_
            subst hre_
            have HV : Hid (vldB p0 dst ((l0.length : Int) + 1) dgl tick kind a b c d (mk_ p1 (bts ⟨p0, dst, (l0.length : Int) + 1, dgl, tick, kind, a, b, c, d, 0⟩)) = true) := Lib.hid (vldS_mark hv _ (mk_range p1 _))
            clear hv
            go_wp2_with (first | (go_at_call 34; with_reducible refine (rvalid_x p0 dst ((l0.length : Int) + 1) dgl tick kind a b c d (mk_ p1 (bts ⟨p0, dst, (l0.length : Int) + 1, dgl, tick, kind, a, b, c, d, 0⟩)) _ HI9.out true HV.out).mono ?_; rintro e w2 ⟨rfl, hb⟩; have n1_ := Aside0.mk (HX.out.below hb); have n2_ := Aside0.mk (blk_below HS.out hb); clear HX HS; have HX := n1_; have HS := n2_; clear n1_ n2_ hb; have hv1_ : w2.cell? ⟨w.heap.size, 1, none⟩ = some (.int .i64 p1) := (blk_cell HX.out.b10 1).trans rfl; have hq0_ : w2.cell? ⟨w.heap.size + 1, 0, none⟩ = some (.int .i64 0) := (blk_cell HX.out.b18 0).trans rfl; have hf0_ := blk_frozen HX.out.b18 0; have hq1_ : w2.cell? ⟨w.heap.size + 1, 1, none⟩ = some (.int .i64 0) := (blk_cell HX.out.b18 1).trans rfl; have hf1_ := blk_frozen HX.out.b18 1; have hq2_ : w2.cell? ⟨w.heap.size + 1, 2, none⟩ = some (.int .i64 0) := (blk_cell HX.out.b18 2).trans rfl; have hf2_ := blk_frozen HX.out.b18 2; have hq3_ : w2.cell? ⟨w.heap.size + 1, 3, none⟩ = some (.int .i64 0) := (blk_cell HX.out.b18 3).trans rfl; have hf3_ := blk_frozen HX.out.b18 3; have hq4_ : w2.cell? ⟨w.heap.size + 1, 4, none⟩ = some (.int .i64 0) := (blk_cell HX.out.b18 4).trans rfl; have hf4_ := blk_frozen HX.out.b18 4; have hq5_ : w2.cell? ⟨w.heap.size + 1, 5, none⟩ = some (.int .i64 0) := (blk_cell HX.out.b18 5).trans rfl; have hf5_ := blk_frozen HX.out.b18 5; have hq6_ : w2.cell? ⟨w.heap.size + 1, 6, none⟩ = some (.int .i64 0) := (blk_cell HX.out.b18 6).trans rfl; have hf6_ := blk_frozen HX.out.b18 6; have hq7_ : w2.cell? ⟨w.heap.size + 1, 7, none⟩ = some (.int .i64 0) := (blk_cell HX.out.b18 7).trans rfl; have hf7_ := blk_frozen HX.out.b18 7; have hq8_ : w2.cell? ⟨w.heap.size + 1, 8, none⟩ = some (.int .i64 0) := (blk_cell HX.out.b18 8).trans rfl; have hf8_ := blk_frozen HX.out.b18 8; have hq9_ : w2.cell? ⟨w.heap.size + 1, 9, none⟩ = some (.int .i64 0) := (blk_cell HX.out.b18 9).trans rfl; have hf9_ := blk_frozen HX.out.b18 9; have hq10_ : w2.cell? ⟨w.heap.size + 1, 10, none⟩ = some (.int .i64 0) := (blk_cell HX.out.b18 10).trans rfl; have hf10_ := blk_frozen HX.out.b18 10; have hs0_ : w2.cell? ⟨wr.heap.size, 0, none⟩ = some _ := (blk_cell HS.out 0).trans rfl; have hs1_ : w2.cell? ⟨wr.heap.size, 1, none⟩ = some _ := (blk_cell HS.out 1).trans rfl; have hs2_ : w2.cell? ⟨wr.heap.size, 2, none⟩ = some _ := (blk_cell HS.out 2).trans rfl; have hs3_ : w2.cell? ⟨wr.heap.size, 3, none⟩ = some _ := (blk_cell HS.out 3).trans rfl; have hs4_ : w2.cell? ⟨wr.heap.size, 4, none⟩ = some _ := (blk_cell HS.out 4).trans rfl; have hs5_ : w2.cell? ⟨wr.heap.size, 5, none⟩ = some _ := (blk_cell HS.out 5).trans rfl; have hs6_ : w2.cell? ⟨wr.heap.size, 6, none⟩ = some _ := (blk_cell HS.out 6).trans rfl; have hs7_ : w2.cell? ⟨wr.heap.size, 7, none⟩ = some _ := (blk_cell HS.out 7).trans rfl; have hs8_ : w2.cell? ⟨wr.heap.size, 8, none⟩ = some _ := (blk_cell HS.out 8).trans rfl; have hs9_ : w2.cell? ⟨wr.heap.size, 9, none⟩ = some _ := (blk_cell HS.out 9).trans rfl; have hs10_ : w2.cell? ⟨wr.heap.size, 10, none⟩ = some _ := (blk_cell HS.out 10).trans rfl; have hzy2_ := blk_lt HX.out.b18))
            have HB := Aside0.mk HX.out.hb
            refine bodyPost_ret (results_ct rfl _ _ (w.heap.size + 1) 39 #[.int .i64 p0, .int .i64 dst, .int .i64 ((l0.length : Int) + 1), .int .i64 dgl, .int .i64 tick, .int .i64 kind, .int .i64 a, .int .i64 b, .int .i64 c, .int .i64 d, .int .i64 (mk_ p1 (bts ⟨p0, dst, (l0.length : Int) + 1, dgl, tick, kind, a, b, c, d, 0⟩))] (0, 0) _ rfl (by (with_reducible exact put11 _ _ _ _ _ _ _ _ _ _ _ _ _ _ _ _ _ _ _ _ _ _ HX.out.b18)) Tryd.underlying39 rfl (by kernel_rfl)) rfl ?_
            exact ⟨rfl, by (repeat (with_reducible first | exact HB.out | exact Below.refl _ _ | apply below_alloc | apply pw_below_drewN | apply below_drew1 | refine below_set ?_ (Nat.le_succ _) | refine below_set ?_ HZ.out))⟩
end Go.Proofs.YtcalkhlchjjalaaDoor.Grn
