/- The bytes of versions, and what any bytes mean, or the error, are those of the reference: for all choices, versions, texts and numbers. -/
import Derived.Test.YtodhkbahjomfhaaCManifestBytes3
import Derived.Test.YtodhkbahjomfhaaCManifestBytes4
import Derived.Test.YtodhkbahjomfhaaCManifestBytes5
import Derived.Laws.BitsLemmas
import Derived.OpenShut
import Derived.Deep.SlicePairs
import Derived.ProofKit
import Derived.SizedLaws
import Derived.Test.YtodhkbahjomfhaaRows
import Derived.SliceStrings
import Derived.Lib.SmallJoins
import Derived.ChangeArms
import Derived.WalkKit
import Derived.ShutString
import Derived.ChangeOld
import Derived.Below
import Derived.Test.YtodhkbahjomfhaaCManifestBytes1
namespace Go.Proofs.Ytodhkbahjomfhaa.Q
open Go.RowKit Go.Proofs.YtodhkbahjomfhaaW.PrintWords Go.Proofs.YtodhkbahjomfhaaW.PrintLast Go.Proofs.YtodhkbahjomfhaaW.PrintMore Go.Proofs.Ytodhkbahjomfhaa.Gput Go.Proofs.Ytodhkbahjomfhaa.Gputl
attribute [local go_sem] max2_int min2_int max_two min_two max_three min_three max_four min_four   -- for this text's walks alone
set_option linter.unusedVariables false
set_option linter.unusedSimpArgs false
mutual
noncomputable def storagebarterlaw08_ManifestBytes.j0 : Nat → List Int → ByteArray → Int → Int → Bool → Int → List (S78) → Option (Bool)
 | 0, _, _, _, _, _, _, _ => none
 | k + 1, x0, x2, x3, x4, x40, x527000, x527001 => if x40 = true then (some true) else ((storagebartermake_New.f x0).bind fun bt529 => ((storagebartermake_Version.f k bt529.1 bt529.2).bind fun bt532 => (if bt532.1 = 0 then (some true) else ((storagebarterref08_Encode.f k bt532.1 bt532.2.1).bind fun bt538 => (if ([] : List Int).length + bt538.1.size < 140737488355328 then ((some (([] : List Int) ++ bytesOf bt538.1 : List Int)).bind fun y540 => (if (y540.length : Int) = 0 then (none) else (if 0 ≤ (Int.tmod (wrap64 (x3)) (y540.length : Int)) then (if (Int.tmod (wrap64 (x3)) (y540.length : Int)) < (y540.length : Int) then (if bt538.1.size + x2.size ≤ 9223372036854775807 then (if (bt538.1.size : Int) = 0 then (none) else (if 0 ≤ (Int.tmod (wrap64 (x3)) (bt538.1.size : Int)) then (if (Int.tmod (wrap64 (x3)) (bt538.1.size : Int)) ≤ (bt538.1.size : Int) then ((some (([x2, bt538.1, strOfNums (y540.set ((Int.tmod (wrap64 (x3)) (y540.length : Int)) : Int).toNat x4), bt538.1 ++ x2, bt538.1.extract 0 ((Int.tmod (wrap64 (x3)) (bt538.1.size : Int)) : Int).toNat] : List ByteArray) : List ByteArray)).bind fun y544 => (storagebarterlaw08_ManifestBytes.l0 k y544 (y544.length : Int) 0 x527000 x527001)) else (none)) else (none))) else (none)) else (none)) else (none)))) else (none))))))
noncomputable def storagebarterlaw08_ManifestBytes.l0 : Nat → List ByteArray → Int → Int → Int → List (S78) → Option (Bool)
 | 0, _, _, _, _, _ => none
 | k + 1, x76, x77, x78, x527000, x527001 => if x78 < x77 then (if 0 ≤ x78 then (if x78 < (x76.length : Int) then ((manifest_Decode.f k (rdOf ByteArray.empty x76 x78)).bind fun bt552 => ((storagebarterref08_Decode.f k (rdOf ByteArray.empty x76 x78)).bind fun bt558 => (if bt552.2.2 = bt558.2.2 then ((storagebarterref08_Same.f k bt552.1 bt552.2.1 bt558.1 bt558.2.1).bind fun t564 => (if t564 = true then (storagebarterlaw08_ManifestBytes.l0 k x76 x77 (wrap64 (x78 + 1)) x527000 x527001) else (some false))) else (some false)))) else (none)) else (none)) else ((manifest_Encode.f k x527000 x527001).bind fun bt547 => ((storagebarterref08_Encode.f k x527000 x527001).bind fun bt549 => (if bt547.1.toList = bt549.1.toList then (some (bt547.2 == bt549.2)) else (some false))))
end
noncomputable def storagebarterlaw08_ManifestBytes.f (k : Nat) (l0 : List Int) (a1_0 : Int) (l1_1 : List (S78)) (a2 : ByteArray) (a3 : Int) (a4 : Int) : Option (Bool) := (storagebarterlaw08_sane.f k).bind fun t527 => (if t527 = true then ((storagebartermake_Few.f l0).bind fun t528 => (if t528 = true then (if (l1_1.length : Int) > 600 then (storagebarterlaw08_ManifestBytes.j0 k l0 a2 a3 a4 true a1_0 l1_1) else (storagebarterlaw08_ManifestBytes.j0 k l0 a2 a3 a4 (decide ((a2.size : Int) > 3000)) a1_0 l1_1)) else (storagebarterlaw08_ManifestBytes.j0 k l0 a2 a3 a4 true a1_0 l1_1))) else (some false))
noncomputable def storagebarterlaw08_ManifestBytes.T11 : Bool × List (List Nat × List Nat) := (true, [([], []), ([], []), ([], []), ([2], [2]), ([], []), ([], []), ([4, 5], [4, 5]), ([], []), ([], []), ([8], [8]), ([], []), ([10], [10]), ([9, 11], [9, 11]), ([7, 12], [7, 12]), ([0, 1, 3, 6, 13], [0, 1, 3, 6, 13]), ([14], [14]), ([], [])])
noncomputable def storagebarterlaw08_ManifestBytes.B11 : List Nat := [0, 0, 0, 4, 0, 0, 48, 0, 0, 256, 0, 1024, 3840, 8064, 16383, 32767, 0]
theorem storagebarterlaw08_ManifestBytes.tab11 : rtab .any (opsOf Try.f6 11) = storagebarterlaw08_ManifestBytes.T11 := by kernel_rfl
theorem storagebarterlaw08_ManifestBytes.bits11 : waitsOk storagebarterlaw08_ManifestBytes.T11.2 storagebarterlaw08_ManifestBytes.B11 = true := by kernel_rfl
set_option maxHeartbeats 8000000 in
set_option maxRecDepth 100000 in
theorem storagebarterlaw08_ManifestBytes.calls (k : Nat) (A0 : Option Addr) (c0 : Nat) (l0 : List Int) (a1_0 : Int) (A1_1 : Option Addr) (c1_1 : Nat) (l1_1 : List (S78)) (a2 : ByteArray) (a3 : Int) (a4 : Int) (r : Bool) (w : World) (hr0 : Kd.C (Kd.int .i64) w A0 l0.length l0) (hc0 : l0.length ≤ c0) (hr1_1 : Kd.C k78 w A1_1 l1_1.length l1_1) (hc1_1 : l1_1.length ≤ c1_1) (h : storagebarterlaw08_ManifestBytes.f k l0 a1_0 l1_1 a2 a3 a4 = some r) (hrt : r = true) :
 Calls Try.prog 6 #[.slice A0 l0.length c0, .agg #[.int .i64 a1_0, .slice A1_1 l1_1.length c1_1], .string a2, .int .u8 a3, .int .u8 a4] w fun e w' => e = .returned (.bool r) ∧ Below w.heap.size w w' := by
 have hu32 := Try.underlying32
 have HR0 := Aside0.mk hr0
 have HC0 := Aside0.mk hc0
 clear hr0 hc0
 have HR1_1 := Aside0.mk hr1_1
 have HC1_1 := Aside0.mk hc1_1
 clear hr1_1 hc1_1
 have HB := Aside0.mk (Below.refl w.heap.size w)
 have H : ((storagebarterlaw08_sane.f k).bind fun t527 => (if t527 = true then ((storagebartermake_Few.f l0).bind fun t528 => (if t528 = true then (if (l1_1.length : Int) > 600 then (storagebarterlaw08_ManifestBytes.j0 k l0 a2 a3 a4 true a1_0 l1_1) else (storagebarterlaw08_ManifestBytes.j0 k l0 a2 a3 a4 (decide ((a2.size : Int) > 3000)) a1_0 l1_1)) else (storagebarterlaw08_ManifestBytes.j0 k l0 a2 a3 a4 true a1_0 l1_1))) else (some false))) = some r := h
 clear h
 have RT_ := Aside0.mk hrt
 clear hrt
 replace H := Option.bind_eq_some_iff.mp H
 obtain ⟨t527, A60, H⟩ := H
 replace H : (if t527 = true then ((storagebartermake_Few.f l0).bind fun t528 => (if t528 = true then (if (l1_1.length : Int) > 600 then (storagebarterlaw08_ManifestBytes.j0 k l0 a2 a3 a4 true a1_0 l1_1) else (storagebarterlaw08_ManifestBytes.j0 k l0 a2 a3 a4 (decide ((a2.size : Int) > 3000)) a1_0 l1_1)) else (storagebarterlaw08_ManifestBytes.j0 k l0 a2 a3 a4 true a1_0 l1_1))) else (some false)) = some r := H
 have A6 := Aside0.mk A60
 clear A60
 by_cases c7 : t527 = true
 ·subst c7
  have H1 : ((storagebartermake_Few.f l0).bind fun t528 => (if t528 = true then (if (l1_1.length : Int) > 600 then (storagebarterlaw08_ManifestBytes.j0 k l0 a2 a3 a4 true a1_0 l1_1) else (storagebarterlaw08_ManifestBytes.j0 k l0 a2 a3 a4 (decide ((a2.size : Int) > 3000)) a1_0 l1_1)) else (storagebarterlaw08_ManifestBytes.j0 k l0 a2 a3 a4 true a1_0 l1_1))) = some r := by rw [if_pos rfl] at H; exact H
  clear H
  have H := H1
  clear H1
  have HC8 := Aside0.mk H
  clear H
  go_enter Try.func6, Try.ntmps6
  go_upto_region 3 with (first | ((with_reducible refine gate_dst (N := 6) rfl ?_); (try (refine gate_guard (by rfl) ?_; dsimp only)); refine box_event ?hg (N := 6) ?hd (cs := #[.int .i64 a1_0, .slice A1_1 l1_1.length c1_1]) (t := 32) ?hr ?_; (case hd => rfl); (case hg => rfl); (case hr => first | (go_simp; done) | (go_simp; rfl)); intro gb526 hg w9 hbox hb; have n0_ := Aside0.mk (below_step (by repeat (first | (with_reducible first | exact HB.out | apply below_alloc | apply pw_below_drewN | apply below_drew1) | exact HB.out)) hb); have n1_ := Aside0.mk (hbox); have n2_ := Aside0.mk ((by rw [hg]; exact (below_size (by repeat (first | (with_reducible first | exact HB.out | apply below_alloc | apply pw_below_drewN | apply below_drew1) | exact HB.out))) : w.heap.size ≤ gb526)); have n3_ := Aside0.mk ((by rw [hg]; exact (below_size (by repeat (first | (with_reducible first | exact HB.out | apply below_alloc | apply pw_below_drewN | apply below_drew1) | exact HB.out))) : w.heap.size ≤ gb526)); clear HB; have HB := n0_; have BK526 := n1_; have GW526 := n2_; have GE526 := n3_; clear n0_ n1_ n2_ n3_; clear hb hbox hg) | ((with_reducible refine gate_callee (f := 13) rfl ?_); refine goesL_ (some 25) rfl rfl Try.func13 (by kernel_rfl) rfl #[] rfl (by (try simp only [List.map_toArray, List.map_cons, List.map_nil]); first | done | rfl | (simp only [List.length_drop, List.length_take]; rfl)) ?_; (with_reducible refine (storagebarterlaw08_sane.calls k  true _ A6.out).mono ?_); rintro e w10 ⟨rfl, hb⟩; refine ⟨_, rfl, ?_⟩; have n0_ := Aside0.mk (blk_below (g := gb526) (o := .cells #[.int .i64 a1_0, .slice A1_1 l1_1.length c1_1] 32 (0, 0)) (by (with_reducible repeat (first | refine blk_drewN ?_ _ | refine blk_drew ?_ | refine blk_alloc ?_ _)); exact BK526.out) hb); have n1_ := Aside0.mk (below_step (by repeat (first | (with_reducible first | exact HB.out | apply below_alloc | apply pw_below_drewN | apply below_drew1 | refine below_set ?_ GE526.out) | exact HB.out)) hb); clear BK526; clear HB; have BK526 := n0_; have HB := n1_; clear n0_ n1_; (try clear hb); (try clear hb2); (try clear hk); (try clear hi)))
  (try simp only [Act.put, Sa, Sz, Ss])
  go_cut [40] (fun v40 wc => ∃ (kq : Nat) (x40_7 : Bool), v40 = .bool x40_7 ∧ Aside0 (storagebarterlaw08_ManifestBytes.j0 kq l0 a2 a3 a4 x40_7 a1_0 l1_1 = some r) ∧ Aside0 (kq ≤ k) ∧ Aside0 (wc.heap[gb526]? = some (.cells #[.int .i64 a1_0, (.slice A1_1 l1_1.length c1_1)] 32 (0, 0))) ∧ Aside0 (Below w.heap.size w wc))
  case first =>
   have H := HC8.out
   clear HC8
   replace H := Option.bind_eq_some_iff.mp H
   obtain ⟨t528, A110, H⟩ := H
   replace H : (if t528 = true then (if (l1_1.length : Int) > 600 then (storagebarterlaw08_ManifestBytes.j0 k l0 a2 a3 a4 true a1_0 l1_1) else (storagebarterlaw08_ManifestBytes.j0 k l0 a2 a3 a4 (decide ((a2.size : Int) > 3000)) a1_0 l1_1)) else (storagebarterlaw08_ManifestBytes.j0 k l0 a2 a3 a4 true a1_0 l1_1)) = some r := H
   have A11 := Aside0.mk A110
   clear A110
   by_cases c12 : t528 = true
   ·subst c12
    have H1 : (if (l1_1.length : Int) > 600 then (storagebarterlaw08_ManifestBytes.j0 k l0 a2 a3 a4 true a1_0 l1_1) else (storagebarterlaw08_ManifestBytes.j0 k l0 a2 a3 a4 (decide ((a2.size : Int) > 3000)) a1_0 l1_1)) = some r := by rw [if_pos rfl] at H; exact H
    clear H
    have H := H1
    clear H1
    by_cases c13 : (l1_1.length : Int) > 600
    ·rw [if_pos c13] at H
     have c13b0 : decide (600 < (l1_1.length : Int)) = true := decide_eq_true c13
     have c13b1 : decide (600 < l1_1.length) = true := decide_eq_true (by omega)
     clear c13
     (first | rw [c13b0] | (simp only [i64_w, i32_w]; rw [c13b0]) | skip)
     have H' := Aside0.mk H
     clear H
     go_wp2_with (first | ((with_reducible refine gate_callee (f := 14) rfl ?_); refine goesL_ (some 28) rfl rfl Try.func14 (by kernel_rfl) rfl #[.slice A0 l0.length c0] rfl (by (try simp only [List.map_toArray, List.map_cons, List.map_nil]); first | done | rfl | (simp only [List.length_drop, List.length_take]; rfl)) ?_; (with_reducible refine (storagebartermake_Few.calls _ _ l0 true _ ?side1 ?side2 A11.out).mono ?_); (case side1 => repeat (first | exact (Kd.C_below HR0.out HB.out) | (with_reducible refine Kd.C_alloc ?_ _) | (with_reducible refine Kd.C_drewN ?_ _) | (with_reducible refine Kd.C_drew ?_))); (case side2 => exact HC0.out); rintro e w' ⟨rfl, ⟨nd, rfl⟩⟩; refine ⟨_, rfl, ?_⟩; (try (rw [drewN_self w10]; generalize hq_ : World.drewN w10 _ = w10; have n0_ : Aside0 (w10.heap[gb526]? = some (.cells #[.int .i64 a1_0, .slice A1_1 l1_1.length c1_1] 32 (0, 0))) := ⟨by rw [← hq_]; exact (by (with_reducible repeat (first | refine blk_drewN ?_ _ | refine blk_drew ?_ | refine blk_alloc ?_ _)); exact BK526.out)⟩; have n1_ : Aside0 (Below w.heap.size w w10) := ⟨by rw [← hq_]; exact (by repeat (first | (with_reducible first | exact HB.out | apply below_alloc | apply pw_below_drewN | apply below_drew1 | refine below_set ?_ GE526.out) | exact HB.out))⟩; clear BK526 HB hq_; have BK526 := n0_; have HB := n1_; clear n0_ n1_)); have hcz14_0 : w10.cell? ⟨gb526, 0, none⟩ = some (.int .i64 a1_0) := (blk_cell BK526.out 0).trans rfl; have hcz14_1 : w10.cell? ⟨gb526, 1, none⟩ = some (.slice A1_1 l1_1.length c1_1) := (blk_cell BK526.out 1).trans rfl; have hfz14_0 := blk_frozen BK526.out 0; have hfz14_1 := blk_frozen BK526.out 1))
     go_meet
     case rel => exact ⟨_, (true), (by first | rfl | (simp; done) | (simp [*]; done)), H', ⟨by first | omega | exact Nat.le_refl _⟩, ⟨by (with_reducible repeat (first | refine blk_drewN ?_ _ | refine blk_drew ?_ | refine blk_alloc ?_ _)); exact BK526.out⟩, ⟨by repeat (first | (with_reducible first | exact HB.out | apply below_alloc | apply pw_below_drewN | apply below_drew1 | refine below_set ?_ GE526.out) | exact HB.out)⟩⟩
    ·rw [if_neg c13] at H
     have c13b0 : decide (600 < (l1_1.length : Int)) = false := decide_eq_false c13
     have c13b1 : decide (600 < l1_1.length) = false := decide_eq_false (by omega)
     clear c13
     (first | rw [c13b0] | (simp only [i64_w, i32_w]; rw [c13b0]) | skip)
     have H' := Aside0.mk H
     clear H
     go_wp2_with (first | ((with_reducible refine gate_callee (f := 14) rfl ?_); refine goesL_ (some 28) rfl rfl Try.func14 (by kernel_rfl) rfl #[.slice A0 l0.length c0] rfl (by (try simp only [List.map_toArray, List.map_cons, List.map_nil]); first | done | rfl | (simp only [List.length_drop, List.length_take]; rfl)) ?_; (with_reducible refine (storagebartermake_Few.calls _ _ l0 true _ ?side1 ?side2 A11.out).mono ?_); (case side1 => repeat (first | exact (Kd.C_below HR0.out HB.out) | (with_reducible refine Kd.C_alloc ?_ _) | (with_reducible refine Kd.C_drewN ?_ _) | (with_reducible refine Kd.C_drew ?_))); (case side2 => exact HC0.out); rintro e w' ⟨rfl, ⟨nd, rfl⟩⟩; refine ⟨_, rfl, ?_⟩; (try (rw [drewN_self w10]; generalize hq_ : World.drewN w10 _ = w10; have n0_ : Aside0 (w10.heap[gb526]? = some (.cells #[.int .i64 a1_0, .slice A1_1 l1_1.length c1_1] 32 (0, 0))) := ⟨by rw [← hq_]; exact (by (with_reducible repeat (first | refine blk_drewN ?_ _ | refine blk_drew ?_ | refine blk_alloc ?_ _)); exact BK526.out)⟩; have n1_ : Aside0 (Below w.heap.size w w10) := ⟨by rw [← hq_]; exact (by repeat (first | (with_reducible first | exact HB.out | apply below_alloc | apply pw_below_drewN | apply below_drew1 | refine below_set ?_ GE526.out) | exact HB.out))⟩; clear BK526 HB hq_; have BK526 := n0_; have HB := n1_; clear n0_ n1_)); have hcz15_0 : w10.cell? ⟨gb526, 0, none⟩ = some (.int .i64 a1_0) := (blk_cell BK526.out 0).trans rfl; have hcz15_1 : w10.cell? ⟨gb526, 1, none⟩ = some (.slice A1_1 l1_1.length c1_1) := (blk_cell BK526.out 1).trans rfl; have hfz15_0 := blk_frozen BK526.out 0; have hfz15_1 := blk_frozen BK526.out 1))
     go_meet
     case rel => exact ⟨_, (decide ((a2.size : Int) > 3000)), (by first | rfl | (simp; done) | (simp [*]; done)), H', ⟨by first | omega | exact Nat.le_refl _⟩, ⟨by (with_reducible repeat (first | refine blk_drewN ?_ _ | refine blk_drew ?_ | refine blk_alloc ?_ _)); exact BK526.out⟩, ⟨by repeat (first | (with_reducible first | exact HB.out | apply below_alloc | apply pw_below_drewN | apply below_drew1 | refine below_set ?_ GE526.out) | exact HB.out)⟩⟩
   ·replace c12 := Bool.eq_false_iff.mpr c12
    subst c12
    have H1 : (storagebarterlaw08_ManifestBytes.j0 k l0 a2 a3 a4 true a1_0 l1_1) = some r := by rw [if_neg (show ¬ (false = true) by decide)] at H; exact H
    clear H
    have H := H1
    clear H1
    have H' := Aside0.mk H
    clear H
    go_wp2_with (first | ((with_reducible refine gate_callee (f := 14) rfl ?_); refine goesL_ (some 28) rfl rfl Try.func14 (by kernel_rfl) rfl #[.slice A0 l0.length c0] rfl (by (try simp only [List.map_toArray, List.map_cons, List.map_nil]); first | done | rfl | (simp only [List.length_drop, List.length_take]; rfl)) ?_; (with_reducible refine (storagebartermake_Few.calls _ _ l0 false _ ?side1 ?side2 A11.out).mono ?_); (case side1 => repeat (first | exact (Kd.C_below HR0.out HB.out) | (with_reducible refine Kd.C_alloc ?_ _) | (with_reducible refine Kd.C_drewN ?_ _) | (with_reducible refine Kd.C_drew ?_))); (case side2 => exact HC0.out); rintro e w' ⟨rfl, ⟨nd, rfl⟩⟩; refine ⟨_, rfl, ?_⟩; (try (rw [drewN_self w10]; generalize hq_ : World.drewN w10 _ = w10; have n0_ : Aside0 (w10.heap[gb526]? = some (.cells #[.int .i64 a1_0, .slice A1_1 l1_1.length c1_1] 32 (0, 0))) := ⟨by rw [← hq_]; exact (by (with_reducible repeat (first | refine blk_drewN ?_ _ | refine blk_drew ?_ | refine blk_alloc ?_ _)); exact BK526.out)⟩; have n1_ : Aside0 (Below w.heap.size w w10) := ⟨by rw [← hq_]; exact (by repeat (first | (with_reducible first | exact HB.out | apply below_alloc | apply pw_below_drewN | apply below_drew1 | refine below_set ?_ GE526.out) | exact HB.out))⟩; clear BK526 HB hq_; have BK526 := n0_; have HB := n1_; clear n0_ n1_))))
    go_meet
    case rel => exact ⟨_, (true), (by first | rfl | (simp; done) | (simp [*]; done)), H', ⟨by first | omega | exact Nat.le_refl _⟩, ⟨by (with_reducible repeat (first | refine blk_drewN ?_ _ | refine blk_drew ?_ | refine blk_alloc ?_ _)); exact BK526.out⟩, ⟨by repeat (first | (with_reducible first | exact HB.out | apply below_alloc | apply pw_below_drewN | apply below_drew1 | refine below_set ?_ GE526.out) | exact HB.out)⟩⟩
  case rest =>
   clear HC8
   try clear c1
   try clear p2
   try clear c6
   try clear c7
   try clear c12
   try clear c13
   try clear c13b0
   try clear c13b1
   try clear c14
   try clear hcz14_0
   try clear hcz14_1
   try clear hcz15_0
   try clear hcz15_1
   try clear hfz14_0
   try clear hfz14_1
   try clear hfz15_0
   try clear hfz15_1
   obtain ⟨kq, x40_7, rfl, HA, HJ7, BK526, HB⟩ := hcut
   cases kq with
   | zero => exact absurd HA.out (by simp [storagebarterlaw08_ManifestBytes.j0])
   | succ kj7 =>
    have H := HA.out
    clear HA
    simp only [storagebarterlaw08_ManifestBytes.j0] at H
    by_cases c16 : x40_7 = true
    ·subst c16
     have H1 : (some true) = some r := by rw [if_pos rfl] at H; exact H
     clear H
     have H := H1
     clear H1
     obtain rfl := Option.some.inj H
     go_wp2
     go_ret
     exact ⟨by first | rfl | (simp [errW_none, errW_some] <;> rfl) | (simp [*, errW_none, errW_some] <;> rfl), by repeat (first | (with_reducible first | exact HB.out | apply below_alloc | apply pw_below_drewN | apply below_drew1 | refine below_set ?_ GE526.out) | exact HB.out)⟩
    ·replace c16 := Bool.eq_false_iff.mpr c16
     subst c16
     have H1 : ((storagebartermake_New.f l0).bind fun bt529 => ((storagebartermake_Version.f kj7 bt529.1 bt529.2).bind fun bt532 => (if bt532.1 = 0 then (some true) else ((storagebarterref08_Encode.f kj7 bt532.1 bt532.2.1).bind fun bt538 => (if ([] : List Int).length + bt538.1.size < 140737488355328 then ((some (([] : List Int) ++ bytesOf bt538.1 : List Int)).bind fun y540 => (if (y540.length : Int) = 0 then (none) else (if 0 ≤ (Int.tmod (wrap64 (a3)) (y540.length : Int)) then (if (Int.tmod (wrap64 (a3)) (y540.length : Int)) < (y540.length : Int) then (if bt538.1.size + a2.size ≤ 9223372036854775807 then (if (bt538.1.size : Int) = 0 then (none) else (if 0 ≤ (Int.tmod (wrap64 (a3)) (bt538.1.size : Int)) then (if (Int.tmod (wrap64 (a3)) (bt538.1.size : Int)) ≤ (bt538.1.size : Int) then ((some (([a2, bt538.1, strOfNums (y540.set ((Int.tmod (wrap64 (a3)) (y540.length : Int)) : Int).toNat a4), bt538.1 ++ a2, bt538.1.extract 0 ((Int.tmod (wrap64 (a3)) (bt538.1.size : Int)) : Int).toNat] : List ByteArray) : List ByteArray)).bind fun y544 => (storagebarterlaw08_ManifestBytes.l0 kj7 y544 (y544.length : Int) 0 a1_0 l1_1)) else (none)) else (none))) else (none)) else (none)) else (none)))) else (none)))))) = some r := by rw [if_neg (show ¬ (false = true) by decide)] at H; exact H
     clear H
     have H := H1
     clear H1
     replace H := Option.bind_eq_some_iff.mp H
     obtain ⟨⟨t529, t530⟩, A170, H⟩ := H
     replace H : ((storagebartermake_Version.f kj7 t529 t530).bind fun bt532 => (if bt532.1 = 0 then (some true) else ((storagebarterref08_Encode.f kj7 bt532.1 bt532.2.1).bind fun bt538 => (if ([] : List Int).length + bt538.1.size < 140737488355328 then ((some (([] : List Int) ++ bytesOf bt538.1 : List Int)).bind fun y540 => (if (y540.length : Int) = 0 then (none) else (if 0 ≤ (Int.tmod (wrap64 (a3)) (y540.length : Int)) then (if (Int.tmod (wrap64 (a3)) (y540.length : Int)) < (y540.length : Int) then (if bt538.1.size + a2.size ≤ 9223372036854775807 then (if (bt538.1.size : Int) = 0 then (none) else (if 0 ≤ (Int.tmod (wrap64 (a3)) (bt538.1.size : Int)) then (if (Int.tmod (wrap64 (a3)) (bt538.1.size : Int)) ≤ (bt538.1.size : Int) then ((some (([a2, bt538.1, strOfNums (y540.set ((Int.tmod (wrap64 (a3)) (y540.length : Int)) : Int).toNat a4), bt538.1 ++ a2, bt538.1.extract 0 ((Int.tmod (wrap64 (a3)) (bt538.1.size : Int)) : Int).toNat] : List ByteArray) : List ByteArray)).bind fun y544 => (storagebarterlaw08_ManifestBytes.l0 kj7 y544 (y544.length : Int) 0 a1_0 l1_1)) else (none)) else (none))) else (none)) else (none)) else (none)))) else (none))))) = some r := H
     have A17 := Aside0.mk A170
     clear A170
     replace H := Option.bind_eq_some_iff.mp H
     obtain ⟨⟨t532, t533, t536⟩, A180, H⟩ := H
     replace H : (if t532 = 0 then (some true) else ((storagebarterref08_Encode.f kj7 t532 t533).bind fun bt538 => (if ([] : List Int).length + bt538.1.size < 140737488355328 then ((some (([] : List Int) ++ bytesOf bt538.1 : List Int)).bind fun y540 => (if (y540.length : Int) = 0 then (none) else (if 0 ≤ (Int.tmod (wrap64 (a3)) (y540.length : Int)) then (if (Int.tmod (wrap64 (a3)) (y540.length : Int)) < (y540.length : Int) then (if bt538.1.size + a2.size ≤ 9223372036854775807 then (if (bt538.1.size : Int) = 0 then (none) else (if 0 ≤ (Int.tmod (wrap64 (a3)) (bt538.1.size : Int)) then (if (Int.tmod (wrap64 (a3)) (bt538.1.size : Int)) ≤ (bt538.1.size : Int) then ((some (([a2, bt538.1, strOfNums (y540.set ((Int.tmod (wrap64 (a3)) (y540.length : Int)) : Int).toNat a4), bt538.1 ++ a2, bt538.1.extract 0 ((Int.tmod (wrap64 (a3)) (bt538.1.size : Int)) : Int).toNat] : List ByteArray) : List ByteArray)).bind fun y544 => (storagebarterlaw08_ManifestBytes.l0 kj7 y544 (y544.length : Int) 0 a1_0 l1_1)) else (none)) else (none))) else (none)) else (none)) else (none)))) else (none)))) = some r := H
     have A18 := Aside0.mk A180
     clear A180
     by_cases c19 : t532 = 0
     ·rw [if_pos c19] at H
      have c19b0 : (t532 == 0) = true := beq_iff_eq.mpr c19
      have c19b1 : (t532 != 0) = false := bne_eq_false_iff_eq.mpr c19
      clear c19
      obtain rfl := Option.some.inj H
      go_wp2_with (first | ((with_reducible refine gate_callee (f := 16) rfl ?_); refine goesL_ (some 42) rfl rfl Try.func16 (by kernel_rfl) rfl #[.slice A0 l0.length c0] rfl (by (try simp only [List.map_toArray, List.map_cons, List.map_nil]); first | done | rfl | (simp only [List.length_drop, List.length_take]; rfl)) ?_; (with_reducible refine (storagebartermake_New.calls _ _ l0 t529 t530 w _ ?side1 ?side2 ?side3 A17.out).mono ?_); (case side1 => repeat (first | (with_reducible first | exact HB.out | apply below_alloc | apply pw_below_drewN | apply below_drew1 | refine below_set ?_ GE526.out) | exact HB.out)); (case side2 => exact HR0.out); (case side3 => exact HC0.out); rintro e w20 ⟨g531, rfl, hi, hb, hb2⟩; refine ⟨_, rfl, ?_⟩; have n0_ := Aside0.mk (blk_below (g := gb526) (o := .cells #[.int .i64 a1_0, .slice A1_1 l1_1.length c1_1] 32 (0, 0)) (by (with_reducible repeat (first | refine blk_drewN ?_ _ | refine blk_drew ?_ | refine blk_alloc ?_ _)); exact BK526.out) hb2); have n1_ := Aside0.mk (hb); have n2_ := Aside0.mk (hi); have n3_ := Aside0.mk (IsS86.ne_blk hi (blk_below (g := gb526) (o := .cells #[.int .i64 a1_0, .slice A1_1 l1_1.length c1_1] 32 (0, 0)) (by (with_reducible repeat (first | refine blk_drewN ?_ _ | refine blk_drew ?_ | refine blk_alloc ?_ _)); exact BK526.out) hb2) (by decide)); have n4_ := Aside0.mk (Ne.symm (IsS86.ne_blk hi (blk_below (g := gb526) (o := .cells #[.int .i64 a1_0, .slice A1_1 l1_1.length c1_1] 32 (0, 0)) (by (with_reducible repeat (first | refine blk_drewN ?_ _ | refine blk_drew ?_ | refine blk_alloc ?_ _)); exact BK526.out) hb2) (by decide))); clear BK526; clear HB; have BK526 := n0_; have HB := n1_; have HI531 := n2_; have NB531_526 := n3_; have NB526_531 := n4_; clear n0_ n1_ n2_ n3_ n4_; (try clear hb); (try clear hb2); (try clear hk); (try clear hi)) | ((with_reducible refine gate_callee (f := 33) rfl ?_); refine goesL_ (some 43) rfl rfl Try.func33 (by kernel_rfl) rfl #[.pointer (some ⟨g531, 0, none⟩)] rfl (by (try simp only [List.map_toArray, List.map_cons, List.map_nil]); first | done | rfl | (simp only [List.length_drop, List.length_take]; rfl)) ?_; (with_reducible refine (storagebartermake_Version.calls kj7 g531 t529 t530 t532 t533 t536 w _ ?side1 ?side2 A18.out).mono ?_); (case side1 => repeat (first | (with_reducible first | exact HI531.out | apply IsS86.alloc | apply IsS86.drewN | apply IsS86.drew | apply IsS86.set_1 | refine IsS86.far ?_ NB531_526.out _) | exact HI531.out)); (case side2 => repeat (first | (with_reducible first | exact HB.out | apply below_alloc | apply pw_below_drewN | apply below_drew1 | refine below_set ?_ (IsS86.ge HI531.out) | refine below_set ?_ GE526.out) | exact HB.out)); rintro e w21 ⟨v534, rfl, ho0, hi, hb, hk⟩; refine ⟨_, rfl, ?_⟩; have n0_ := Aside0.mk (KeepBut.blk hk (g' := gb526) (o := .cells #[.int .i64 a1_0, .slice A1_1 l1_1.length c1_1] 32 (0, 0)) (by (with_reducible repeat (first | refine blk_drewN ?_ _ | refine blk_drew ?_ | refine blk_alloc ?_ _)); exact BK526.out) NB526_531.out (by simp)); have n1_ := Aside0.mk (Kd.R_lower ho0 (below_size (by repeat (first | (with_reducible first | exact HB.out | apply below_alloc | apply pw_below_drewN | apply below_drew1 | refine below_set ?_ (IsS86.ge HI531.out) | refine below_set ?_ GE526.out) | exact HB.out)))); have n2_ := Aside0.mk (hb); have n3_ := Aside0.mk (hi); clear BK526; clear HB; clear HI531; have BK526 := n0_; have HO535 := n1_; have HB := n2_; have HI531 := n3_; clear n0_ n1_ n2_ n3_; (try clear hb); (try clear hb2); (try clear hk); (try clear hi); (try clear ho0)) | ((with_reducible refine gate_dst (N := 11) rfl ?_); (try (refine gate_guard (by rfl) ?_; dsimp only)); refine box_event ?hg (N := 11) ?hd (cs := #[.int .i64 0, .slice none 0 0]) (t := 32) ?hr ?_; (case hd => rfl); (case hg => rfl); (case hr => first | (go_simp; done) | (go_simp; rfl)); intro gb537 hg w22 hbox hb; have n0_ := Aside0.mk (Kd.R_below (by (with_reducible repeat (first | apply Kd.R_alloc | apply Kd.R_drewN | apply Kd.R_drew)); exact HO535.out) hb); have n1_ := Aside0.mk (blk_below (g := gb526) (o := .cells #[.int .i64 a1_0, .slice A1_1 l1_1.length c1_1] 32 (0, 0)) (by (with_reducible repeat (first | refine blk_drewN ?_ _ | refine blk_drew ?_ | refine blk_alloc ?_ _)); exact BK526.out) hb); have n2_ := Aside0.mk (IsS86.below (by repeat (first | (with_reducible first | exact HI531.out | apply IsS86.alloc | apply IsS86.drewN | apply IsS86.drew | apply IsS86.set_1 | refine IsS86.far ?_ NB531_526.out _) | exact HI531.out)) hb); have n3_ := Aside0.mk (below_step (by repeat (first | (with_reducible first | exact HB.out | apply below_alloc | apply pw_below_drewN | apply below_drew1 | refine below_set ?_ (IsS86.ge HI531.out) | refine below_set ?_ GE526.out) | exact HB.out)) hb); have n4_ := Aside0.mk (hbox); have n5_ := Aside0.mk ((by rw [hg]; exact (below_size (by repeat (first | (with_reducible first | exact HB.out | apply below_alloc | apply pw_below_drewN | apply below_drew1 | refine below_set ?_ (IsS86.ge HI531.out) | refine below_set ?_ GE526.out) | exact HB.out))) : w.heap.size ≤ gb537)); have n6_ := Aside0.mk ((by rw [hg]; exact (below_size (by repeat (first | (with_reducible first | exact HB.out | apply below_alloc | apply pw_below_drewN | apply below_drew1 | refine below_set ?_ (IsS86.ge HI531.out) | refine below_set ?_ GE526.out) | exact HB.out))) : w.heap.size ≤ gb537)); have n7_ := Aside0.mk ((by rw [hg]; exact Nat.ne_of_lt (blk_lt (g := gb526) (o := .cells #[.int .i64 a1_0, .slice A1_1 l1_1.length c1_1] 32 (0, 0)) (by (with_reducible repeat (first | refine blk_drewN ?_ _ | refine blk_drew ?_ | refine blk_alloc ?_ _)); exact BK526.out)) : gb526 ≠ gb537)); have n8_ := Aside0.mk ((by rw [hg]; exact Nat.ne_of_gt (blk_lt (g := gb526) (o := .cells #[.int .i64 a1_0, .slice A1_1 l1_1.length c1_1] 32 (0, 0)) (by (with_reducible repeat (first | refine blk_drewN ?_ _ | refine blk_drew ?_ | refine blk_alloc ?_ _)); exact BK526.out)) : gb537 ≠ gb526)); have n9_ := Aside0.mk ((by rw [hg]; exact Nat.ne_of_lt (IsS86.lt (show IsS86 w _ g531 t529 t536 from by repeat (first | (with_reducible first | exact HI531.out | apply IsS86.alloc | apply IsS86.drewN | apply IsS86.drew | apply IsS86.set_1 | refine IsS86.far ?_ NB531_526.out _) | exact HI531.out))) : g531 ≠ gb537)); have n10_ := Aside0.mk ((by rw [hg]; exact Nat.ne_of_gt (IsS86.lt (show IsS86 w _ g531 t529 t536 from by repeat (first | (with_reducible first | exact HI531.out | apply IsS86.alloc | apply IsS86.drewN | apply IsS86.drew | apply IsS86.set_1 | refine IsS86.far ?_ NB531_526.out _) | exact HI531.out))) : gb537 ≠ g531)); clear HO535; clear BK526; clear HI531; clear HB; have HO535 := n0_; have BK526 := n1_; have HI531 := n2_; have HB := n3_; have BK537 := n4_; have GW537 := n5_; have GE537 := n6_; have NB526_537 := n7_; have NB537_526 := n8_; have NB531_537 := n9_; have NB537_531 := n10_; clear n0_ n1_ n2_ n3_ n4_ n5_ n6_ n7_ n8_ n9_ n10_; clear hb hbox hg; have hnb23 := NB537_526.out; have hnc23 := NB526_537.out; have hnb24 := NB537_531.out; have hnc24 := NB531_537.out; have hcz25_0 : w22.cell? ⟨gb537, 0, none⟩ = some (.int .i64 0) := (blk_cell BK537.out 0).trans rfl; have hcz25_1 : w22.cell? ⟨gb537, 1, none⟩ = some (.slice none 0 0) := (blk_cell BK537.out 1).trans rfl; have hfz25_0 := blk_frozen BK537.out 0; have hfz25_1 := blk_frozen BK537.out 1; obtain ⟨Ao26, co26, eo26⟩ := Kd.R_slice HO535.out; subst eo26))
      go_ret
      exact ⟨by first | rfl | (simp [errW_none, errW_some] <;> rfl) | (simp [*, errW_none, errW_some] <;> rfl), by repeat (first | (with_reducible first | exact HB.out | apply below_alloc | apply pw_below_drewN | apply below_drew1 | refine below_set ?_ (IsS86.ge HI531.out) | refine below_set ?_ GE526.out | refine below_set ?_ GE537.out) | exact HB.out)⟩
     ·rw [if_neg c19] at H
      have c19b0 : (t532 == 0) = false := beq_eq_false_iff_ne.mpr c19
      have c19b1 : (t532 != 0) = true := bne_iff_ne.mpr c19
      replace H := Option.bind_eq_some_iff.mp H
      obtain ⟨⟨t538, t539⟩, A270, H⟩ := H
      replace H : (if ([] : List Int).length + t538.size < 140737488355328 then ((some (([] : List Int) ++ bytesOf t538 : List Int)).bind fun y540 => (if (y540.length : Int) = 0 then (none) else (if 0 ≤ (Int.tmod (wrap64 (a3)) (y540.length : Int)) then (if (Int.tmod (wrap64 (a3)) (y540.length : Int)) < (y540.length : Int) then (if t538.size + a2.size ≤ 9223372036854775807 then (if (t538.size : Int) = 0 then (none) else (if 0 ≤ (Int.tmod (wrap64 (a3)) (t538.size : Int)) then (if (Int.tmod (wrap64 (a3)) (t538.size : Int)) ≤ (t538.size : Int) then ((some (([a2, t538, strOfNums (y540.set ((Int.tmod (wrap64 (a3)) (y540.length : Int)) : Int).toNat a4), t538 ++ a2, t538.extract 0 ((Int.tmod (wrap64 (a3)) (t538.size : Int)) : Int).toNat] : List ByteArray) : List ByteArray)).bind fun y544 => (storagebarterlaw08_ManifestBytes.l0 kj7 y544 (y544.length : Int) 0 a1_0 l1_1)) else (none)) else (none))) else (none)) else (none)) else (none)))) else (none)) = some r := H
      have A27 := Aside0.mk A270
      clear A270
      by_cases c28 : ([] : List Int).length + t538.size < 140737488355328
      ·rw [if_pos c28] at H
       have LMc28 := Aside0.mk c28
       clear c28
       obtain ⟨y540, hy540⟩ : ∃ y_ : List Int, y_ = (([] : List Int) ++ bytesOf t538) := ⟨_, rfl⟩
       replace H : (if (y540.length : Int) = 0 then (none) else (if 0 ≤ (Int.tmod (wrap64 (a3)) (y540.length : Int)) then (if (Int.tmod (wrap64 (a3)) (y540.length : Int)) < (y540.length : Int) then (if t538.size + a2.size ≤ 9223372036854775807 then (if (t538.size : Int) = 0 then (none) else (if 0 ≤ (Int.tmod (wrap64 (a3)) (t538.size : Int)) then (if (Int.tmod (wrap64 (a3)) (t538.size : Int)) ≤ (t538.size : Int) then ((some (([a2, t538, strOfNums (y540.set ((Int.tmod (wrap64 (a3)) (y540.length : Int)) : Int).toNat a4), t538 ++ a2, t538.extract 0 ((Int.tmod (wrap64 (a3)) (t538.size : Int)) : Int).toNat] : List ByteArray) : List ByteArray)).bind fun y544 => (storagebarterlaw08_ManifestBytes.l0 kj7 y544 (y544.length : Int) 0 a1_0 l1_1)) else (none)) else (none))) else (none)) else (none)) else (none))) = some r := by first | (rw [hy540]; with_reducible exact H) | (have H2_ := (Option.bind_some _ _).symm.trans H; rw [hy540]; with_reducible exact H2_) | (have H2_ := (Option.bind_some _ _).symm.trans H; with_reducible exact H2_) | with_reducible exact H | (rw [hy540]; exact H) | exact H
       have Ny540 := Aside0.mk hy540
       clear hy540
       by_cases c29 : (y540.length : Int) = 0
       ·rw [if_pos c29] at H
        exact absurd H (by simp)
       ·rw [if_neg c29] at H
        have c29b0 : ((y540.length : Int) == 0) = false := beq_eq_false_iff_ne.mpr c29
        have c29b1 : ((y540.length : Int) != 0) = true := bne_iff_ne.mpr c29
        have c29b2 : ¬ (y540 = []) := fun h_ => c29 (by rw [h_]; rfl)
        obtain ⟨ji30, hji30⟩ : ∃ j_ : Int, (Int.tmod (wrap64 (a3)) (y540.length : Int)) = j_ := ⟨_, rfl⟩
        replace H : (if 0 ≤ (ji30) then (if (ji30) < (y540.length : Int) then (if t538.size + a2.size ≤ 9223372036854775807 then (if (t538.size : Int) = 0 then (none) else (if 0 ≤ (Int.tmod (wrap64 (a3)) (t538.size : Int)) then (if (Int.tmod (wrap64 (a3)) (t538.size : Int)) ≤ (t538.size : Int) then ((some (([a2, t538, strOfNums (y540.set ((ji30) : Int).toNat a4), t538 ++ a2, t538.extract 0 ((Int.tmod (wrap64 (a3)) (t538.size : Int)) : Int).toNat] : List ByteArray) : List ByteArray)).bind fun y544 => (storagebarterlaw08_ManifestBytes.l0 kj7 y544 (y544.length : Int) 0 a1_0 l1_1)) else (none)) else (none))) else (none)) else (none)) else (none)) = some r := by first | (rw [hji30] at H; exact H) | (simp only [hji30] at H ⊢; exact H)
        (try rw [hji30] at A17)
        (try rw [hji30] at A18)
        (try rw [hji30] at A27)
        by_cases c31 : 0 ≤ (ji30)
        ·rw [if_pos c31] at H
         have c31b0 : decide (0 ≤ (ji30)) = true := decide_eq_true c31
         clear c31
         by_cases c32 : (ji30) < (y540.length : Int)
         ·rw [if_pos c32] at H
          have c32b0 : decide ((ji30) < (y540.length : Int)) = true := decide_eq_true c32
          clear c32
          obtain ⟨y543, hy543⟩ : ∃ y_ : List Int, y_ = (y540.set ((ji30) : Int).toNat a4) := ⟨_, rfl⟩
          replace H : (if t538.size + a2.size ≤ 9223372036854775807 then (if (t538.size : Int) = 0 then (none) else (if 0 ≤ (Int.tmod (wrap64 (a3)) (t538.size : Int)) then (if (Int.tmod (wrap64 (a3)) (t538.size : Int)) ≤ (t538.size : Int) then ((some (([a2, t538, strOfNums y543, t538 ++ a2, t538.extract 0 ((Int.tmod (wrap64 (a3)) (t538.size : Int)) : Int).toNat] : List ByteArray) : List ByteArray)).bind fun y544 => (storagebarterlaw08_ManifestBytes.l0 kj7 y544 (y544.length : Int) 0 a1_0 l1_1)) else (none)) else (none))) else (none)) = some r := by first | (rw [hy543]; with_reducible exact H) | (have H2_ := (Option.bind_some _ _).symm.trans H; rw [hy543]; with_reducible exact H2_) | (have H2_ := (Option.bind_some _ _).symm.trans H; with_reducible exact H2_) | with_reducible exact H | (rw [hy543]; exact H) | exact H
          have Ny543 := Aside0.mk hy543
          clear hy543
          by_cases c34 : t538.size + a2.size ≤ 9223372036854775807
          ·rw [if_pos c34] at H
           have c34b0 := eq_true c34
           have c34b1 : decide (t538.size + a2.size ≤ 9223372036854775807) = true := decide_eq_true c34
           try have c34b2 : (9223372036854775807 < t538.size + a2.size) = False := eq_false (Nat.not_lt.2 c34)
           by_cases c35 : (t538.size : Int) = 0
           ·rw [if_pos c35] at H
            exact absurd H (by simp)
           ·rw [if_neg c35] at H
            have c35b0 : ((t538.size : Int) == 0) = false := beq_eq_false_iff_ne.mpr c35
            have c35b1 : ((t538.size : Int) != 0) = true := bne_iff_ne.mpr c35
            have c35e_ : (t538 = ByteArray.empty) = False := eq_false (fun e_ => c35 (by rw [e_]; rfl))
            obtain ⟨ji36, hji36⟩ : ∃ j_ : Int, (Int.tmod (wrap64 (a3)) (t538.size : Int)) = j_ := ⟨_, rfl⟩
            replace H : (if 0 ≤ (ji36) then (if (ji36) ≤ (t538.size : Int) then ((some (([a2, t538, strOfNums y543, t538 ++ a2, t538.extract 0 ((ji36) : Int).toNat] : List ByteArray) : List ByteArray)).bind fun y544 => (storagebarterlaw08_ManifestBytes.l0 kj7 y544 (y544.length : Int) 0 a1_0 l1_1)) else (none)) else (none)) = some r := by first | (rw [hji36] at H; exact H) | (simp only [hji36] at H ⊢; exact H)
            (try rw [hji36] at A17)
            (try rw [hji36] at A18)
            (try rw [hji36] at A27)
            by_cases c37 : 0 ≤ (ji36)
            ·rw [if_pos c37] at H
             have c37b0 := eq_true c37
             have c37b1 : decide (0 ≤ (ji36)) = true := decide_eq_true c37
             clear c37
             by_cases c38 : (ji36) ≤ (t538.size : Int)
             ·rw [if_pos c38] at H
              have c38b0 := eq_true c38
              have c38b1 : decide ((ji36) ≤ (t538.size : Int)) = true := decide_eq_true c38
              clear c38
              obtain ⟨y544, hy544⟩ : ∃ y_ : List ByteArray, y_ = (([a2, t538, strOfNums y543, t538 ++ a2, t538.extract 0 ((ji36) : Int).toNat] : List ByteArray)) := ⟨_, rfl⟩
              replace H : (storagebarterlaw08_ManifestBytes.l0 kj7 y544 (y544.length : Int) 0 a1_0 l1_1) = some r := by first | (rw [hy544]; with_reducible exact H) | (have H2_ := (Option.bind_some _ _).symm.trans H; rw [hy544]; with_reducible exact H2_) | (have H2_ := (Option.bind_some _ _).symm.trans H; with_reducible exact H2_) | with_reducible exact H | (rw [hy544]; exact H) | exact H
              have Ny544 := Aside0.mk hy544
              clear hy544
              have H' := Aside0.mk H
              clear H
              try go_wp2_with (first | ((with_reducible refine gate_callee (f := 16) rfl ?_); refine goesL_ (some 42) rfl rfl Try.func16 (by kernel_rfl) rfl #[.slice A0 l0.length c0] rfl (by (try simp only [List.map_toArray, List.map_cons, List.map_nil]); first | done | rfl | (simp only [List.length_drop, List.length_take]; rfl)) ?_; (with_reducible refine (storagebartermake_New.calls _ _ l0 t529 t530 w _ ?side1 ?side2 ?side3 A17.out).mono ?_); (case side1 => repeat (first | (with_reducible first | exact HB.out | apply below_alloc | apply pw_below_drewN | apply below_drew1 | refine below_set ?_ GE526.out) | exact HB.out)); (case side2 => exact HR0.out); (case side3 => exact HC0.out); rintro e w39 ⟨g531, rfl, hi, hb, hb2⟩; refine ⟨_, rfl, ?_⟩; have n0_ := Aside0.mk (blk_below (g := gb526) (o := .cells #[.int .i64 a1_0, .slice A1_1 l1_1.length c1_1] 32 (0, 0)) (by (with_reducible repeat (first | refine blk_drewN ?_ _ | refine blk_drew ?_ | refine blk_alloc ?_ _)); exact BK526.out) hb2); have n1_ := Aside0.mk (hb); have n2_ := Aside0.mk (hi); have n3_ := Aside0.mk (IsS86.ne_blk hi (blk_below (g := gb526) (o := .cells #[.int .i64 a1_0, .slice A1_1 l1_1.length c1_1] 32 (0, 0)) (by (with_reducible repeat (first | refine blk_drewN ?_ _ | refine blk_drew ?_ | refine blk_alloc ?_ _)); exact BK526.out) hb2) (by decide)); have n4_ := Aside0.mk (Ne.symm (IsS86.ne_blk hi (blk_below (g := gb526) (o := .cells #[.int .i64 a1_0, .slice A1_1 l1_1.length c1_1] 32 (0, 0)) (by (with_reducible repeat (first | refine blk_drewN ?_ _ | refine blk_drew ?_ | refine blk_alloc ?_ _)); exact BK526.out) hb2) (by decide))); clear BK526; clear HB; have BK526 := n0_; have HB := n1_; have HI531 := n2_; have NB531_526 := n3_; have NB526_531 := n4_; clear n0_ n1_ n2_ n3_ n4_; (try clear hb); (try clear hb2); (try clear hk); (try clear hi)) | ((with_reducible refine gate_callee (f := 33) rfl ?_); refine goesL_ (some 43) rfl rfl Try.func33 (by kernel_rfl) rfl #[.pointer (some ⟨g531, 0, none⟩)] rfl (by (try simp only [List.map_toArray, List.map_cons, List.map_nil]); first | done | rfl | (simp only [List.length_drop, List.length_take]; rfl)) ?_; (with_reducible refine (storagebartermake_Version.calls kj7 g531 t529 t530 t532 t533 t536 w _ ?side1 ?side2 A18.out).mono ?_); (case side1 => repeat (first | (with_reducible first | exact HI531.out | apply IsS86.alloc | apply IsS86.drewN | apply IsS86.drew | apply IsS86.set_1 | refine IsS86.far ?_ NB531_526.out _) | exact HI531.out)); (case side2 => repeat (first | (with_reducible first | exact HB.out | apply below_alloc | apply pw_below_drewN | apply below_drew1 | refine below_set ?_ (IsS86.ge HI531.out) | refine below_set ?_ GE526.out) | exact HB.out)); rintro e w40 ⟨v534, rfl, ho0, hi, hb, hk⟩; refine ⟨_, rfl, ?_⟩; have n0_ := Aside0.mk (KeepBut.blk hk (g' := gb526) (o := .cells #[.int .i64 a1_0, .slice A1_1 l1_1.length c1_1] 32 (0, 0)) (by (with_reducible repeat (first | refine blk_drewN ?_ _ | refine blk_drew ?_ | refine blk_alloc ?_ _)); exact BK526.out) NB526_531.out (by simp)); have n1_ := Aside0.mk (Kd.R_lower ho0 (below_size (by repeat (first | (with_reducible first | exact HB.out | apply below_alloc | apply pw_below_drewN | apply below_drew1 | refine below_set ?_ (IsS86.ge HI531.out) | refine below_set ?_ GE526.out) | exact HB.out)))); have n2_ := Aside0.mk (hb); have n3_ := Aside0.mk (hi); clear BK526; clear HB; clear HI531; have BK526 := n0_; have HO535 := n1_; have HB := n2_; have HI531 := n3_; clear n0_ n1_ n2_ n3_; (try clear hb); (try clear hb2); (try clear hk); (try clear hi); (try clear ho0)) | ((with_reducible refine gate_dst (N := 11) rfl ?_); (try (refine gate_guard (by rfl) ?_; dsimp only)); refine box_event ?hg (N := 11) ?hd (cs := #[.int .i64 0, .slice none 0 0]) (t := 32) ?hr ?_; (case hd => rfl); (case hg => rfl); (case hr => first | (go_simp; done) | (go_simp; rfl)); intro gb537 hg w41 hbox hb; have n0_ := Aside0.mk (Kd.R_below (by (with_reducible repeat (first | apply Kd.R_alloc | apply Kd.R_drewN | apply Kd.R_drew)); exact HO535.out) hb); have n1_ := Aside0.mk (blk_below (g := gb526) (o := .cells #[.int .i64 a1_0, .slice A1_1 l1_1.length c1_1] 32 (0, 0)) (by (with_reducible repeat (first | refine blk_drewN ?_ _ | refine blk_drew ?_ | refine blk_alloc ?_ _)); exact BK526.out) hb); have n2_ := Aside0.mk (IsS86.below (by repeat (first | (with_reducible first | exact HI531.out | apply IsS86.alloc | apply IsS86.drewN | apply IsS86.drew | apply IsS86.set_1 | refine IsS86.far ?_ NB531_526.out _) | exact HI531.out)) hb); have n3_ := Aside0.mk (below_step (by repeat (first | (with_reducible first | exact HB.out | apply below_alloc | apply pw_below_drewN | apply below_drew1 | refine below_set ?_ (IsS86.ge HI531.out) | refine below_set ?_ GE526.out) | exact HB.out)) hb); have n4_ := Aside0.mk (hbox); have n5_ := Aside0.mk ((by rw [hg]; exact (below_size (by repeat (first | (with_reducible first | exact HB.out | apply below_alloc | apply pw_below_drewN | apply below_drew1 | refine below_set ?_ (IsS86.ge HI531.out) | refine below_set ?_ GE526.out) | exact HB.out))) : w.heap.size ≤ gb537)); have n6_ := Aside0.mk ((by rw [hg]; exact (below_size (by repeat (first | (with_reducible first | exact HB.out | apply below_alloc | apply pw_below_drewN | apply below_drew1 | refine below_set ?_ (IsS86.ge HI531.out) | refine below_set ?_ GE526.out) | exact HB.out))) : w.heap.size ≤ gb537)); have n7_ := Aside0.mk ((by rw [hg]; exact Nat.ne_of_lt (blk_lt (g := gb526) (o := .cells #[.int .i64 a1_0, .slice A1_1 l1_1.length c1_1] 32 (0, 0)) (by (with_reducible repeat (first | refine blk_drewN ?_ _ | refine blk_drew ?_ | refine blk_alloc ?_ _)); exact BK526.out)) : gb526 ≠ gb537)); have n8_ := Aside0.mk ((by rw [hg]; exact Nat.ne_of_gt (blk_lt (g := gb526) (o := .cells #[.int .i64 a1_0, .slice A1_1 l1_1.length c1_1] 32 (0, 0)) (by (with_reducible repeat (first | refine blk_drewN ?_ _ | refine blk_drew ?_ | refine blk_alloc ?_ _)); exact BK526.out)) : gb537 ≠ gb526)); have n9_ := Aside0.mk ((by rw [hg]; exact Nat.ne_of_lt (IsS86.lt (show IsS86 w _ g531 t529 t536 from by repeat (first | (with_reducible first | exact HI531.out | apply IsS86.alloc | apply IsS86.drewN | apply IsS86.drew | apply IsS86.set_1 | refine IsS86.far ?_ NB531_526.out _) | exact HI531.out))) : g531 ≠ gb537)); have n10_ := Aside0.mk ((by rw [hg]; exact Nat.ne_of_gt (IsS86.lt (show IsS86 w _ g531 t529 t536 from by repeat (first | (with_reducible first | exact HI531.out | apply IsS86.alloc | apply IsS86.drewN | apply IsS86.drew | apply IsS86.set_1 | refine IsS86.far ?_ NB531_526.out _) | exact HI531.out))) : gb537 ≠ g531)); clear HO535; clear BK526; clear HI531; clear HB; have HO535 := n0_; have BK526 := n1_; have HI531 := n2_; have HB := n3_; have BK537 := n4_; have GW537 := n5_; have GE537 := n6_; have NB526_537 := n7_; have NB537_526 := n8_; have NB531_537 := n9_; have NB537_531 := n10_; clear n0_ n1_ n2_ n3_ n4_ n5_ n6_ n7_ n8_ n9_ n10_; clear hb hbox hg; have hnb42 := NB537_526.out; have hnc42 := NB526_537.out; have hnb43 := NB537_531.out; have hnc43 := NB531_537.out; have hcz44_0 : w41.cell? ⟨gb537, 0, none⟩ = some (.int .i64 0) := (blk_cell BK537.out 0).trans rfl; have hcz44_1 : w41.cell? ⟨gb537, 1, none⟩ = some (.slice none 0 0) := (blk_cell BK537.out 1).trans rfl; have hfz44_0 := blk_frozen BK537.out 0; have hfz44_1 := blk_frozen BK537.out 1; obtain ⟨Ao45, co45, eo45⟩ := Kd.R_slice HO535.out; subst eo45) | ((with_reducible refine gate_callee (f := 34) rfl ?_); refine goesL_ (some 49) rfl rfl Try.func34 (by kernel_rfl) rfl #[.agg #[.int .i64 t532, .slice Ao45 t533.length co45]] rfl (by (try simp only [List.map_toArray, List.map_cons, List.map_nil]); first | done | rfl | (simp only [List.length_drop, List.length_take]; rfl)) ?_; (with_reducible refine (storagebarterref08_Encode.calls kj7 t532 _ _ t533 t538 t539 _ ?side1 ?side2 A27.out).mono ?_); (case side1 => refine (Kd.R_reads' (e := 78) (base := w.heap.size) (ok := fun k_ => True) (n := t533.length) (c := co45) ?_).2.2; exact (by (with_reducible repeat (first | apply Kd.R_alloc | apply Kd.R_drewN | apply Kd.R_drew)); exact (Kd.R_mono (Kd.R_far (p := ⟨gb537, 1, none⟩) (Kd.R_far (p := ⟨gb537, 0, none⟩) (Kd.R_types HO535.out BK537.out (by decide)) (fun _ hk => hk.2) (.int .i64 t532)) (fun _ hk => hk.2) (.slice Ao45 t533.length co45)) (fun _ h_ => h_.1)))); (case side2 => exact (Kd.R_reads' HO535.out).2.1); rintro e w46 ⟨rfl, hb⟩; refine ⟨_, rfl, ?_⟩; have n0_ := Aside0.mk (Kd.R_below (by (with_reducible repeat (first | apply Kd.R_alloc | apply Kd.R_drewN | apply Kd.R_drew)); exact (Kd.R_mono (Kd.R_far (p := ⟨gb537, 1, none⟩) (Kd.R_far (p := ⟨gb537, 0, none⟩) (Kd.R_types HO535.out BK537.out (by decide)) (fun _ hk => hk.2) (.int .i64 t532)) (fun _ hk => hk.2) (.slice Ao45 t533.length co45)) (fun _ h_ => h_.1))) hb); have n1_ := Aside0.mk (blk_below (g := gb526) (o := .cells #[.int .i64 a1_0, .slice A1_1 l1_1.length c1_1] 32 (0, 0)) (by (with_reducible repeat (first | refine blk_drewN ?_ _ | refine blk_drew ?_ | refine blk_alloc ?_ _)); refine blk_far ?_ NB526_537.out _; (with_reducible repeat (first | refine blk_drewN ?_ _ | refine blk_drew ?_ | refine blk_alloc ?_ _)); refine blk_far ?_ NB526_537.out _; (with_reducible repeat (first | refine blk_drewN ?_ _ | refine blk_drew ?_ | refine blk_alloc ?_ _)); exact BK526.out) hb); have n2_ := Aside0.mk (IsS86.below (show IsS86 w ((w41.setCell ⟨gb537, 0, none⟩ (.int .i64 t532)).setCell ⟨gb537, 1, none⟩ (.slice Ao45 t533.length co45)) g531 t529 t536 from by repeat (first | (with_reducible first | exact HI531.out | apply IsS86.alloc | apply IsS86.drewN | apply IsS86.drew | apply IsS86.set_1 | refine IsS86.far ?_ NB531_526.out _ | refine IsS86.far ?_ NB531_537.out _) | exact HI531.out)) hb); have n3_ := Aside0.mk (blk_below (g := gb537) (o := .cells #[.int .i64 t532, .slice Ao45 t533.length co45] 32 (0, 0)) (by (with_reducible repeat (first | refine blk_drewN ?_ _ | refine blk_drew ?_ | refine blk_alloc ?_ _)); refine blk_put (cs := #[.int .i64 t532, .slice none 0 0]) ?_ 1 _ rfl; (with_reducible repeat (first | refine blk_drewN ?_ _ | refine blk_drew ?_ | refine blk_alloc ?_ _)); refine blk_put (cs := #[.int .i64 0, .slice none 0 0]) ?_ 0 _ rfl; (with_reducible repeat (first | refine blk_drewN ?_ _ | refine blk_drew ?_ | refine blk_alloc ?_ _)); exact BK537.out) hb); have n4_ := Aside0.mk (below_step (by repeat (first | (with_reducible first | exact HB.out | apply below_alloc | apply pw_below_drewN | apply below_drew1 | refine below_set ?_ (IsS86.ge HI531.out) | refine below_set ?_ GE526.out | refine below_set ?_ GE537.out) | exact HB.out)) hb); clear HO535; clear BK526; clear HI531; clear BK537; clear HB; have HO535 := n0_; have BK526 := n1_; have HI531 := n2_; have BK537 := n3_; have HB := n4_; clear n0_ n1_ n2_ n3_ n4_; (try clear hb); (try clear hb2); (try clear hk); (try clear hi); obtain ⟨go33, co48, w47, hcvz_w47, ho, hb, gb, hg⟩ := Gzb.conv (P := Try.prog) w46 t538 y540 Ny540.out LMc28.out 9 43 5 Try.underlying9 Try.underlying43 Try.underlying5 (by repeat (first | (with_reducible first | exact HB.out | apply below_alloc | apply pw_below_drewN | apply below_drew1 | refine below_set ?_ (IsS86.ge HI531.out) | refine below_set ?_ GE526.out | refine below_set ?_ GE537.out) | exact HB.out)); have hat := True.intro; have GB33 := Aside0.mk gb; clear gb; have n0_ := Aside0.mk (blk_grown (g := gb526) (o := .cells #[.int .i64 a1_0, .slice A1_1 l1_1.length c1_1] 32 (0, 0)) (by (with_reducible repeat (first | refine blk_drewN ?_ _ | refine blk_drew ?_ | refine blk_alloc ?_ _)); exact BK526.out) hg (by simp [Value.ownBlock])); have n1_ := Aside0.mk (IsS86.grown (by repeat (first | (with_reducible first | exact HI531.out | apply IsS86.alloc | apply IsS86.drewN | apply IsS86.drew | apply IsS86.set_1 | refine IsS86.far ?_ NB531_526.out _ | refine IsS86.far ?_ NB531_537.out _) | exact HI531.out)) hg (by simp [Value.ownBlock])); have n2_ := Aside0.mk (Kd.R_grown (by (with_reducible repeat (first | apply Kd.R_alloc | apply Kd.R_drewN | apply Kd.R_drew)); exact HO535.out) hg (fun _ _ => by simp [Value.ownBlock])); have n3_ := Aside0.mk (blk_grown (g := gb537) (o := .cells #[.int .i64 t532, .slice Ao45 t533.length co45] 32 (0, 0)) (by (with_reducible repeat (first | refine blk_drewN ?_ _ | refine blk_drew ?_ | refine blk_alloc ?_ _)); exact BK537.out) hg (by simp [Value.ownBlock])); have n4_ := Aside0.mk (hb); have n5_ := Aside0.mk (ho); clear BK526; clear HI531; clear HO535; clear BK537; clear HB; have BK526 := n0_; have HI531 := n1_; have HO535 := n2_; have BK537 := n3_; have HB := n4_; have HO542 := n5_; clear n0_ n1_ n2_ n3_ n4_ n5_; clear ho hb hg hat; have p33 : 0 ≤ ((ji30) : Int) := of_decide_eq_true (by first | (with_reducible assumption) | assumption); have q33 : ((ji30) : Int) < ((y540.length : Int) : Int) := of_decide_eq_true (by first | (with_reducible assumption) | assumption); obtain ⟨hx33_0, hf33_0⟩ := Gzb.cell HO542.out ((ji30) : Int) p33 q33; replace p33 := eq_true p33; replace q33 := eq_true q33; obtain ⟨hy49_, hz49_⟩ := Gzb.cell HO542.out ((ji30) : Int) (of_decide_eq_true (by first | (with_reducible assumption) | assumption)) (of_decide_eq_true (by first | (with_reducible assumption) | assumption)); have HP49 := Gzb.putg HO542.out ((ji30) : Int) a4) | ((with_reducible refine gate_store (t := 5) (p := 61) rfl ?_); refine store_event (t := 5) (p := 61) (v := ?vo_w50) (w1 := (w47.setCell ⟨go33, ((ji30) : Int).toNat, none⟩ (.int .u8 a4))) ?hg ?ho ?hn ?hr ?_; (case ho => rfl); (case hg => rfl); (case hn => rfl); (case hr => first | (go_simp; done) | (go_simp; rfl)); intro w50 hw; have hg : w47.grownBy w50 (some go33) := (by rw [hw]; exact HP49.2); have hp_ : Gzb.RZ 5 w50 w.heap.size (.slice (some ⟨go33, 0, none⟩) y540.length co48) y543 := (by rw [hw, Ny543.out]; exact HP49.1); clear HP49; have n0_ := Aside0.mk (blk_grown (g := gb526) (o := .cells #[.int .i64 a1_0, .slice A1_1 l1_1.length c1_1] 32 (0, 0)) (by (with_reducible repeat (first | refine blk_drewN ?_ _ | refine blk_drew ?_ | refine blk_alloc ?_ _)); exact BK526.out) hg (Gzb.RZ.ne HO542.out BK526.out (by decide))); have n1_ := Aside0.mk (IsS86.grown (by repeat (first | (with_reducible first | exact HI531.out | apply IsS86.alloc | apply IsS86.drewN | apply IsS86.drew | apply IsS86.set_1 | refine IsS86.far ?_ NB531_526.out _ | refine IsS86.far ?_ NB531_537.out _) | exact HI531.out)) hg (by obtain ⟨_, _, hb9_, _, _⟩ := HI531.out; exact Gzb.RZ.ne HO542.out hb9_ (by decide))); have n2_ := Aside0.mk (Gzb.RZ.over (v := (.slice (some ⟨go33, 0, none⟩) y540.length co48)) (by (with_reducible repeat (first | apply Kd.R_alloc | apply Kd.R_drewN | apply Kd.R_drew)); exact HO535.out) HO542.out (by decide) hg); have n3_ := Aside0.mk (blk_grown (g := gb537) (o := .cells #[.int .i64 t532, .slice Ao45 t533.length co45] 32 (0, 0)) (by (with_reducible repeat (first | refine blk_drewN ?_ _ | refine blk_drew ?_ | refine blk_alloc ?_ _)); exact BK537.out) hg (Gzb.RZ.ne HO542.out BK537.out (by decide))); have n4_ := Aside0.mk (hp_); have n5_ := Aside0.mk ((by rw [hw]; exact below_set (HB.out) GB33.out : Below w.heap.size w w50)); clear BK526; clear HI531; clear HO535; clear BK537; clear HO542; clear HB; have BK526 := n0_; have HI531 := n1_; have HO535 := n2_; have BK537 := n3_; have HO542 := n4_; have HB := n5_; clear n0_ n1_ n2_ n3_ n4_ n5_; clear hg hw hp_))
              have n0_ := Aside0.mk (Kd.R_drew HO535.out)
              have n1_ := Aside0.mk (Gzb.RZ.drew HO542.out)
              have n2_ := Aside0.mk (blk_drew BK526.out)
              have n3_ := Aside0.mk (blk_drew BK537.out)
              have n4_ := Aside0.mk (IsS86.drew HI531.out)
              have n5_ := Aside0.mk (below_drew1 HB.out)
              clear HO535
              clear HO542
              clear BK526
              clear BK537
              clear HI531
              clear HB
              have HO535 := n0_
              have HO542 := n1_
              have BK526 := n2_
              have BK537 := n3_
              have HI531 := n4_
              have HB := n5_
              clear n0_ n1_ n2_ n3_ n4_ n5_
              have hcv52 := Gzb.str (P := Try.prog) Try.underlying43 Try.underlying5 Try.underlying9 HO542.out
              refine start_ (n := 17) (S := fun w' => (convert 43 9 (.slice (some ⟨go33, 0, none⟩) y540.length co48)).run Try.prog w' = .ok (.string (strOfNums y543)) w') (ds := []) #[false, false, false, false, false, false, false, false, false, false, false, false, false, false, false, false, false] (by kernel_rfl) rfl rfl hcv52 (fun hHeld => ?_); refine with_tabW storagebarterlaw08_ManifestBytes.tab11 storagebarterlaw08_ManifestBytes.bits11 (fun HT_ HW_ => ?_)
              generalize w50.drew = w51 at HO535 HO542 BK526 BK537 HI531 HB hHeld ⊢
              refine pu 0 62 (v := ?_) (a' := ?_) HT_ rfl rfl (by kernel_rfl) (fun _ _ _ h => h) (Or.inl ⟨by rfl, ?_⟩) ?_ ?_
              rotate_left; (intro w'; go_simp; with_reducible rfl); rotate_left; (simp only [Act.put, Sa, Sz, Ss, i64_w, i32_w]; rfl)
              refine pu 1 63 (v := ?_) (a' := ?_) HT_ rfl rfl (by kernel_rfl) (fun _ _ _ h => h) (Or.inl ⟨by rfl, ?_⟩) ?_ ?_
              rotate_left; (intro w'; go_simp; with_reducible rfl); rotate_left; (simp only [Act.put, Sa, Sz, Ss, i64_w, i32_w]; rfl)
              refine pu 2 64 (v := ?_) (a' := ?_) HT_ rfl rfl (by kernel_rfl) (fun _ _ _ h => h) (Or.inl ⟨by rfl, ?_⟩) ?_ ?_
              rotate_left; (intro w'; go_simp; with_reducible rfl); rotate_left; (simp only [Act.put, Sa, Sz, Ss, i64_w, i32_w]; rfl)
              refine tk 3 65 (v := ?_) (a' := ?_) HT_ HW_ rfl rfl (by kernel_rfl) (fun _ _ _ h => h) (Or.inl ⟨by rfl, ?_⟩) hHeld ?_ ?_
              rotate_left; (intro w' s0; replace s0 : (convert 43 9 (.slice (some ⟨go33, 0, none⟩) y540.length co48)).run Try.prog w' = .ok (.string (strOfNums y543)) w' := s0; go_simp; with_reducible rfl); rotate_left; (simp only [Act.put, Sa, Sz, Ss, i64_w, i32_w]; rfl)
              refine pu 4 66 (v := ?_) (a' := ?_) HT_ rfl rfl (by kernel_rfl) (fun _ _ _ h => h) (Or.inl ⟨by rfl, ?_⟩) ?_ ?_
              rotate_left; (intro w'; go_simp; with_reducible rfl); rotate_left; (simp only [Act.put, Sa, Sz, Ss, i64_w, i32_w]; rfl)
              refine pu 5 67 (v := ?_) (a' := ?_) HT_ rfl rfl (by kernel_rfl) (fun _ _ _ h => h) (Or.inl ⟨by rfl, ?_⟩) ?_ ?_
              rotate_left; (intro w'; go_simp; with_reducible rfl); rotate_left; (simp only [Act.put, Sa, Sz, Ss, i64_w, i32_w]; rfl)
              refine pu 6 68 (v := ?_) (a' := ?_) HT_ rfl rfl (by kernel_rfl) (fun _ _ _ h => h) (Or.inl ⟨by rfl, ?_⟩) ?_ ?_
              rotate_left; (intro w'; go_simp; with_reducible rfl); rotate_left; (simp only [Act.put, Sa, Sz, Ss, i64_w, i32_w]; rfl)
              refine pu 7 69 (v := ?_) (a' := ?_) HT_ rfl rfl (by kernel_rfl) (fun _ _ _ h => h) (Or.inl ⟨by rfl, ?_⟩) ?_ ?_
              rotate_left; (intro w'; go_simp; with_reducible rfl); rotate_left; (simp only [Act.put, Sa, Sz, Ss, i64_w, i32_w]; rfl)
              refine pu 8 70 (v := ?_) (a' := ?_) HT_ rfl rfl (by kernel_rfl) (fun _ _ _ h => h) (Or.inl ⟨by rfl, ?_⟩) ?_ ?_
              rotate_left; (intro w'; go_simp; with_reducible rfl); rotate_left; (simp only [Act.put, Sa, Sz, Ss, i64_w, i32_w]; rfl)
              refine pu 9 71 (v := ?_) (a' := ?_) HT_ rfl rfl (by kernel_rfl) (fun _ _ _ h => h) (Or.inl ⟨by rfl, ?_⟩) ?_ ?_
              rotate_left; (intro w'; go_simp; with_reducible rfl); rotate_left; (simp only [Act.put, Sa, Sz, Ss, i64_w, i32_w]; rfl)
              refine pu 10 72 (v := ?_) (a' := ?_) HT_ rfl rfl (by kernel_rfl) (fun _ _ _ h => h) (Or.inl ⟨by rfl, ?_⟩) ?_ ?_
              rotate_left; (intro w'; go_simp; with_reducible rfl); rotate_left; (simp only [Act.put, Sa, Sz, Ss, i64_w, i32_w]; rfl)
              refine pu 11 73 (v := ?_) (a' := ?_) HT_ rfl rfl (by kernel_rfl) (fun _ _ _ h => h) (Or.inl ⟨by rfl, ?_⟩) ?_ ?_
              rotate_left; (intro w'; go_simp; with_reducible rfl); rotate_left; (simp only [Act.put, Sa, Sz, Ss, i64_w, i32_w]; rfl)
              refine pu 12 74 (v := ?_) (a' := ?_) HT_ rfl rfl (by kernel_rfl) (fun _ _ _ h => h) (Or.inl ⟨by rfl, ?_⟩) ?_ ?_
              rotate_left; (intro w'; go_simp; with_reducible rfl); rotate_left; (simp only [Act.put, Sa, Sz, Ss, i64_w, i32_w]; rfl)
              refine pu 13 75 (v := ?_) (a' := ?_) HT_ rfl rfl (by kernel_rfl) (fun _ _ _ h => h) (Or.inl ⟨by rfl, ?_⟩) ?_ ?_
              rotate_left; (intro w'; go_simp; with_reducible rfl); rotate_left; (simp only [Act.put, Sa, Sz, Ss, i64_w, i32_w]; rfl)
              refine pu 16 78 (v := ?_) (a' := ?_) HT_ rfl rfl (by kernel_rfl) (fun _ _ _ h => h) (Or.inl ⟨by rfl, ?_⟩) ?_ ?_
              rotate_left; (intro w'; go_simp; with_reducible rfl); rotate_left; (simp only [Act.put, Sa, Sz, Ss, i64_w, i32_w]; rfl)
              refine one_ (i := 14) (N := some 76) #[true, true, true, true, true, true, true, true, true, true, true, true, true, true, true, false, true] rfl rfl (one_of HT_.out (by kernel_rfl)) (by decide) (fun K hK => ?_)
              refine Kd.R_lit_step Kd.string _ 9 ?hg (N := 76) ?hd (xs := ([a2, t538, strOfNums y543, t538 ++ a2, t538.extract 0 ((ji36) : Int).toNat] : List ByteArray)) (inner := [.string a2, .string t538, .string (strOfNums y543), .string (t538 ++ a2), .string (t538.extract 0 ((ji36) : Int).toNat)]) (ok := fun _ => True) (okp := fun _ => True) ?hr ?hp (fun _ hk => hk) trivial (Below.refl _ _) (Nat.le_refl _) (by simp) ?_; (case hd => rfl); (case hg => rfl); (case hr => first | (go_simp; done) | (go_simp; rfl)); (case hp => exact (Reps.one (show Kd.M Kd.string _ _ _ a2 [.string a2] from rfl) (Reps.one (show Kd.M Kd.string _ _ _ t538 [.string t538] from rfl) (Reps.one (show Kd.M Kd.string _ _ _ (strOfNums y543) [.string (strOfNums y543)] from rfl) (Reps.one (show Kd.M Kd.string _ _ _ (t538 ++ a2) [.string (t538 ++ a2)] from rfl) (Reps.one (show Kd.M Kd.string _ _ _ (t538.extract 0 ((ji36) : Int).toNat) [.string (t538.extract 0 ((ji36) : Int).toNat)] from rfl) (Reps.none _ _)))))))
              intro v545 w53 ho54 hb hg_ hnew_
              clear hg_ hnew_
              (first | rw [← Ny544.out] at ho54 | (simp only [Int.reduceToNat] at ho54; rw [← Ny544.out] at ho54))
              have n0_ := Aside0.mk (Kd.R_below (by (with_reducible repeat (first | apply Kd.R_alloc | apply Kd.R_drewN | apply Kd.R_drew)); exact HO535.out) hb)
              have n1_ := Aside0.mk (Gzb.RZ.below (by (with_reducible repeat (first | apply Gzb.RZ.alloc | apply Gzb.RZ.drewN | apply Gzb.RZ.drew)); exact HO542.out) hb)
              have n2_ := Aside0.mk (Kd.R_lower ho54 (below_size (by repeat (first | (with_reducible first | exact HB.out | apply below_alloc | apply pw_below_drewN | apply below_drew1 | refine below_set ?_ (IsS86.ge HI531.out) | refine below_set ?_ GE526.out | refine below_set ?_ GE537.out) | exact HB.out))))
              have n3_ := Aside0.mk (blk_below (g := gb526) (o := .cells #[.int .i64 a1_0, .slice A1_1 l1_1.length c1_1] 32 (0, 0)) (by (with_reducible repeat (first | refine blk_drewN ?_ _ | refine blk_drew ?_ | refine blk_alloc ?_ _)); exact BK526.out) hb)
              have n4_ := Aside0.mk (IsS86.below (by repeat (first | (with_reducible first | exact HI531.out | apply IsS86.alloc | apply IsS86.drewN | apply IsS86.drew | apply IsS86.set_1 | refine IsS86.far ?_ NB531_526.out _ | refine IsS86.far ?_ NB531_537.out _) | exact HI531.out)) hb)
              have n5_ := Aside0.mk (blk_below (g := gb537) (o := .cells #[.int .i64 t532, .slice Ao45 t533.length co45] 32 (0, 0)) (by (with_reducible repeat (first | refine blk_drewN ?_ _ | refine blk_drew ?_ | refine blk_alloc ?_ _)); exact BK537.out) hb)
              have n6_ := Aside0.mk (below_step (by repeat (first | (with_reducible first | exact HB.out | apply below_alloc | apply pw_below_drewN | apply below_drew1 | refine below_set ?_ (IsS86.ge HI531.out) | refine below_set ?_ GE526.out | refine below_set ?_ GE537.out) | exact HB.out)) hb)
              clear HO535
              clear HO542
              clear BK526
              clear HI531
              clear BK537
              clear HB
              have HO535 := n0_
              have HO542 := n1_
              have HO546 := n2_
              have BK526 := n3_
              have HI531 := n4_
              have BK537 := n5_
              have HB := n6_
              clear n0_ n1_ n2_ n3_ n4_ n5_ n6_
              clear hb ho54
              obtain ⟨Ao55, co55, eo55⟩ := Kd.R_slice HO546.out
              (first | subst eo55 | (injection eo55 with f1_ f2_ f3_; have f4_ := f1_.symm; have f5_ := f3_.symm; clear f1_ f2_ f3_; subst f4_; subst f5_))
              refine hK.out _ _ (Gzb.str (P := Try.prog) Try.underlying43 Try.underlying5 Try.underlying9 HO542.out) (fun hHeld => ?_)
              clear hK K
              refine norm_ (a' := ?_) ?_ ?_
              rotate_left
              ·show Act.put _ (some 76) _ = _
               simp only [Act.put, Sa, Sz, Ss, i64_w, i32_w]
               rfl
              refine pu 15 77 (v := ?_) (a' := ?_) HT_ rfl rfl (by kernel_rfl) (fun _ _ _ h => h) (Or.inl ⟨by rfl, ?_⟩) ?_ ?_
              rotate_left; (intro w'; go_simp; with_reducible rfl); rotate_left; (simp only [Act.put, Sa, Sz, Ss, i64_w, i32_w]; rfl)
              refine done_ (done_of HT_.out (by kernel_rfl)) ?_
              try go_wp2
              go_loopg [78] kj7 (fun kq v78 w' => ∃ (x78_2 : Int), v78 = .int .i64 x78_2 ∧ Aside0 (storagebarterlaw08_ManifestBytes.l0 kq y544 (y544.length : Int) x78_2 a1_0 l1_1 = some r) ∧ Aside0 (kq ≤ kj7) ∧ Aside0 (Kd.R Kd.string 9 w' w.heap.size (fun _ => True) (.slice Ao55 y544.length co55) y544) ∧ Aside0 (Kd.R k78 78 w' w.heap.size (fun _ => True) (.slice Ao45 t533.length co45) t533) ∧ Aside0 (w'.heap[gb526]? = some (.cells #[.int .i64 a1_0, (.slice A1_1 l1_1.length c1_1)] 32 (0, 0))) ∧ Aside0 (w'.heap[gb537]? = some (.cells #[.int .i64 t532, (.slice Ao45 t533.length co45)] 32 (0, 0))) ∧ Aside0 (Below w.heap.size w w'))
              case atStart => exact ⟨(0), (by first | rfl | (simp; done) | (simp [*]; done)), H', ⟨Nat.le_refl _⟩, ⟨by (with_reducible repeat (first | apply Kd.R_alloc | apply Kd.R_drewN | apply Kd.R_drew)); exact HO546.out⟩, ⟨by (with_reducible repeat (first | apply Kd.R_alloc | apply Kd.R_drewN | apply Kd.R_drew)); exact HO535.out⟩, ⟨by (with_reducible repeat (first | refine blk_drewN ?_ _ | refine blk_drew ?_ | refine blk_alloc ?_ _)); exact BK526.out⟩, ⟨by (with_reducible repeat (first | refine blk_drewN ?_ _ | refine blk_drew ?_ | refine blk_alloc ?_ _)); exact BK537.out⟩, ⟨by repeat (first | (with_reducible first | exact HB.out | apply below_alloc | apply pw_below_drewN | apply below_drew1 | refine below_set ?_ (IsS86.ge HI531.out) | refine below_set ?_ GE526.out | refine below_set ?_ GE537.out) | exact HB.out)⟩⟩
              case round =>
               clear H'
               try clear c1
               try clear c2
               try clear p2
               try clear c3
               try clear p3
               try clear q3
               try clear hx3
               try clear c4
               try clear hcv5
               try clear c6
               try clear p6
               try clear c7
               try clear c12
               try clear c13
               try clear c13b0
               try clear c13b1
               try clear c14
               try clear c16
               try clear c19
               try clear c19b0
               try clear c19b1
               try clear c23
               try clear c24
               try clear c28
               try clear c29
               try clear c29b0
               try clear c29b1
               try clear c29b2
               try clear c31
               try clear c31b0
               try clear c32
               try clear c32b0
               try clear c33
               try clear p33
               try clear q33
               try clear hx33
               try clear hf33
               try clear c34
               try clear c34b0
               try clear c34b1
               try clear c34b2
               try clear c35
               try clear c35b0
               try clear c35b1
               try clear c37
               try clear c37b0
               try clear c37b1
               try clear c38
               try clear c38b0
               try clear c38b1
               try clear c42
               try clear c43
               try clear hcv52
               try clear hcz14_0
               try clear hcz14_1
               try clear hcz15_0
               try clear hcz15_1
               try clear hcz25_0
               try clear hcz25_1
               try clear hcz44_0
               try clear hcz44_1
               try clear hfz14_0
               try clear hfz14_1
               try clear hfz15_0
               try clear hfz15_1
               try clear hfz25_0
               try clear hfz25_1
               try clear hfz44_0
               try clear hfz44_1
               try clear hx33_0
               try clear p2
               try clear p33
               try clear q33
               obtain ⟨x78_2, rfl, HA, HK2, HO_76, HO_538001, BK526, BK537, HB⟩ := hrel
               cases gk with
               | zero => exact absurd HA.out (by simp [storagebarterlaw08_ManifestBytes.l0])
               | succ k2 =>
                have H := HA.out
                clear HA
                simp only [storagebarterlaw08_ManifestBytes.l0] at H
                by_cases c56 : x78_2 < (y544.length : Int)
                ·rw [if_pos c56] at H
                 have c56b0 : decide (x78_2 < (y544.length : Int)) = true := decide_eq_true c56
                 clear c56
                 by_cases c57 : 0 ≤ x78_2
                 ·rw [if_pos c57] at H
                  have c57b0 : decide (0 ≤ x78_2) = true := decide_eq_true c57
                  clear c57
                  by_cases c58 : x78_2 < (y544.length : Int)
                  ·rw [if_pos c58] at H
                   have c58b0 : decide (x78_2 < (y544.length : Int)) = true := decide_eq_true c58
                   clear c58
                   replace H := Option.bind_eq_some_iff.mp H
                   obtain ⟨⟨t552, t553, t556⟩, A590, H⟩ := H
                   replace H : ((storagebarterref08_Decode.f k2 (rdOf ByteArray.empty y544 x78_2)).bind fun bt558 => (if t556 = bt558.2.2 then ((storagebarterref08_Same.f k2 t552 t553 bt558.1 bt558.2.1).bind fun t564 => (if t564 = true then (storagebarterlaw08_ManifestBytes.l0 k2 y544 (y544.length : Int) (wrap64 (x78_2 + 1)) a1_0 l1_1) else (some false))) else (some false))) = some r := H
                   have A59 := Aside0.mk A590
                   clear A590
                   replace H := Option.bind_eq_some_iff.mp H
                   obtain ⟨⟨t558, t559, t562⟩, A600, H⟩ := H
                   replace H : (if t556 = t562 then ((storagebarterref08_Same.f k2 t552 t553 t558 t559).bind fun t564 => (if t564 = true then (storagebarterlaw08_ManifestBytes.l0 k2 y544 (y544.length : Int) (wrap64 (x78_2 + 1)) a1_0 l1_1) else (some false))) else (some false)) = some r := H
                   have A60 := Aside0.mk A600
                   clear A600
                   by_cases c61 : t556 = t562
                   ·rw [if_pos c61] at H
                    have c61b0 : (t556 == t562) = true := beq_iff_eq.mpr c61
                    have c61b1 : (t556 != t562) = false := bne_eq_false_iff_eq.mpr c61
                    clear c61
                    replace H := Option.bind_eq_some_iff.mp H
                    obtain ⟨t564, A620, H⟩ := H
                    replace H : (if t564 = true then (storagebarterlaw08_ManifestBytes.l0 k2 y544 (y544.length : Int) (wrap64 (x78_2 + 1)) a1_0 l1_1) else (some false)) = some r := H
                    have A62 := Aside0.mk A620
                    clear A620
                    by_cases c63 : t564 = true
                    ·subst c63
                     have H1 : (storagebarterlaw08_ManifestBytes.l0 k2 y544 (y544.length : Int) (wrap64 (x78_2 + 1)) a1_0 l1_1) = some r := by rw [if_pos rfl] at H; exact H
                     clear H
                     have H := H1
                     clear H1
                     have H' := Aside0.mk H
                     clear H
                     have p551 : 0 ≤ (x78_2 : Int) := of_decide_eq_true (by first | (with_reducible assumption) | assumption)
                     have q551 : x78_2 < (y544.length : Int) := of_decide_eq_true (by first | (with_reducible assumption) | assumption)
                     obtain ⟨ad551, e551, hx551_0⟩ := Kd.at_string (Kd.R_reads' HO_76.out).2.2 x78_2 p551 q551
                     cases e551
                     replace p551 := eq_true p551
                     replace q551 := eq_true q551
                     go_wp2_with (first | ((with_reducible refine gate_callee (f := 35) rfl ?_); refine goesL_ (some 84) rfl rfl Try.func35 (by kernel_rfl) rfl #[.string (rdOf ByteArray.empty y544 x78_2)] rfl (by (try simp only [List.map_toArray, List.map_cons, List.map_nil]); first | done | rfl | (simp only [List.length_drop, List.length_take]; rfl)) ?_; (with_reducible refine (manifest_Decode.calls k2 (rdOf ByteArray.empty y544 x78_2) t552 t553 t556 _ A59.out).mono ?_); rintro e w64 ⟨v554, rfl, ho0, hb⟩; refine ⟨_, rfl, ?_⟩; have n0_ := Aside0.mk (Kd.R_below (by (with_reducible repeat (first | apply Kd.R_alloc | apply Kd.R_drewN | apply Kd.R_drew)); exact HO_76.out) hb); have n1_ := Aside0.mk (Kd.R_elder' (by (with_reducible repeat (first | apply Kd.R_alloc | apply Kd.R_drewN | apply Kd.R_drew)); exact HO_538001.out) (Kd.R_base ho0) hb); have n2_ := Aside0.mk (Kd.R_lower (Kd.R_new' ho0 (Kd.R_lt (by (with_reducible repeat (first | apply Kd.R_alloc | apply Kd.R_drewN | apply Kd.R_drew)); exact HO_538001.out))) (below_size (by repeat (first | (with_reducible first | exact HB.out | apply below_alloc | apply pw_below_drewN | apply below_drew1 | refine below_set ?_ GE526.out | refine below_set ?_ GE537.out) | exact HB.out)))); have n3_ := Aside0.mk (blk_below (g := gb526) (o := .cells #[.int .i64 a1_0, .slice A1_1 l1_1.length c1_1] 32 (0, 0)) (by (with_reducible repeat (first | refine blk_drewN ?_ _ | refine blk_drew ?_ | refine blk_alloc ?_ _)); exact BK526.out) hb); have n4_ := Aside0.mk (blk_below (g := gb537) (o := .cells #[.int .i64 t532, .slice Ao45 t533.length co45] 32 (0, 0)) (by (with_reducible repeat (first | refine blk_drewN ?_ _ | refine blk_drew ?_ | refine blk_alloc ?_ _)); exact BK537.out) hb); have n5_ := Aside0.mk (below_step (by repeat (first | (with_reducible first | exact HB.out | apply below_alloc | apply pw_below_drewN | apply below_drew1 | refine below_set ?_ GE526.out | refine below_set ?_ GE537.out) | exact HB.out)) hb); clear HO_76; clear HO_538001; clear BK526; clear BK537; clear HB; have HO_76 := n0_; have HO_538001 := n1_; have HO555 := n2_; have BK526 := n3_; have BK537 := n4_; have HB := n5_; clear n0_ n1_ n2_ n3_ n4_ n5_; (try clear hb); (try clear hb2); (try clear hk); (try clear hi); (try clear ho0)) | ((with_reducible refine gate_dst (N := 17) rfl ?_); (try (refine gate_guard (by rfl) ?_; dsimp only)); refine box_event ?hg (N := 17) ?hd (cs := #[.int .i64 0, .slice none 0 0]) (t := 32) ?hr ?_; (case hd => rfl); (case hg => rfl); (case hr => first | (go_simp; done) | (go_simp; rfl)); intro gb557 hg w65 hbox hb; have n0_ := Aside0.mk (Kd.R_below (by (with_reducible repeat (first | apply Kd.R_alloc | apply Kd.R_drewN | apply Kd.R_drew)); exact HO_76.out) hb); have n1_ := Aside0.mk (Kd.R_below (by (with_reducible repeat (first | apply Kd.R_alloc | apply Kd.R_drewN | apply Kd.R_drew)); exact HO_538001.out) hb); have n2_ := Aside0.mk (Kd.R_below (by (with_reducible repeat (first | apply Kd.R_alloc | apply Kd.R_drewN | apply Kd.R_drew)); exact HO555.out) hb); have n3_ := Aside0.mk (blk_below (g := gb526) (o := .cells #[.int .i64 a1_0, .slice A1_1 l1_1.length c1_1] 32 (0, 0)) (by (with_reducible repeat (first | refine blk_drewN ?_ _ | refine blk_drew ?_ | refine blk_alloc ?_ _)); exact BK526.out) hb); have n4_ := Aside0.mk (blk_below (g := gb537) (o := .cells #[.int .i64 t532, .slice Ao45 t533.length co45] 32 (0, 0)) (by (with_reducible repeat (first | refine blk_drewN ?_ _ | refine blk_drew ?_ | refine blk_alloc ?_ _)); exact BK537.out) hb); have n5_ := Aside0.mk (below_step (by repeat (first | (with_reducible first | exact HB.out | apply below_alloc | apply pw_below_drewN | apply below_drew1 | refine below_set ?_ GE526.out | refine below_set ?_ GE537.out) | exact HB.out)) hb); have n6_ := Aside0.mk (hbox); have n7_ := Aside0.mk ((by rw [hg]; exact (below_size (by repeat (first | (with_reducible first | exact HB.out | apply below_alloc | apply pw_below_drewN | apply below_drew1 | refine below_set ?_ GE526.out | refine below_set ?_ GE537.out) | exact HB.out))) : w.heap.size ≤ gb557)); have n8_ := Aside0.mk ((by rw [hg]; exact (below_size (by repeat (first | (with_reducible first | exact HB.out | apply below_alloc | apply pw_below_drewN | apply below_drew1 | refine below_set ?_ GE526.out | refine below_set ?_ GE537.out) | exact HB.out))) : w.heap.size ≤ gb557)); have n9_ := Aside0.mk ((by rw [hg]; exact Nat.ne_of_lt (blk_lt (g := gb526) (o := .cells #[.int .i64 a1_0, .slice A1_1 l1_1.length c1_1] 32 (0, 0)) (by (with_reducible repeat (first | refine blk_drewN ?_ _ | refine blk_drew ?_ | refine blk_alloc ?_ _)); exact BK526.out)) : gb526 ≠ gb557)); have n10_ := Aside0.mk ((by rw [hg]; exact Nat.ne_of_gt (blk_lt (g := gb526) (o := .cells #[.int .i64 a1_0, .slice A1_1 l1_1.length c1_1] 32 (0, 0)) (by (with_reducible repeat (first | refine blk_drewN ?_ _ | refine blk_drew ?_ | refine blk_alloc ?_ _)); exact BK526.out)) : gb557 ≠ gb526)); have n11_ := Aside0.mk ((by rw [hg]; exact Nat.ne_of_lt (blk_lt (g := gb537) (o := .cells #[.int .i64 t532, .slice Ao45 t533.length co45] 32 (0, 0)) (by (with_reducible repeat (first | refine blk_drewN ?_ _ | refine blk_drew ?_ | refine blk_alloc ?_ _)); exact BK537.out)) : gb537 ≠ gb557)); have n12_ := Aside0.mk ((by rw [hg]; exact Nat.ne_of_gt (blk_lt (g := gb537) (o := .cells #[.int .i64 t532, .slice Ao45 t533.length co45] 32 (0, 0)) (by (with_reducible repeat (first | refine blk_drewN ?_ _ | refine blk_drew ?_ | refine blk_alloc ?_ _)); exact BK537.out)) : gb557 ≠ gb537)); clear HO_76; clear HO_538001; clear HO555; clear BK526; clear BK537; clear HB; have HO_76 := n0_; have HO_538001 := n1_; have HO555 := n2_; have BK526 := n3_; have BK537 := n4_; have HB := n5_; have BK557 := n6_; have GW557 := n7_; have GE557 := n8_; have NB526_557 := n9_; have NB557_526 := n10_; have NB537_557 := n11_; have NB557_537 := n12_; clear n0_ n1_ n2_ n3_ n4_ n5_ n6_ n7_ n8_ n9_ n10_ n11_ n12_; clear hb hbox hg; have hnb66 := NB557_526.out; have hnc66 := NB526_557.out; have hnb67 := NB557_537.out; have hnc67 := NB537_557.out; have hcz68_0 : w65.cell? ⟨gb557, 0, none⟩ = some (.int .i64 0) := (blk_cell BK557.out 0).trans rfl; have hcz68_1 : w65.cell? ⟨gb557, 1, none⟩ = some (.slice none 0 0) := (blk_cell BK557.out 1).trans rfl; have hfz68_0 := blk_frozen BK557.out 0; have hfz68_1 := blk_frozen BK557.out 1; obtain ⟨Ao69, co69, eo69⟩ := Kd.R_slice HO555.out; subst eo69) | ((with_reducible refine gate_callee (f := 36) rfl ?_); refine goesL_ (some 89) rfl rfl Try.func36 (by kernel_rfl) rfl #[.string (rdOf ByteArray.empty y544 x78_2)] rfl (by (try simp only [List.map_toArray, List.map_cons, List.map_nil]); first | done | rfl | (simp only [List.length_drop, List.length_take]; rfl)) ?_; (with_reducible refine (storagebarterref08_Decode.calls k2 (rdOf ByteArray.empty y544 x78_2) t558 t559 t562 _ A60.out).mono ?_); rintro e w70 ⟨v560, rfl, ho0, hb⟩; refine ⟨_, rfl, ?_⟩; have n0_ := Aside0.mk (Kd.R_below (by (with_reducible repeat (first | apply Kd.R_alloc | apply Kd.R_drewN | apply Kd.R_drew)); exact (Kd.R_mono (Kd.R_far (p := ⟨gb557, 1, none⟩) (Kd.R_far (p := ⟨gb557, 0, none⟩) (Kd.R_types HO_76.out BK557.out (by decide)) (fun _ hk => hk.2) (.int .i64 t552)) (fun _ hk => hk.2) (.slice Ao69 t553.length co69)) (fun _ h_ => h_.1))) hb); have n1_ := Aside0.mk (Kd.R_elder' (by (with_reducible repeat (first | apply Kd.R_alloc | apply Kd.R_drewN | apply Kd.R_drew)); exact (Kd.R_mono (Kd.R_far (p := ⟨gb557, 1, none⟩) (Kd.R_far (p := ⟨gb557, 0, none⟩) (Kd.R_types HO_538001.out BK557.out (by decide)) (fun _ hk => hk.2) (.int .i64 t552)) (fun _ hk => hk.2) (.slice Ao69 t553.length co69)) (fun _ h_ => h_.1))) (Kd.R_base ho0) hb); have n2_ := Aside0.mk (Kd.R_elder' (by (with_reducible repeat (first | apply Kd.R_alloc | apply Kd.R_drewN | apply Kd.R_drew)); exact (Kd.R_mono (Kd.R_far (p := ⟨gb557, 1, none⟩) (Kd.R_far (p := ⟨gb557, 0, none⟩) (Kd.R_types HO555.out BK557.out (by decide)) (fun _ hk => hk.2) (.int .i64 t552)) (fun _ hk => hk.2) (.slice Ao69 t553.length co69)) (fun _ h_ => h_.1))) (Kd.R_base ho0) hb); have n3_ := Aside0.mk (Kd.R_lower (Kd.R_new' (Kd.R_new' ho0 (Kd.R_lt (by (with_reducible repeat (first | apply Kd.R_alloc | apply Kd.R_drewN | apply Kd.R_drew)); exact (Kd.R_mono (Kd.R_far (p := ⟨gb557, 1, none⟩) (Kd.R_far (p := ⟨gb557, 0, none⟩) (Kd.R_types HO_538001.out BK557.out (by decide)) (fun _ hk => hk.2) (.int .i64 t552)) (fun _ hk => hk.2) (.slice Ao69 t553.length co69)) (fun _ h_ => h_.1))))) (Kd.R_lt (by (with_reducible repeat (first | apply Kd.R_alloc | apply Kd.R_drewN | apply Kd.R_drew)); exact (Kd.R_mono (Kd.R_far (p := ⟨gb557, 1, none⟩) (Kd.R_far (p := ⟨gb557, 0, none⟩) (Kd.R_types HO555.out BK557.out (by decide)) (fun _ hk => hk.2) (.int .i64 t552)) (fun _ hk => hk.2) (.slice Ao69 t553.length co69)) (fun _ h_ => h_.1))))) (below_size (by repeat (first | (with_reducible first | exact HB.out | apply below_alloc | apply pw_below_drewN | apply below_drew1 | refine below_set ?_ GE526.out | refine below_set ?_ GE537.out | refine below_set ?_ GE557.out) | exact HB.out)))); have n4_ := Aside0.mk (blk_below (g := gb526) (o := .cells #[.int .i64 a1_0, .slice A1_1 l1_1.length c1_1] 32 (0, 0)) (by (with_reducible repeat (first | refine blk_drewN ?_ _ | refine blk_drew ?_ | refine blk_alloc ?_ _)); refine blk_far ?_ NB526_557.out _; (with_reducible repeat (first | refine blk_drewN ?_ _ | refine blk_drew ?_ | refine blk_alloc ?_ _)); refine blk_far ?_ NB526_557.out _; (with_reducible repeat (first | refine blk_drewN ?_ _ | refine blk_drew ?_ | refine blk_alloc ?_ _)); exact BK526.out) hb); have n5_ := Aside0.mk (blk_below (g := gb537) (o := .cells #[.int .i64 t532, .slice Ao45 t533.length co45] 32 (0, 0)) (by (with_reducible repeat (first | refine blk_drewN ?_ _ | refine blk_drew ?_ | refine blk_alloc ?_ _)); refine blk_far ?_ NB537_557.out _; (with_reducible repeat (first | refine blk_drewN ?_ _ | refine blk_drew ?_ | refine blk_alloc ?_ _)); refine blk_far ?_ NB537_557.out _; (with_reducible repeat (first | refine blk_drewN ?_ _ | refine blk_drew ?_ | refine blk_alloc ?_ _)); exact BK537.out) hb); have n6_ := Aside0.mk (blk_below (g := gb557) (o := .cells #[.int .i64 t552, .slice Ao69 t553.length co69] 32 (0, 0)) (by (with_reducible repeat (first | refine blk_drewN ?_ _ | refine blk_drew ?_ | refine blk_alloc ?_ _)); refine blk_put (cs := #[.int .i64 t552, .slice none 0 0]) ?_ 1 _ rfl; (with_reducible repeat (first | refine blk_drewN ?_ _ | refine blk_drew ?_ | refine blk_alloc ?_ _)); refine blk_put (cs := #[.int .i64 0, .slice none 0 0]) ?_ 0 _ rfl; (with_reducible repeat (first | refine blk_drewN ?_ _ | refine blk_drew ?_ | refine blk_alloc ?_ _)); exact BK557.out) hb); have n7_ := Aside0.mk (below_step (by repeat (first | (with_reducible first | exact HB.out | apply below_alloc | apply pw_below_drewN | apply below_drew1 | refine below_set ?_ GE526.out | refine below_set ?_ GE537.out | refine below_set ?_ GE557.out) | exact HB.out)) hb); clear HO_76; clear HO_538001; clear HO555; clear BK526; clear BK537; clear BK557; clear HB; have HO_76 := n0_; have HO_538001 := n1_; have HO555 := n2_; have HO561 := n3_; have BK526 := n4_; have BK537 := n5_; have BK557 := n6_; have HB := n7_; clear n0_ n1_ n2_ n3_ n4_ n5_ n6_ n7_; (try clear hb); (try clear hb2); (try clear hk); (try clear hi); (try clear ho0)) | ((with_reducible refine gate_dst (N := 19) rfl ?_); (try (refine gate_guard (by rfl) ?_; dsimp only)); refine box_event ?hg (N := 19) ?hd (cs := #[.int .i64 0, .slice none 0 0]) (t := 32) ?hr ?_; (case hd => rfl); (case hg => rfl); (case hr => first | (go_simp; done) | (go_simp; rfl)); intro gb563 hg w71 hbox hb; have n0_ := Aside0.mk (Kd.R_below (by (with_reducible repeat (first | apply Kd.R_alloc | apply Kd.R_drewN | apply Kd.R_drew)); exact HO_76.out) hb); have n1_ := Aside0.mk (Kd.R_below (by (with_reducible repeat (first | apply Kd.R_alloc | apply Kd.R_drewN | apply Kd.R_drew)); exact HO_538001.out) hb); have n2_ := Aside0.mk (Kd.R_below (by (with_reducible repeat (first | apply Kd.R_alloc | apply Kd.R_drewN | apply Kd.R_drew)); exact HO555.out) hb); have n3_ := Aside0.mk (Kd.R_below (by (with_reducible repeat (first | apply Kd.R_alloc | apply Kd.R_drewN | apply Kd.R_drew)); exact HO561.out) hb); have n4_ := Aside0.mk (blk_below (g := gb526) (o := .cells #[.int .i64 a1_0, .slice A1_1 l1_1.length c1_1] 32 (0, 0)) (by (with_reducible repeat (first | refine blk_drewN ?_ _ | refine blk_drew ?_ | refine blk_alloc ?_ _)); exact BK526.out) hb); have n5_ := Aside0.mk (blk_below (g := gb537) (o := .cells #[.int .i64 t532, .slice Ao45 t533.length co45] 32 (0, 0)) (by (with_reducible repeat (first | refine blk_drewN ?_ _ | refine blk_drew ?_ | refine blk_alloc ?_ _)); exact BK537.out) hb); have n6_ := Aside0.mk (blk_below (g := gb557) (o := .cells #[.int .i64 t552, .slice Ao69 t553.length co69] 32 (0, 0)) (by (with_reducible repeat (first | refine blk_drewN ?_ _ | refine blk_drew ?_ | refine blk_alloc ?_ _)); exact BK557.out) hb); have n7_ := Aside0.mk (below_step (by repeat (first | (with_reducible first | exact HB.out | apply below_alloc | apply pw_below_drewN | apply below_drew1 | refine below_set ?_ GE526.out | refine below_set ?_ GE537.out | refine below_set ?_ GE557.out) | exact HB.out)) hb); have n8_ := Aside0.mk (hbox); have n9_ := Aside0.mk ((by rw [hg]; exact (below_size (by repeat (first | (with_reducible first | exact HB.out | apply below_alloc | apply pw_below_drewN | apply below_drew1 | refine below_set ?_ GE526.out | refine below_set ?_ GE537.out | refine below_set ?_ GE557.out) | exact HB.out))) : w.heap.size ≤ gb563)); have n10_ := Aside0.mk ((by rw [hg]; exact (below_size (by repeat (first | (with_reducible first | exact HB.out | apply below_alloc | apply pw_below_drewN | apply below_drew1 | refine below_set ?_ GE526.out | refine below_set ?_ GE537.out | refine below_set ?_ GE557.out) | exact HB.out))) : w.heap.size ≤ gb563)); have n11_ := Aside0.mk ((by rw [hg]; exact Nat.ne_of_lt (blk_lt (g := gb526) (o := .cells #[.int .i64 a1_0, .slice A1_1 l1_1.length c1_1] 32 (0, 0)) (by (with_reducible repeat (first | refine blk_drewN ?_ _ | refine blk_drew ?_ | refine blk_alloc ?_ _)); exact BK526.out)) : gb526 ≠ gb563)); have n12_ := Aside0.mk ((by rw [hg]; exact Nat.ne_of_gt (blk_lt (g := gb526) (o := .cells #[.int .i64 a1_0, .slice A1_1 l1_1.length c1_1] 32 (0, 0)) (by (with_reducible repeat (first | refine blk_drewN ?_ _ | refine blk_drew ?_ | refine blk_alloc ?_ _)); exact BK526.out)) : gb563 ≠ gb526)); have n13_ := Aside0.mk ((by rw [hg]; exact Nat.ne_of_lt (blk_lt (g := gb537) (o := .cells #[.int .i64 t532, .slice Ao45 t533.length co45] 32 (0, 0)) (by (with_reducible repeat (first | refine blk_drewN ?_ _ | refine blk_drew ?_ | refine blk_alloc ?_ _)); exact BK537.out)) : gb537 ≠ gb563)); have n14_ := Aside0.mk ((by rw [hg]; exact Nat.ne_of_gt (blk_lt (g := gb537) (o := .cells #[.int .i64 t532, .slice Ao45 t533.length co45] 32 (0, 0)) (by (with_reducible repeat (first | refine blk_drewN ?_ _ | refine blk_drew ?_ | refine blk_alloc ?_ _)); exact BK537.out)) : gb563 ≠ gb537)); have n15_ := Aside0.mk ((by rw [hg]; exact Nat.ne_of_lt (blk_lt (g := gb557) (o := .cells #[.int .i64 t552, .slice Ao69 t553.length co69] 32 (0, 0)) (by (with_reducible repeat (first | refine blk_drewN ?_ _ | refine blk_drew ?_ | refine blk_alloc ?_ _)); exact BK557.out)) : gb557 ≠ gb563)); have n16_ := Aside0.mk ((by rw [hg]; exact Nat.ne_of_gt (blk_lt (g := gb557) (o := .cells #[.int .i64 t552, .slice Ao69 t553.length co69] 32 (0, 0)) (by (with_reducible repeat (first | refine blk_drewN ?_ _ | refine blk_drew ?_ | refine blk_alloc ?_ _)); exact BK557.out)) : gb563 ≠ gb557)); clear HO_76; clear HO_538001; clear HO555; clear HO561; clear BK526; clear BK537; clear BK557; clear HB; have HO_76 := n0_; have HO_538001 := n1_; have HO555 := n2_; have HO561 := n3_; have BK526 := n4_; have BK537 := n5_; have BK557 := n6_; have HB := n7_; have BK563 := n8_; have GW563 := n9_; have GE563 := n10_; have NB526_563 := n11_; have NB563_526 := n12_; have NB537_563 := n13_; have NB563_537 := n14_; have NB557_563 := n15_; have NB563_557 := n16_; clear n0_ n1_ n2_ n3_ n4_ n5_ n6_ n7_ n8_ n9_ n10_ n11_ n12_ n13_ n14_ n15_ n16_; clear hb hbox hg; have hnb72 := NB563_526.out; have hnc72 := NB526_563.out; have hnb73 := NB563_537.out; have hnc73 := NB537_563.out; have hnb74 := NB563_557.out; have hnc74 := NB557_563.out; have hcz75_0 : w71.cell? ⟨gb563, 0, none⟩ = some (.int .i64 0) := (blk_cell BK563.out 0).trans rfl; have hcz75_1 : w71.cell? ⟨gb563, 1, none⟩ = some (.slice none 0 0) := (blk_cell BK563.out 1).trans rfl; have hfz75_0 := blk_frozen BK563.out 0; have hfz75_1 := blk_frozen BK563.out 1; obtain ⟨Ao76, co76, eo76⟩ := Kd.R_slice HO561.out; subst eo76; have hcz77_0 : w71.cell? ⟨gb557, 0, none⟩ = some (.int .i64 t552) := (blk_cell BK557.out 0).trans rfl; have hcz77_1 : w71.cell? ⟨gb557, 1, none⟩ = some (.slice Ao69 t553.length co69) := (blk_cell BK557.out 1).trans rfl; have hfz77_0 := blk_frozen BK557.out 0; have hfz77_1 := blk_frozen BK557.out 1) | (go_at_call 37; (with_reducible refine (storagebarterref08_Same.calls k2 t552 _ _ t553 t558 _ _ t559 true _ ?side1 ?side2 ?side3 ?side4 A62.out).mono ?_); (case side1 => refine (Kd.R_reads' (e := 78) (base := w.heap.size) (ok := fun k_ => ((True ∧ some k_ ≠ (.slice Ao45 t533.length co45 : Value).ownBlock) ∧ some k_ ≠ (.slice Ao76 t559.length co76 : Value).ownBlock)) (n := t553.length) (c := co69) ?_).2.2; exact (by (with_reducible repeat (first | apply Kd.R_alloc | apply Kd.R_drewN | apply Kd.R_drew)); exact (Kd.R_mono (Kd.R_far (p := ⟨gb563, 1, none⟩) (Kd.R_far (p := ⟨gb563, 0, none⟩) (Kd.R_types HO555.out BK563.out (by decide)) (fun _ hk => hk.2) (.int .i64 t558)) (fun _ hk => hk.2) (.slice Ao76 t559.length co76)) (fun _ h_ => h_.1)))); (case side2 => exact (Kd.R_reads' HO555.out).2.1); (case side3 => refine (Kd.R_reads' (e := 78) (base := w.heap.size) (ok := fun k_ => ((True ∧ some k_ ≠ (.slice Ao45 t533.length co45 : Value).ownBlock) ∧ some k_ ≠ (.slice Ao69 t553.length co69 : Value).ownBlock)) (n := t559.length) (c := co76) ?_).2.2; exact (by (with_reducible repeat (first | apply Kd.R_alloc | apply Kd.R_drewN | apply Kd.R_drew)); exact (Kd.R_mono (Kd.R_far (p := ⟨gb563, 1, none⟩) (Kd.R_far (p := ⟨gb563, 0, none⟩) (Kd.R_types HO561.out BK563.out (by decide)) (fun _ hk => hk.2) (.int .i64 t558)) (fun _ hk => hk.2) (.slice Ao76 t559.length co76)) (fun _ h_ => h_.1)))); (case side4 => exact (Kd.R_reads' HO561.out).2.1); rintro e w78 ⟨rfl, hb⟩; have n0_ := Aside0.mk (Kd.R_below (by (with_reducible repeat (first | apply Kd.R_alloc | apply Kd.R_drewN | apply Kd.R_drew)); exact (Kd.R_mono (Kd.R_far (p := ⟨gb563, 1, none⟩) (Kd.R_far (p := ⟨gb563, 0, none⟩) (Kd.R_types HO_76.out BK563.out (by decide)) (fun _ hk => hk.2) (.int .i64 t558)) (fun _ hk => hk.2) (.slice Ao76 t559.length co76)) (fun _ h_ => h_.1))) hb); have n1_ := Aside0.mk (Kd.R_below (by (with_reducible repeat (first | apply Kd.R_alloc | apply Kd.R_drewN | apply Kd.R_drew)); exact (Kd.R_mono (Kd.R_far (p := ⟨gb563, 1, none⟩) (Kd.R_far (p := ⟨gb563, 0, none⟩) (Kd.R_types HO_538001.out BK563.out (by decide)) (fun _ hk => hk.2) (.int .i64 t558)) (fun _ hk => hk.2) (.slice Ao76 t559.length co76)) (fun _ h_ => h_.1))) hb); have n2_ := Aside0.mk (Kd.R_below (by (with_reducible repeat (first | apply Kd.R_alloc | apply Kd.R_drewN | apply Kd.R_drew)); exact (Kd.R_mono (Kd.R_far (p := ⟨gb563, 1, none⟩) (Kd.R_far (p := ⟨gb563, 0, none⟩) (Kd.R_types HO555.out BK563.out (by decide)) (fun _ hk => hk.2) (.int .i64 t558)) (fun _ hk => hk.2) (.slice Ao76 t559.length co76)) (fun _ h_ => h_.1))) hb); have n3_ := Aside0.mk (Kd.R_below (by (with_reducible repeat (first | apply Kd.R_alloc | apply Kd.R_drewN | apply Kd.R_drew)); exact (Kd.R_mono (Kd.R_far (p := ⟨gb563, 1, none⟩) (Kd.R_far (p := ⟨gb563, 0, none⟩) (Kd.R_types HO561.out BK563.out (by decide)) (fun _ hk => hk.2) (.int .i64 t558)) (fun _ hk => hk.2) (.slice Ao76 t559.length co76)) (fun _ h_ => h_.1))) hb); have n4_ := Aside0.mk (blk_below (g := gb526) (o := .cells #[.int .i64 a1_0, .slice A1_1 l1_1.length c1_1] 32 (0, 0)) (by (with_reducible repeat (first | refine blk_drewN ?_ _ | refine blk_drew ?_ | refine blk_alloc ?_ _)); refine blk_far ?_ NB526_563.out _; (with_reducible repeat (first | refine blk_drewN ?_ _ | refine blk_drew ?_ | refine blk_alloc ?_ _)); refine blk_far ?_ NB526_563.out _; (with_reducible repeat (first | refine blk_drewN ?_ _ | refine blk_drew ?_ | refine blk_alloc ?_ _)); exact BK526.out) hb); have n5_ := Aside0.mk (blk_below (g := gb537) (o := .cells #[.int .i64 t532, .slice Ao45 t533.length co45] 32 (0, 0)) (by (with_reducible repeat (first | refine blk_drewN ?_ _ | refine blk_drew ?_ | refine blk_alloc ?_ _)); refine blk_far ?_ NB537_563.out _; (with_reducible repeat (first | refine blk_drewN ?_ _ | refine blk_drew ?_ | refine blk_alloc ?_ _)); refine blk_far ?_ NB537_563.out _; (with_reducible repeat (first | refine blk_drewN ?_ _ | refine blk_drew ?_ | refine blk_alloc ?_ _)); exact BK537.out) hb); have n6_ := Aside0.mk (blk_below (g := gb557) (o := .cells #[.int .i64 t552, .slice Ao69 t553.length co69] 32 (0, 0)) (by (with_reducible repeat (first | refine blk_drewN ?_ _ | refine blk_drew ?_ | refine blk_alloc ?_ _)); refine blk_far ?_ NB557_563.out _; (with_reducible repeat (first | refine blk_drewN ?_ _ | refine blk_drew ?_ | refine blk_alloc ?_ _)); refine blk_far ?_ NB557_563.out _; (with_reducible repeat (first | refine blk_drewN ?_ _ | refine blk_drew ?_ | refine blk_alloc ?_ _)); exact BK557.out) hb); have n7_ := Aside0.mk (blk_below (g := gb563) (o := .cells #[.int .i64 t558, .slice Ao76 t559.length co76] 32 (0, 0)) (by (with_reducible repeat (first | refine blk_drewN ?_ _ | refine blk_drew ?_ | refine blk_alloc ?_ _)); refine blk_put (cs := #[.int .i64 t558, .slice none 0 0]) ?_ 1 _ rfl; (with_reducible repeat (first | refine blk_drewN ?_ _ | refine blk_drew ?_ | refine blk_alloc ?_ _)); refine blk_put (cs := #[.int .i64 0, .slice none 0 0]) ?_ 0 _ rfl; (with_reducible repeat (first | refine blk_drewN ?_ _ | refine blk_drew ?_ | refine blk_alloc ?_ _)); exact BK563.out) hb); have n8_ := Aside0.mk (below_step (by repeat (first | (with_reducible first | exact HB.out | apply below_alloc | apply pw_below_drewN | apply below_drew1 | refine below_set ?_ GE526.out | refine below_set ?_ GE537.out | refine below_set ?_ GE557.out | refine below_set ?_ GE563.out) | exact HB.out)) hb); clear HO_76; clear HO_538001; clear HO555; clear HO561; clear BK526; clear BK537; clear BK557; clear BK563; clear HB; have HO_76 := n0_; have HO_538001 := n1_; have HO555 := n2_; have HO561 := n3_; have BK526 := n4_; have BK537 := n5_; have BK557 := n6_; have BK563 := n7_; have HB := n8_; clear n0_ n1_ n2_ n3_ n4_ n5_ n6_ n7_ n8_; (try clear hb); (try clear hb2); (try clear hk); (try clear hi)))
                     go_roundg k2
                     case measure => have := HJ7.out; have := HK2.out; omega
                     case rel => exact ⟨(wrap64 (x78_2 + 1)), (by first | rfl | (simp; done) | (simp [*]; done)), H', ⟨by have := HJ7.out; have := HK2.out; omega⟩, ⟨by (with_reducible repeat (first | apply Kd.R_alloc | apply Kd.R_drewN | apply Kd.R_drew)); exact HO_76.out⟩, ⟨by (with_reducible repeat (first | apply Kd.R_alloc | apply Kd.R_drewN | apply Kd.R_drew)); exact Kd.R_mono HO_538001.out (fun _ hk => trivial)⟩, ⟨by (with_reducible repeat (first | refine blk_drewN ?_ _ | refine blk_drew ?_ | refine blk_alloc ?_ _)); exact BK526.out⟩, ⟨by (with_reducible repeat (first | refine blk_drewN ?_ _ | refine blk_drew ?_ | refine blk_alloc ?_ _)); exact BK537.out⟩, ⟨by repeat (first | (with_reducible first | exact HB.out | apply below_alloc | apply pw_below_drewN | apply below_drew1 | refine below_set ?_ GE526.out | refine below_set ?_ GE537.out | refine below_set ?_ GE557.out | refine below_set ?_ GE563.out) | exact HB.out)⟩⟩
                    ·replace c63 := Bool.eq_false_iff.mpr c63
                     subst c63
                     have H1 : (some false) = some r := by rw [if_neg (show ¬ (false = true) by decide)] at H; exact H
                     clear H
                     have H := H1
                     clear H1
                     exact absurd (H.trans (congrArg some RT_.out)) (by simp)
                   ·rw [if_neg c61] at H
                    exact absurd (H.trans (congrArg some RT_.out)) (by simp)
                  ·rw [if_neg c58] at H
                   exact absurd H (by simp)
                 ·rw [if_neg c57] at H
                  exact absurd H (by simp)
                ·rw [if_neg c56] at H
                 have c56b0 : decide (x78_2 < (y544.length : Int)) = false := decide_eq_false c56
                 clear c56
                 replace H := Option.bind_eq_some_iff.mp H
                 obtain ⟨⟨t547, t548⟩, A790, H⟩ := H
                 replace H : ((storagebarterref08_Encode.f k2 a1_0 l1_1).bind fun bt549 => (if t547.toList = bt549.1.toList then (some (t548 == bt549.2)) else (some false))) = some r := H
                 have A79 := Aside0.mk A790
                 clear A790
                 replace H := Option.bind_eq_some_iff.mp H
                 obtain ⟨⟨t549, t550⟩, A800, H⟩ := H
                 replace H : (if t547.toList = t549.toList then (some (t548 == t550)) else (some false)) = some r := H
                 have A80 := Aside0.mk A800
                 clear A800
                 by_cases c81 : t547.toList = t549.toList
                 ·rw [if_pos c81] at H
                  have c81b0 : (t547.toList == t549.toList) = true := beq_iff_eq.mpr c81
                  have c81b1 : (t547.toList != t549.toList) = false := bne_eq_false_iff_eq.mpr c81
                  clear c81
                  obtain rfl := Option.some.inj H
                  have hnb82 := NB526_537.out
                  have hnc82 := NB537_526.out
                  have hcz83_0 : wr.cell? ⟨gb526, 0, none⟩ = some (.int .i64 a1_0) := (blk_cell BK526.out 0).trans rfl
                  have hcz83_1 : wr.cell? ⟨gb526, 1, none⟩ = some (.slice A1_1 l1_1.length c1_1) := (blk_cell BK526.out 1).trans rfl
                  have hfz83_0 := blk_frozen BK526.out 0
                  have hfz83_1 := blk_frozen BK526.out 1
                  go_wp2_with (first | ((with_reducible refine gate_callee (f := 38) rfl ?_); refine goesL_ (some 104) rfl rfl Try.func38 (by kernel_rfl) rfl #[.agg #[.int .i64 a1_0, .slice A1_1 l1_1.length c1_1]] rfl (by (try simp only [List.map_toArray, List.map_cons, List.map_nil]); first | done | rfl | (simp only [List.length_drop, List.length_take]; rfl)) ?_; (with_reducible refine (manifest_Encode.calls k2 a1_0 _ _ l1_1 t547 t548 _ ?side1 ?side2 A79.out).mono ?_); (case side1 => repeat (first | exact (Kd.C_below HR1_1.out HB.out) | (with_reducible refine Kd.C_alloc ?_ _) | (with_reducible refine Kd.C_drewN ?_ _) | (with_reducible refine Kd.C_drew ?_))); (case side2 => exact HC1_1.out); rintro e w84 ⟨rfl, hb⟩; refine ⟨_, rfl, ?_⟩; have n0_ := Aside0.mk (Kd.R_below (by (with_reducible repeat (first | apply Kd.R_alloc | apply Kd.R_drewN | apply Kd.R_drew)); exact HO_76.out) hb); have n1_ := Aside0.mk (Kd.R_below (by (with_reducible repeat (first | apply Kd.R_alloc | apply Kd.R_drewN | apply Kd.R_drew)); exact HO_538001.out) hb); have n2_ := Aside0.mk (blk_below (g := gb526) (o := .cells #[.int .i64 a1_0, .slice A1_1 l1_1.length c1_1] 32 (0, 0)) (by (with_reducible repeat (first | refine blk_drewN ?_ _ | refine blk_drew ?_ | refine blk_alloc ?_ _)); exact BK526.out) hb); have n3_ := Aside0.mk (blk_below (g := gb537) (o := .cells #[.int .i64 t532, .slice Ao45 t533.length co45] 32 (0, 0)) (by (with_reducible repeat (first | refine blk_drewN ?_ _ | refine blk_drew ?_ | refine blk_alloc ?_ _)); exact BK537.out) hb); have n4_ := Aside0.mk (below_step (by repeat (first | (with_reducible first | exact HB.out | apply below_alloc | apply pw_below_drewN | apply below_drew1 | refine below_set ?_ GE526.out | refine below_set ?_ GE537.out) | exact HB.out)) hb); clear HO_76; clear HO_538001; clear BK526; clear BK537; clear HB; have HO_76 := n0_; have HO_538001 := n1_; have BK526 := n2_; have BK537 := n3_; have HB := n4_; clear n0_ n1_ n2_ n3_ n4_; (try clear hb); (try clear hb2); (try clear hk); (try clear hi); have hcz85_0 : w84.cell? ⟨gb526, 0, none⟩ = some (.int .i64 a1_0) := (blk_cell BK526.out 0).trans rfl; have hcz85_1 : w84.cell? ⟨gb526, 1, none⟩ = some (.slice A1_1 l1_1.length c1_1) := (blk_cell BK526.out 1).trans rfl; have hfz85_0 := blk_frozen BK526.out 0; have hfz85_1 := blk_frozen BK526.out 1) | ((with_reducible refine gate_callee (f := 34) rfl ?_); refine goesL_ (some 109) rfl rfl Try.func34 (by kernel_rfl) rfl #[.agg #[.int .i64 a1_0, .slice A1_1 l1_1.length c1_1]] rfl (by (try simp only [List.map_toArray, List.map_cons, List.map_nil]); first | done | rfl | (simp only [List.length_drop, List.length_take]; rfl)) ?_; (with_reducible refine (storagebarterref08_Encode.calls k2 a1_0 _ _ l1_1 t549 t550 _ ?side1 ?side2 A80.out).mono ?_); (case side1 => repeat (first | exact (Kd.C_below HR1_1.out HB.out) | (with_reducible refine Kd.C_alloc ?_ _) | (with_reducible refine Kd.C_drewN ?_ _) | (with_reducible refine Kd.C_drew ?_))); (case side2 => exact HC1_1.out); rintro e w86 ⟨rfl, hb⟩; refine ⟨_, rfl, ?_⟩; have n0_ := Aside0.mk (Kd.R_below (by (with_reducible repeat (first | apply Kd.R_alloc | apply Kd.R_drewN | apply Kd.R_drew)); exact HO_76.out) hb); have n1_ := Aside0.mk (Kd.R_below (by (with_reducible repeat (first | apply Kd.R_alloc | apply Kd.R_drewN | apply Kd.R_drew)); exact HO_538001.out) hb); have n2_ := Aside0.mk (blk_below (g := gb526) (o := .cells #[.int .i64 a1_0, .slice A1_1 l1_1.length c1_1] 32 (0, 0)) (by (with_reducible repeat (first | refine blk_drewN ?_ _ | refine blk_drew ?_ | refine blk_alloc ?_ _)); exact BK526.out) hb); have n3_ := Aside0.mk (blk_below (g := gb537) (o := .cells #[.int .i64 t532, .slice Ao45 t533.length co45] 32 (0, 0)) (by (with_reducible repeat (first | refine blk_drewN ?_ _ | refine blk_drew ?_ | refine blk_alloc ?_ _)); exact BK537.out) hb); have n4_ := Aside0.mk (below_step (by repeat (first | (with_reducible first | exact HB.out | apply below_alloc | apply pw_below_drewN | apply below_drew1 | refine below_set ?_ GE526.out | refine below_set ?_ GE537.out) | exact HB.out)) hb); clear HO_76; clear HO_538001; clear BK526; clear BK537; clear HB; have HO_76 := n0_; have HO_538001 := n1_; have BK526 := n2_; have BK537 := n3_; have HB := n4_; clear n0_ n1_ n2_ n3_ n4_; (try clear hb); (try clear hb2); (try clear hk); (try clear hi)))
                  go_ret
                  exact ⟨by first | rfl | (simp [errW_none, errW_some] <;> rfl) | (simp only [← hji30, ← hji36]; first | rfl | (simp [errW_none, errW_some] <;> rfl)) | (simp [*, errW_none, errW_some] <;> rfl), by repeat (first | (with_reducible first | exact HB.out | apply below_alloc | apply pw_below_drewN | apply below_drew1 | refine below_set ?_ GE526.out | refine below_set ?_ GE537.out) | exact HB.out)⟩
                 ·rw [if_neg c81] at H
                  exact absurd (H.trans (congrArg some RT_.out)) (by simp)
             ·rw [if_neg c38] at H
              exact absurd H (by simp)
            ·rw [if_neg c37] at H
             exact absurd H (by simp)
          ·rw [if_neg c34] at H
           exact absurd H (by simp)
         ·rw [if_neg c32] at H
          exact absurd H (by simp)
        ·rw [if_neg c31] at H
         exact absurd H (by simp)
      ·rw [if_neg c28] at H
       exact absurd H (by simp)
 ·replace c7 := Bool.eq_false_iff.mpr c7
  subst c7
  have H1 : (some false) = some r := by rw [if_neg (show ¬ (false = true) by decide)] at H; exact H
  clear H
  have H := H1
  clear H1
  exact absurd (H.trans (congrArg some RT_.out)) (by simp)
end Go.Proofs.Ytodhkbahjomfhaa.Q

namespace Go.Proofs.Ytodhkbahjomfhaa.Gdm
open Go Go.RowKit Go.Proofs.Ytodhkbahjomfhaa.Gm Go.Proofs.Ytodhkbahjomfhaa.Q Go.Proofs.Ytodhkbahjomfhaa.Gput Go.Proofs.YtodhkbahjomfhaaW.PrintWords Go.Proofs.YtodhkbahjomfhaaW.PrintLast Go.Proofs.YtodhkbahjomfhaaW.PrintMore
set_option linter.unusedVariables false
theorem w64 {x : Int} (h : -9223372036854775808 ≤ x ∧ x ≤ 9223372036854775807) : wrap64 x = x := by unfold wrap64; omega
theorem bt_at (s : ByteArray) (a : Nat) (h : a < s.size) : bt s (a : Int) = ((s.data.toList.drop a).headD 0).toNat := by
  have h' : a < s.data.size := h
  unfold bt
  rw [dif_pos (by simpa using h)]
  simp only [Int.toNat_natCast]
  rw [List.drop_eq_getElem_cons (by simpa using h')]
  rfl
theorem bt_lt (s : ByteArray) (i : Int) : 0 ≤ bt s i ∧ bt s i < 256 := by
  unfold bt
  split
  · have := (s[i.toNat]).toNat_lt; omega
  · omega
theorem wf64 {n : Int} (h : -9223372036854775808 ≤ n ∧ n ≤ 9223372036854775807) : (Lit.int .i64 n).wf = true := Go.WalkArith.wf_i64 h
theorem wire_PutInt_eq (l : List UInt8) (n : Int) (hl : l.length + 10 ≤ 140737488355328) (hn : -9223372036854775808 ≤ n ∧ n ≤ 9223372036854775807) : wire_PutInt.f (B l) n = some (B (l ++ putI n)) := by
  unfold wire_PutInt.f
  rw [if_pos ⟨by rw [B_size]; exact hl, wf64 hn⟩]
  rfl
theorem tmod_mod (a m : Int) (hm : 0 < m) : (Int.tmod a m + m) % m = a % m := by
  have h := Int.mul_tdiv_add_tmod a m
  have e : Int.tmod a m + m = a + m * (1 - Int.tdiv a m) := by rw [Int.mul_sub]; omega
  rw [e, Int.add_mul_emod_self_left]
theorem tmod_range (a m : Int) (hm : 0 < m) : -m < Int.tmod a m ∧ Int.tmod a m < m := by
  refine ⟨?_, Int.tmod_lt_of_pos a hm⟩
  rcases Int.le_total 0 a with h | h
  · have := Int.tmod_nonneg m h; omega
  · have h1 := Int.tmod_nonneg m (show 0 ≤ -a by omega)
    have h2 := Int.tmod_lt_of_pos (-a) hm
    rw [Int.neg_tmod] at h1 h2
    omega
theorem mod_eq (a m : Int) (hm : 0 < m) (hb : m ≤ 4294967296) : storagebartermake_Mod.f a m = some (a % m) := by
  unfold storagebartermake_Mod.f
  have hr := tmod_range a m hm
  rw [if_neg (by omega), w64 (by omega), Int.tmod_eq_emod_of_nonneg (by omega), tmod_mod a m hm]
/-- The digest of bytes, from a value on. -/
def dg : Int → List UInt8 → Int
  | d, [] => d
  | d, b :: l => dg ((d * 1000003 + b.toNat + 1) % 2147483647) l
theorem dg_range : ∀ (l : List UInt8) (d : Int), 0 ≤ d ∧ d < 2147483647 → 0 ≤ dg d l ∧ dg d l < 2147483647
  | [], d, h => h
  | b :: l, d, h => dg_range l _ (by omega)
theorem sum_step (s : ByteArray) (d : Int) (i : Nat) (hd : 0 ≤ d ∧ d < 2147483647) (hi : i < s.size) : Int.tmod (wrap64 ((wrap64 ((wrap64 (d * 1000003)) + (wrap64 (bt s i)))) + 1)) 2147483647 = (d * 1000003 + (s.data.toList[i]'(by simpa using hi)).toNat + 1) % 2147483647 := by
  have hb := bt_lt s i
  have hbt : bt s i = (s.data.toList[i]'(by simpa using hi)).toNat := by
    have h := bt_at s i hi
    rw [List.drop_eq_getElem_cons (by simpa using hi)] at h
    exact h
  rw [w64 (x := d * 1000003) (by omega), w64 (x := bt s i) (by omega), w64 (x := d * 1000003 + bt s i) (by omega), w64 (by omega), Int.tmod_eq_emod_of_nonneg (by omega), hbt]
theorem Sum_l0 (s : ByteArray) (hs : s.size ≤ 9223372036854775807) : ∀ (n i k : Nat) (d : Int), s.size - i = n → i ≤ s.size → 0 ≤ d ∧ d < 2147483647 → n < k → digest_Sum.l0 k s d s.size i = some (dg d (s.data.toList.drop i)) := by
  intro n
  induction n with
  | zero =>
    intro i k d hn hi hd hk
    obtain ⟨k, rfl⟩ : ∃ m, k = m + 1 := ⟨k - 1, by omega⟩
    simp only [digest_Sum.l0]
    rw [if_neg (by omega), List.drop_of_length_le (by rw [Array.length_toList]; show s.size ≤ i; omega)]
    rfl
  | succ n ih =>
    intro i k d hn hi hd hk
    obtain ⟨k, rfl⟩ : ∃ m, k = m + 1 := ⟨k - 1, by omega⟩
    have hlt : i < s.size := by omega
    simp only [digest_Sum.l0]
    rw [if_pos (by omega), if_pos (by omega), if_pos (by omega), sum_step s d i hd hlt, w64 (by omega), show ((i : Int) + 1) = ((i + 1 : Nat) : Int) by omega, ih (i + 1) k _ (by omega) (by omega) (by omega) (by omega), List.drop_eq_getElem_cons (show i < s.data.toList.length by simpa using hlt)]
    rfl
theorem Sum_eq (l : List UInt8) (k : Nat) (hl : l.length ≤ 9223372036854775807) (hk : l.length < k) : digest_Sum.f k (B l) = some (dg 1 l) := by
  unfold digest_Sum.f
  exact Sum_l0 (B l) (by rw [B_size]; exact hl) l.length 0 k 1 (by rw [B_size]; omega) (by omega) (by omega) hk
/-- A choice out of a deck is in its range; the deck's place stays within its list. -/
theorem next_ok (L : List Int) (at_ n : Int) (hn : 1 ≤ n) (hb : n ≤ 4294967296) (h0 : 0 ≤ at_) (hl : L.length ≤ 1000000) : ∃ t at', storagebartermake_Deck_Next.f L at_ n = some (t, at') ∧ 0 ≤ t ∧ t < n ∧ 0 ≤ at' := by
  unfold storagebartermake_Deck_Next.f
  rw [if_neg (by omega)]
  by_cases h : at_ ≥ (L.length : Int)
  · rw [if_pos h]
    exact ⟨0, at_, rfl, by omega, by omega, h0⟩
  · rw [if_neg h, if_pos h0, if_pos (by omega), mod_eq _ _ (by omega) hb, Option.bind_some]
    exact ⟨_, _, rfl, Int.emod_nonneg _ (by omega), Int.emod_lt_of_pos _ (by omega), by rw [w64 (by omega)]; omega⟩
end Go.Proofs.Ytodhkbahjomfhaa.Gdm

namespace Go.Proofs.Ytodhkbahjomfhaa.Gch
open Go Go.RowKit Go.Proofs.Ytodhkbahjomfhaa.Gm Go.Proofs.Ytodhkbahjomfhaa.Gdm Go.Proofs.Ytodhkbahjomfhaa.Q Go.Proofs.Ytodhkbahjomfhaa.Gput Go.Proofs.YtodhkbahjomfhaaW.PrintWords Go.Proofs.YtodhkbahjomfhaaW.PrintLast Go.Proofs.YtodhkbahjomfhaaW.PrintMore
set_option linter.unusedVariables false
theorem nat_pred {k n : Nat} (h : n < k) : ∃ m, k = m + 1 := ⟨k - 1, by omega⟩
theorem dg_r (l : List UInt8) : 0 ≤ dg 1 l ∧ dg 1 l < 2147483647 := dg_range l 1 (by omega)
theorem nameOf_eq (s : ByteArray) (hs : s.size ≤ 9223372036854775807) (k : Nat) (hk : s.size < k) : manifest_nameOf.f k s = some (dg 1 s.data.toList, (s.size : Int)) := by
  have h := Sum_eq s.data.toList k (by rw [data_length]; exact hs) (by rw [data_length]; exact hk)
  have e : B s.data.toList = s := by cases s; rfl
  rw [e] at h
  unfold manifest_nameOf.f
  rw [h]
  rfl
theorem nm_eq (s : ByteArray) (hs : s.size ≤ 9223372036854775807) : nm s = (dg 1 s.data.toList, (s.size : Int)) := nm_of (nameOf_eq s hs _ (Nat.lt_succ_self _))
theorem named (s : ByteArray) (hs : s.size ≤ 9223372036854775807) : Named s := by
  have h := dg_r s.data.toList
  refine ⟨⟨s.size + 1, ?_⟩, ?_, ?_, by unfold maxLen; omega⟩
  · rw [nm_eq s hs]; exact nameOf_eq s hs _ (Nat.lt_succ_self _)
  · rw [nm_eq s hs]; exact wf64 (by simp only; omega)
  · rw [nm_eq s hs]; exact wf64 (by simp only; omega)
theorem strOf_size (l : List Int) : (strOfNums l).size = l.length := by
  unfold strOfNums
  simp [ByteArray.size]
theorem Text_l0 (L : List Int) (hL : L.length ≤ 1000000) : ∀ (n : Nat) (xs : List Int) (at_ : Int) (k : Nat), 0 ≤ at_ → n < k → xs.length + n ≤ 1000 → ∃ t at', storagebartermake_Text.l0 k xs (n : Int) L at_ = some (t, at') ∧ t.size = xs.length + n ∧ 0 ≤ at' := by
  intro n
  induction n with
  | zero =>
    intro xs at_ k h0 hk hl
    obtain ⟨k, rfl⟩ := nat_pred hk
    rw [storagebartermake_Text.l0, if_neg (by omega)]
    exact ⟨_, _, rfl, by rw [strOf_size]; omega, h0⟩
  | succ n ih =>
    intro xs at_ k h0 hk hl
    obtain ⟨k, rfl⟩ := nat_pred hk
    obtain ⟨t, a, e, -, -, h1⟩ := next_ok L at_ 5 (by omega) (by omega) h0 hL
    rw [storagebartermake_Text.l0, if_pos (by omega), e, Option.bind_some, if_pos (by omega), w64 (x := ((n + 1 : Nat) : Int) - 1) (by omega), show (((n + 1 : Nat) : Int) - 1) = (n : Int) by omega]
    obtain ⟨t', a', e', h2, h3⟩ := ih (xs ++ [(wrap64 (t * 51)) % 256]) a k h1 (by omega) (by rw [List.length_append, List.length_singleton]; omega)
    exact ⟨t', a', e', by rw [h2, List.length_append, List.length_singleton]; omega, h3⟩
theorem Text_ok (L : List Int) (hL : L.length ≤ 1000000) (at_ : Int) (h0 : 0 ≤ at_) (most : Nat) (hm : most ≤ 900) (k : Nat) (hk : most < k) : ∃ t at', storagebartermake_Text.f k L at_ (most : Int) = some (t, at') ∧ t.size ≤ most ∧ 0 ≤ at' := by
  unfold storagebartermake_Text.f
  obtain ⟨t, a, e, p, q, h1⟩ := next_ok L at_ ((most : Int) + 1) (by omega) (by omega) h0 hL
  rw [w64 (x := (most : Int) + 1) (by omega), e, Option.bind_some]
  obtain ⟨n, rfl⟩ : ∃ n : Nat, t = n := ⟨t.toNat, by omega⟩
  obtain ⟨t', a', e', h2, h3⟩ := Text_l0 L hL n [] a k h1 (by omega) (by rw [List.length_nil]; omega)
  exact ⟨t', a', e', by rw [h2, List.length_nil]; omega, h3⟩
theorem Cutting_ok (L : List Int) (hL : L.length ≤ 1000000) (at_ : Int) (h0 : 0 ≤ at_) : ∃ c1 c2 c3 c4 at', storagebartermake_Cutting.f L at_ = some (c1, c2, c3, c4, at') ∧ 0 ≤ at' ∧ 4 ≤ c1 ∧ c1 ≤ c2 ∧ c2 ≤ 30 ∧ 1 ≤ c3 ∧ c3 ≤ c1 ∧ 1 ≤ c4 ∧ c4 ≤ 9 := by
  unfold storagebartermake_Cutting.f
  obtain ⟨t1, a1, e1, p1, q1, h1⟩ := next_ok L at_ 6 (by omega) (by omega) h0 hL
  rw [e1, Option.bind_some]
  obtain ⟨t2, a2, e2, p2, q2, h2⟩ := next_ok L a1 20 (by omega) (by omega) h1 hL
  rw [e2, Option.bind_some]
  dsimp only
  rw [w64 (x := 4 + t1) (by omega)]
  obtain ⟨t3, a3, e3, p3, q3, h3⟩ := next_ok L a2 (4 + t1) (by omega) (by omega) h2 hL
  rw [e3, Option.bind_some]
  obtain ⟨t4, a4, e4, p4, q4, h4⟩ := next_ok L a3 9 (by omega) (by omega) h3 hL
  rw [e4, Option.bind_some]
  dsimp only
  rw [w64 (x := 4 + t1 + t2) (by omega), w64 (x := 1 + t3) (by omega), w64 (x := 1 + t4) (by omega)]
  exact ⟨_, _, _, _, _, rfl, h4, by omega, by omega, by omega, by omega, by omega, by omega, by omega⟩
theorem Weight_l0 (s : ByteArray) (hs : s.size ≤ 1000) (x5 : Int) : ∀ (d : Nat) (i : Int) (x6 : Int) (k : Nat), (s.size : Int) - i = d → 0 ≤ i → d < k → ∃ r, storagebarterref04_Weight.l0 k s x5 x6 i = some r := by
  intro d
  induction d with
  | zero =>
    intro i x6 k hd h0 hk
    obtain ⟨k, rfl⟩ := nat_pred hk
    rw [storagebarterref04_Weight.l0, if_neg (by omega)]
    exact ⟨_, rfl⟩
  | succ d ih =>
    intro i x6 k hd h0 hk
    obtain ⟨k, rfl⟩ := nat_pred hk
    rw [storagebarterref04_Weight.l0, if_pos (by omega), if_pos h0, w64 (x := i + 1) (by omega)]
    exact ih (i + 1) _ k (by omega) (by omega) (by omega)
theorem Weight_ok (s : ByteArray) (hs : s.size ≤ 1000) (w : Int) (hw : 1 ≤ w ∧ w ≤ 1000) (k : Nat) (hk : s.size < k) : ∃ r, storagebarterref04_Weight.f k s w = some r := by
  unfold storagebarterref04_Weight.f
  rw [if_neg (by omega), w64 (x := (s.size : Int) - w) (by omega)]
  have h1 : 0 ≤ mx 0 ((s.size : Int) - w) ∧ mx 0 ((s.size : Int) - w) ≤ s.size := by unfold mx; split <;> omega
  exact Weight_l0 s hs _ ((s.size : Int) - mx 0 ((s.size : Int) - w)).toNat _ _ k (by omega) h1.1 (by omega)
/-- Ends that rise, from a place on, up to a size. -/
def Rise (a : Int) (m : Int) : List Int → Prop
  | [] => True
  | e :: r => a < e ∧ e ≤ m ∧ Rise e m r
theorem Rise_snoc {m : Int} : ∀ {l : List Int} {a e : Int}, Rise a m l → (l.getLast?.getD a) < e → e ≤ m → Rise a m (l ++ [e])
  | [], a, e, _, h1, h2 => ⟨by simpa using h1, h2, trivial⟩
  | b :: r, a, e, ⟨p, q, h⟩, h1, h2 => ⟨p, q, Rise_snoc h (by rw [List.getLast?_cons, Option.getD_some] at h1; exact h1) h2⟩
theorem Ends_l0 (s : ByteArray) (hs : s.size ≤ 60) (c1 c2 c3 c4 : Int) (h3 : 1 ≤ c3 ∧ c3 ≤ 1000) (h4 : 1 ≤ c4) :
    ∀ (d : Nat) (xs : List Int) (st i : Int) (k : Nat), (s.size : Int) + 1 - i = d → 1 ≤ i → Rise 0 s.size xs → st = xs.getLast?.getD 0 → 0 ≤ st → st < i → (xs.length : Int) < i → 100 + d < k →
      ∃ xs', storagebarterref04_Ends.l0 k s xs st i c1 c2 c3 c4 = some (xs', 0) ∧ Rise 0 s.size xs' ∧ xs'.length ≤ 60 := by
  intro d
  induction d with
  | zero =>
    intro xs st i k hd hi hr hst h0 hlt hl hk
    obtain ⟨k, rfl⟩ := nat_pred hk
    rw [storagebarterref04_Ends.l0, if_neg (by omega), if_neg (by omega)]
    exact ⟨_, rfl, hr, by omega⟩
  | succ d ih =>
    intro xs st i k hd hi hr hst h0 hlt hl hk
    obtain ⟨k, rfl⟩ := nat_pred hk
    have hp : ∃ xs', storagebarterref04_Ends.l0 k s (xs ++ [i]) i (i + 1) c1 c2 c3 c4 = some (xs', 0) ∧ Rise 0 s.size xs' ∧ xs'.length ≤ 60 :=
      ih (xs ++ [i]) i (i + 1) k (by omega) (by omega) (Rise_snoc hr (by rw [← hst]; exact hlt) (by omega)) (by simp) (by omega) (by omega) (by rw [List.length_append, List.length_singleton]; omega) (by omega)
    have hq : ∃ xs', storagebarterref04_Ends.l0 k s xs st (i + 1) c1 c2 c3 c4 = some (xs', 0) ∧ Rise 0 s.size xs' ∧ xs'.length ≤ 60 :=
      ih xs st (i + 1) k (by omega) (by omega) hr hst h0 (by omega) (by omega) (by omega)
    have hlen : xs.length < 17592186044416 := by omega
    have hex : ((s.extract st.toNat i.toNat).size) ≤ 60 := by rw [ByteArray.size_extract]; omega
    obtain ⟨wv, hw⟩ := Weight_ok (s.extract st.toNat i.toNat) (by omega) c3 h3 k (by omega)
    rw [storagebarterref04_Ends.l0, if_pos (by omega), w64 (x := i - st) (by omega), w64 (x := i + 1) (by omega)]
    simp only [if_pos hlen]
    split
    · exact hp
    · split
      · try rw [if_pos h0]
        rw [if_pos (by omega), hw, Option.bind_some, if_neg (by omega)]
        split
        · exact hp
        · split
          · exact hp
          · exact hq
      · split
        · exact hp
        · exact hq
theorem Cut_l0 (s : ByteArray) (xs : List Int) (hx : xs.length ≤ 60) (hs : s.size ≤ 60) : ∀ (d i : Nat) (cs : List ByteArray) (st : Int) (k : Nat), xs.length - i = d → i ≤ xs.length → 0 ≤ st → Rise st s.size (xs.drop i) → d < k → cs.length ≤ i → (∀ c ∈ cs, 1 ≤ c.size ∧ c.size ≤ 60) →
    ∃ cs', storagebarterref04_Cut.l0 k s cs st xs (xs.length : Int) (i : Int) = some (cs', 0) ∧ cs'.length ≤ 60 ∧ ∀ c ∈ cs', 1 ≤ c.size ∧ c.size ≤ 60 := by
  intro d
  induction d with
  | zero =>
    intro i cs st k hd hi h0 hr hk hc hcs
    obtain ⟨k, rfl⟩ := nat_pred hk
    rw [storagebarterref04_Cut.l0, if_neg (by omega)]
    exact ⟨_, rfl, by omega, hcs⟩
  | succ d ih =>
    intro i cs st k hd hi h0 hr hk hc hcs
    obtain ⟨k, rfl⟩ := nat_pred hk
    have hil : i < xs.length := by omega
    have e : rd xs (i : Int) = xs[i] := by simp [rd, List.getD, hil]
    rw [List.drop_eq_getElem_cons hil] at hr
    obtain ⟨p, q, hr2⟩ := hr
    rw [storagebarterref04_Cut.l0, if_pos (by omega), if_pos (by omega), if_pos (by omega), if_pos h0, e, if_pos (by omega), if_pos (by omega), if_pos (by omega), w64 (x := (i : Int) + 1) (by omega), show ((i : Int) + 1) = ((i + 1 : Nat) : Int) by omega]
    refine ih (i + 1) _ xs[i] k (by omega) (by omega) (by omega) hr2 (by omega) (by rw [List.length_append, List.length_singleton]; omega) (fun c hcm => ?_)
    rcases List.mem_append.1 hcm with h | h
    · exact hcs c h
    · rw [List.mem_singleton.1 h, ByteArray.size_extract]
      omega
theorem Chunks_ok (L : List Int) (hL : L.length ≤ 1000000) (at_ : Int) (h0 : 0 ≤ at_) (k : Nat) (hk : 300 < k) : ∃ cs at', storagebartermake_Chunks.f k L at_ = some (cs, at') ∧ 0 ≤ at' ∧ cs.length ≤ 60 ∧ ∀ c ∈ cs, 1 ≤ c.size ∧ c.size ≤ 60 := by
  unfold storagebartermake_Chunks.f
  obtain ⟨t, a1, e1, ht, h1⟩ := Text_ok L hL at_ h0 60 (by omega) k (by omega)
  rw [show ((60 : Nat) : Int) = 60 from rfl] at e1
  rw [e1, Option.bind_some]
  obtain ⟨c1, c2, c3, c4, a2, e2, h2, b1, b2, b3, b4, b5, b6, b7⟩ := Cutting_ok L hL a1 h1
  rw [e2, Option.bind_some]
  dsimp only
  have hch : storagebarterref04_Check.f c1 c2 c3 c4 = some 0 := by
    unfold storagebarterref04_Check.f
    rw [if_neg (by omega), if_neg (by omega), if_neg (by omega), if_neg (by omega), if_neg (by omega), if_neg (by omega), if_neg (by omega)]
  obtain ⟨xs, e3, hr, hxl⟩ := Ends_l0 t ht c1 c2 c3 c4 (by omega) (by omega) t.size [] 0 1 k (by omega) (by omega) trivial rfl (by omega) (by omega) (by simp) (by omega)
  have hen : storagebarterref04_Ends.f k t c1 c2 c3 c4 = some (xs, 0) := by
    unfold storagebarterref04_Ends.f
    rw [hch, Option.bind_some, if_pos rfl, if_neg (by omega)]
    exact e3
  obtain ⟨cs, e4, hc1, hc2⟩ := Cut_l0 t xs hxl ht xs.length 0 [] 0 k (by omega) (by omega) (by omega) (by rw [List.drop_zero]; exact hr) (by omega) (by simp) (fun c hc => by cases hc)
  refine ⟨cs, a2, ?_, h2, hc1, hc2⟩
  have hcu : storagebarterref04_Cut.f k t c1 c2 c3 c4 = some (cs, 0) := by
    unfold storagebarterref04_Cut.f
    rw [hen, Option.bind_some, if_pos rfl]
    exact e4
  rw [hcu]
  rfl
def Proper (n : S78) : Prop := 0 ≤ n.f0 ∧ n.f0 < 2147483647 ∧ 1 ≤ n.f1 ∧ n.f1 ≤ 256
theorem proper_ok {n : S78} (h : Proper n) : manifest_proper.f n.f0 n.f1 = some true := by
  obtain ⟨h1, h2, h3, h4⟩ := h
  unfold manifest_proper.f
  rw [if_pos (by omega), if_pos (by omega), if_pos (by omega), decide_eq_true h4]
theorem rdN (l : List S78) (i : Nat) (h : i < l.length) : rd_T78 l (i : Int) = l[i] := by simp [rd_T78, List.getD, h]
theorem Check_l0 (l : List S78) (hl : l.length ≤ 256) (hp : ∀ n ∈ l, Proper n) : ∀ (d i k : Nat), l.length - i = d → i ≤ l.length → d < k → manifest_Check.l0 k l (l.length : Int) (i : Int) = some 0 := by
  intro d
  induction d with
  | zero =>
    intro i k hd hi hk
    obtain ⟨k, rfl⟩ := nat_pred hk
    rw [manifest_Check.l0, if_neg (by omega)]
  | succ d ih =>
    intro i k hd hi hk
    obtain ⟨k, rfl⟩ := nat_pred hk
    have hil : i < l.length := by omega
    rw [manifest_Check.l0, if_pos (by omega), if_pos (by omega), if_pos (by omega), rdN l i hil, proper_ok (hp _ (List.getElem_mem hil)), Option.bind_some, if_pos rfl, w64 (x := (i : Int) + 1) (by omega), show ((i : Int) + 1) = ((i + 1 : Nat) : Int) by omega]
    exact ih (i + 1) k (by omega) (by omega) (by omega)
theorem Check_ok (a : Int) (ha : 1 ≤ a ∧ a < 2147483647) (l : List S78) (hl : l.length ≤ 256) (hp : ∀ n ∈ l, Proper n) (k : Nat) (hk : 256 < k) : manifest_Check.f k a l = some 0 := by
  unfold manifest_Check.f
  rw [numbered_eq, Option.bind_some, decide_eq_true ha, if_pos rfl, if_neg (by omega)]
  exact Check_l0 l hl hp l.length 0 k (by omega) (by omega) (by omega)
def sumN (l : List S78) : Int := (l.map (·.f1)).sum
theorem sumN_bound (l : List S78) (hp : ∀ n ∈ l, Proper n) : 0 ≤ sumN l ∧ sumN l ≤ 256 * (l.length : Int) := by
  induction l with
  | nil => simp [sumN]
  | cons x l ih =>
    obtain ⟨h1, h2⟩ := ih (fun n hn => hp n (List.mem_cons_of_mem _ hn))
    obtain ⟨-, -, h3, h4⟩ := hp x List.mem_cons_self
    unfold sumN at h1 h2 ⊢
    rw [List.map_cons, List.sum_cons, List.length_cons]
    omega
theorem Size_l0 (l : List S78) (hl : l.length ≤ 256) (hp : ∀ n ∈ l, Proper n) : ∀ (d i k : Nat), l.length - i = d → i ≤ l.length → d < k → manifest_Size.l0 k (sumN (l.take i)) l (l.length : Int) (i : Int) = some (sumN l, 0) := by
  intro d
  induction d with
  | zero =>
    intro i k hd hi hk
    obtain ⟨k, rfl⟩ := nat_pred hk
    rw [manifest_Size.l0, if_neg (by omega), List.take_of_length_le (by omega)]
  | succ d ih =>
    intro i k hd hi hk
    obtain ⟨k, rfl⟩ := nat_pred hk
    have hil : i < l.length := by omega
    obtain ⟨b1, b2⟩ := sumN_bound (l.take i) (fun n hn => hp n (List.mem_of_mem_take hn))
    rw [List.length_take] at b2
    obtain ⟨-, -, h3, h4⟩ := hp _ (List.getElem_mem hil)
    have e : sumN (l.take (i + 1)) = sumN (l.take i) + l[i].f1 := by
      unfold sumN
      rw [List.take_succ_eq_append_getElem hil, List.map_append, List.sum_append]
      simp
    have h1 := ih (i + 1) k (by omega) (by omega) (by omega)
    rw [manifest_Size.l0, if_pos (by omega), if_pos (by omega), if_pos (by omega), rdN l i hil, w64 (x := sumN (l.take i) + l[i].f1) (by omega), w64 (x := (i : Int) + 1) (by omega), show ((i : Int) + 1) = ((i + 1 : Nat) : Int) by omega, ← e]
    exact h1
theorem Size_ok (a : Int) (ha : 1 ≤ a ∧ a < 2147483647) (l : List S78) (hl : l.length ≤ 256) (hp : ∀ n ∈ l, Proper n) (k : Nat) (hk : 256 < k) : manifest_Size.f k a l = some (sumN l, 0) := by
  unfold manifest_Size.f
  rw [Check_ok a ha l hl hp k hk, Option.bind_some, if_pos rfl]
  exact Size_l0 l hl hp l.length 0 k (by omega) (by omega) (by omega)
theorem nameS_eq (s : ByteArray) (hs : s.size ≤ 9223372036854775807) : nameS s = ⟨dg 1 s.data.toList, (s.size : Int)⟩ := by
  unfold nameS
  rw [nm_eq s hs]
theorem names_proper (l : List ByteArray) (h : ∀ c ∈ l, 1 ≤ c.size ∧ c.size ≤ 256) : ∀ n ∈ l.map nameS, Proper n := by
  intro n hn
  obtain ⟨s, hs, rfl⟩ := List.mem_map.1 hn
  have h1 := h s hs
  have h2 := dg_r s.data.toList
  rw [nameS_eq s (by omega)]
  exact ⟨h2.1, h2.2, by simp only; omega, by simp only; omega⟩
/-- 'Of' some chunks: a version, or a clash. -/
theorem Of_ok (a : Int) (ha : 1 ≤ a ∧ a < 2147483647) (l : List ByteArray) (hl : l.length ≤ 256) (h : ∀ c ∈ l, 1 ≤ c.size ∧ c.size ≤ 256) :
    manifest_Of.f a l = if ofGo [] l = true then some (0, [], 8) else some (a, l.map nameS, 0) := by
  unfold manifest_Of.f
  rw [if_pos ha, if_neg (by omega), if_neg]
  · unfold ofEnd
    rw [if_pos (fun s hs => named s (by have := h s hs; omega))]
  · rintro ⟨s, hs, hb⟩
    have := h s hs
    unfold badS at hb
    omega
theorem Few_eq (L : List Int) : storagebartermake_Few.f L = some (decide ((L.length : Int) ≤ 500)) := rfl
theorem Restore_ok (a : Int) (ha : 1 ≤ a ∧ a < 2147483647) (l : List S78) (hl : l.length ≤ 256) (hp : ∀ n ∈ l, Proper n) (cs : List ByteArray) (hcl : cs.length < 9223372036854775807) (hcs : ∀ s ∈ cs, s.size ≤ 9223372036854775807) :
    manifest_Restore.f a l cs = some (reGo cs (reC [] cs []) [] l) := by
  unfold manifest_Restore.f
  rw [Check_ok a ha l hl hp 1000 (by omega), Option.bind_some, if_pos rfl, if_pos]
  refine ⟨by omega, fun n hn => ?_, by unfold maxLen; omega, fun s hs => ⟨named s (hcs s hs), by rw [nm_eq s (hcs s hs)]⟩⟩
  obtain ⟨h1, h2, h3, h4⟩ := hp n hn
  exact ⟨wf64 (by omega), wf64 (by omega), by omega⟩
end Go.Proofs.Ytodhkbahjomfhaa.Gch

namespace Go.Proofs.Ytodhkbahjomfhaa.Gwa
open Go Go.RowKit Go.Proofs.Ytodhkbahjomfhaa.Gm Go.Proofs.Ytodhkbahjomfhaa.Q Go.Proofs.Ytodhkbahjomfhaa.Gput Go.Proofs.YtodhkbahjomfhaaW.PrintWords Go.Proofs.YtodhkbahjomfhaaW.PrintLast Go.Proofs.YtodhkbahjomfhaaW.PrintMore
set_option linter.unusedVariables false
theorem wrap_u64 (x : Int) : IntKind.u64.wrap x = x % 18446744073709551616 := by simp [IntKind.wrap, IntKind.bits, IntKind.signed]
theorem wraps_u64 (n : Int) (h₀ : 0 ≤ n) (h₁ : n < 2 ^ 64) : IntKind.u64.wrap n = n := by rw [wrap_u64]; omega
theorem w64 {x : Int} (h : -9223372036854775808 ≤ x ∧ x ≤ 9223372036854775807) : wrap64 x = x := by unfold wrap64; omega
theorem u8_and127 (x : Int) (h₀ : 0 ≤ x) (h₁ : x < 256) : bits .and .u8 x 127 = x % 128 := bits_mask .u8 8 (by decide) wraps_u8 7 (by decide) x h₀ h₁
theorem u64_and1 (x : Int) (h₀ : 0 ≤ x) (h₁ : x < 18446744073709551616) : bits .and .u64 x 1 = x % 2 := bits_mask .u64 64 (by decide) wraps_u64 1 (by decide) x h₀ h₁
theorem or_comm64 (a b : Nat) (ha : a < 2 ^ 64) (hb : b < 2 ^ 64) : bits .or .u64 (a : Int) (b : Int) = bits .or .u64 (b : Int) (a : Int) := by
  rw [(bits_nat .u64 64 (by decide) wraps_u64 a b ha hb).2, (bits_nat .u64 64 (by decide) wraps_u64 b a hb ha).2, Nat.or_comm]
theorem pow128 (i : Nat) : (128 : Nat) ^ i = 2 ^ (7 * i) := by rw [Nat.pow_mul]
theorem mul_lt64 {i b : Nat} (hi : i ≤ 9) (hb : i = 9 → b ≤ 1) : b % 128 * 128 ^ i + 128 ^ i ≤ 18446744073709551616 := by
  obtain ⟨m, hm, hm2, hm9⟩ := pow_split hi
  rw [hm, ← Nat.succ_mul, Nat.mul_comm]
  refine Nat.mul_le_mul_left _ ?_
  rcases Nat.lt_or_ge i 9 with h | h
  · have := hm9 h; omega
  · have := hb (by omega); omega
theorem shl_part (b i : Nat) (h256 : b < 256) (hi : i ≤ 9) (hb : i = 9 → b ≤ 1) : shl .u64 (IntKind.u64.wrap (bits .and .u8 (b : Int) 127)) (wrap64 (7 * (i : Int))) = ((b % 128 * 128 ^ i : Nat) : Int) := by
  have hlt := mul_lt64 hi hb
  have hpos : 0 < 128 ^ i := Nat.pow_pos (by decide)
  rw [u8_and127 _ (by omega) (by omega), w64 (by omega), wrap_u64]
  unfold shl
  have e1 : ((b : Int) % 128 % 18446744073709551616) = ((b % 128 : Nat) : Int) := by omega
  have e2 : min (7 * (i : Int)).toNat IntKind.u64.bits = 7 * i := by
    have : IntKind.u64.bits = 64 := rfl
    omega
  rw [e1, e2, wrap_u64]
  have e3 : ((b % 128 : Nat) : Int) * 2 ^ (7 * i) = ((b % 128 * 128 ^ i : Nat) : Int) := by
    rw [pow128, Int.natCast_mul, Int.natCast_pow]
    rfl
  rw [e3]
  omega
theorem or_part (u b i : Nat) (h256 : b < 256) (hi : i ≤ 9) (hb : i = 9 → b ≤ 1) (hu : u < 128 ^ i) :
    bits .or .u64 (u : Int) ((b % 128 * 128 ^ i : Nat) : Int) = ((u + b % 128 * 128 ^ i : Nat) : Int) := by
  have hlt := mul_lt64 hi hb
  have hpos : 0 < 128 ^ i := Nat.pow_pos (by decide)
  have h64 : (18446744073709551616 : Nat) = 2 ^ 64 := by decide
  have hx : b % 128 * 128 ^ i < 2 ^ 64 := by rw [← h64]; omega
  have hu64 : u < 2 ^ 64 := by rw [← h64]; omega
  rw [or_comm64 _ _ hu64 hx]
  have hj := bits_join .u64 64 (by decide) wraps_u64 (7 * i) ((b % 128 * 128 ^ i : Nat) : Int) (u : Int) (by omega)
    (by rw [pow128]; have : ((2 : Int) ^ (7 * i)) = ((2 ^ (7 * i) : Nat) : Int) := by simp
        rw [this, ← Int.natCast_emod, Nat.mul_mod_left]; rfl)
    (by exact_mod_cast hx) (by omega) (by rw [pow128] at hu; exact_mod_cast hu) (by exact_mod_cast hu64)
  rw [hj]
  omega
theorem bits_xor64i (a b : Int) : bits .xor .i64 a b = IntKind.i64.wrap ((BitVec.ofInt 64 a ^^^ BitVec.ofInt 64 b).toNat : Int) := rfl
theorem unzig_bits (U : Nat) (h : U < 18446744073709551616) : bits .xor .i64 (wrap64 ((U : Int) / 2)) (wrap64 (-(wrap64 (bits .and .u64 (U : Int) 1)))) = unzig U := by
  rw [u64_and1 _ (by omega) (by omega), w64 (x := (U : Int) / 2) (by omega), w64 (x := (U : Int) % 2) (by omega), w64 (by omega)]
  have ex : ((U : Int) / 2) = ((U / 2 : Nat) : Int) := by omega
  rw [ex, bits_xor64i, BitVec.ofInt_natCast]
  have hlt : U / 2 < 2 ^ 64 := by omega
  unfold unzig
  rcases Nat.mod_two_eq_zero_or_one U with h0 | h1
  · have e0 : (-((U : Int) % 2)) = ((0 : Nat) : Int) := by omega
    rw [e0, BitVec.ofInt_natCast, BitVec.toNat_xor, BitVec.toNat_ofNat, BitVec.toNat_ofNat, Nat.mod_eq_of_lt hlt, Nat.zero_mod, Nat.xor_zero, IntKind.wrap_i64, if_pos h0]
    omega
  · have e1 : (-((U : Int) % 2)) = -1 := by omega
    have hn : BitVec.ofInt 64 (-1) = BitVec.allOnes 64 := by decide
    rw [e1, hn, BitVec.xor_allOnes, BitVec.toNat_not, BitVec.toNat_ofNat, Nat.mod_eq_of_lt hlt, IntKind.wrap_i64, if_neg (by omega)]
    omega
/-- What is told of the bytes from an index on. -/
def told (a : Int) : Nat × Nat × Nat → Int × Int × Int
  | (u, n, 0) => (unzig u, a + n, 0)
  | (_, _, e) => (0, 0, e)
def intAt (s : ByteArray) (a : Int) : Int × Int × Int :=
  if a < 0 ∨ a > s.size then (0, 0, 1) else told a (rdU 0 0 (s.data.toList.drop a.toNat))
theorem bt_at (s : ByteArray) (a : Nat) (h : a < s.size) : bt s (a : Int) = ((s.data.toList.drop a).headD 0).toNat := by
  have h' : a < s.data.size := h
  unfold bt
  rw [dif_pos (by simpa using h)]
  simp only [Int.toNat_natCast]
  rw [List.drop_eq_getElem_cons (by simpa using h')]
  rfl
theorem drop_at (s : ByteArray) (a : Nat) (h : a < s.size) : s.data.toList.drop a = UInt8.ofNat (bt s (a : Int)).toNat :: s.data.toList.drop (a + 1) := by
  have h' : a < s.data.size := h
  rw [bt_at s a h, List.drop_eq_getElem_cons (by simpa using h')]
  simp
theorem bt_lt (s : ByteArray) (i : Int) : 0 ≤ bt s i ∧ bt s i < 256 := by
  unfold bt
  split
  · have := (s[i.toNat]).toNat_lt; omega
  · omega
set_option maxHeartbeats 1000000 in
theorem wire_Int_l0 (s : ByteArray) (a : Nat) (hs : s.size ≤ 9223372036854775000) : ∀ (d i u k : Nat), 9 - i = d → i ≤ 9 → a + i ≤ s.size → u < 128 ^ i → 2 * d + 3 ≤ k →
    wire_Int.l0 k s a u i = some (told a (rdU i u (s.data.toList.drop (a + i)))) := by
  intro d
  induction d with
  | zero =>
    intro i u k hd hi ha hu hk
    obtain rfl : i = 9 := by omega
    obtain ⟨k, rfl⟩ : ∃ m, k = m + 2 := ⟨k - 2, by omega⟩
    have ew : wrap64 ((a : Int) + ((9 : Nat) : Int)) = ((a + 9 : Nat) : Int) := by rw [w64 (by omega)]; omega
    simp only [wire_Int.l0]
    rw [ew]
    by_cases hend : a + 9 = s.size
    · rw [if_pos (by omega), List.drop_of_length_le (by rw [Array.length_toList]; exact Nat.le_of_eq hend.symm)]
      rfl
    · have hlt : a + 9 < s.size := by omega
      have hb := bt_lt s ((a + 9 : Nat) : Int)
      obtain ⟨b, hbn⟩ : ∃ b : Nat, bt s ((a + 9 : Nat) : Int) = b := ⟨(bt s ((a + 9 : Nat) : Int)).toNat, by omega⟩
      rw [if_neg (by omega), if_pos (by omega), if_pos (by omega), drop_at s _ hlt, hbn, rdU, Int.toNat_natCast, u8_ofNat b (by omega), if_pos (by omega)]
      by_cases h1 : 1 < b
      · rw [if_pos (by omega), if_pos (.inl ⟨rfl, h1⟩)]
        simp only [wire_Int.j2]
        rfl
      · rw [if_neg (by omega), if_pos (by omega)]
        by_cases h0 : b = 0
        · rw [if_pos (.inr ⟨by omega, h0⟩)]
          subst h0
          simp only [wire_Int.j2]
          rfl
        · have hb0 : ((b : Int) == 0) = false := by simp; omega
          rw [if_neg (by omega), if_pos (by omega), hb0]
          simp only [wire_Int.j2]
          rw [if_neg (by simp), if_pos (by rw [w64 (by omega)]; omega), if_pos (by omega), shl_part b 9 (by omega) (by omega) (fun _ => by omega), or_part u b 9 (by omega) (by omega) (fun _ => by omega) hu]
          have hlt := mul_lt64 (i := 9) (b := b) (by omega) (fun _ => by omega)
          rw [unzig_bits _ (by omega), ew, w64 (by omega), Nat.mod_eq_of_lt (show b < 128 by omega)]
          simp only [told]
          rfl
  | succ d ih =>
    intro i u k hd hi ha hu hk
    obtain ⟨k, rfl⟩ : ∃ m, k = m + 2 := ⟨k - 2, by omega⟩
    have ew : wrap64 ((a : Int) + (i : Int)) = ((a + i : Nat) : Int) := by rw [w64 (by omega)]; omega
    simp only [wire_Int.l0]
    rw [ew]
    by_cases hend : a + i = s.size
    · rw [if_pos (by omega), List.drop_of_length_le (by rw [Array.length_toList]; exact Nat.le_of_eq hend.symm)]
      rfl
    · have hlt : a + i < s.size := by omega
      have hb := bt_lt s ((a + i : Nat) : Int)
      obtain ⟨b, hbn⟩ : ∃ b : Nat, bt s ((a + i : Nat) : Int) = b := ⟨(bt s ((a + i : Nat) : Int)).toNat, by omega⟩
      have key : ∀ z : Bool, z = decide (0 < i ∧ b = 0) → wire_Int.j2 (k + 1) s a u i b z = some (told a (if (i = 9 ∧ 1 < b) ∨ (0 < i ∧ b = 0) then (0, 0, 2) else if b < 128 then (u + b * 128 ^ i, i + 1, 0) else rdU (i + 1) (u + b % 128 * 128 ^ i) (s.data.toList.drop (a + i + 1)))) := by
        intro z hz
        simp only [wire_Int.j2]
        by_cases hc : 0 < i ∧ b = 0
        · rw [if_pos (by rw [hz]; simp [hc]), if_pos (.inr hc)]
          rfl
        · rw [if_neg (by rw [hz]; simpa using hc), if_neg (show ¬ ((i = 9 ∧ 1 < b) ∨ (0 < i ∧ b = 0)) by rintro (⟨h9, -⟩ | h); omega; exact hc h), if_pos (show 0 ≤ wrap64 (7 * (i : Int)) by rw [w64 (by omega)]; omega), shl_part b i (by omega) hi (fun _ => by omega), or_part u b i (by omega) hi (fun _ => by omega) hu]
          have hlt := mul_lt64 hi (b := b) (fun _ => by omega)
          by_cases h128 : b < 128
          · rw [if_pos (by omega), if_pos h128, unzig_bits _ (by omega), ew, w64 (by omega), Nat.mod_eq_of_lt h128]
            simp only [told]
            rfl
          · rw [if_neg (by omega), if_neg h128, w64 (by omega)]
            have h2 : u + b % 128 * 128 ^ i < 128 ^ (i + 1) := by
              have h3 : b % 128 * 128 ^ i ≤ 127 * 128 ^ i := Nat.mul_le_mul_right _ (by omega)
              have h4 : 128 ^ (i + 1) = 128 ^ i * 128 := Nat.pow_succ 128 i
              omega
            have := ih (i + 1) (u + b % 128 * 128 ^ i) (k) (by omega) (by omega) (by omega) h2 (by omega)
            rw [show ((i + 1 : Nat) : Int) = (i : Int) + 1 by omega] at this
            rw [this, Nat.add_assoc]
      rw [if_neg (by omega), if_pos (by omega), if_pos (by omega), drop_at s _ hlt, hbn, rdU, Int.toNat_natCast, u8_ofNat b (by omega), if_neg (by omega)]
      by_cases hi0 : 0 < i
      · rw [if_pos (by omega)]
        refine key _ ?_
        rw [Bool.eq_iff_iff]; simp; omega
      · rw [if_neg (by omega)]
        exact key _ (by simp; omega)
theorem wire_Int_eq (s : ByteArray) (a : Int) (k : Nat) (hs : s.size ≤ 9223372036854775000) (hk : 24 ≤ k) : wire_Int.f k s a = some (intAt s a) := by
  obtain ⟨k, rfl⟩ : ∃ m, k = m + 1 := ⟨k - 1, by omega⟩
  unfold wire_Int.f intAt
  by_cases h0 : a < 0
  · rw [if_pos h0, if_pos (.inl h0)]
    simp only [wire_Int.j0]
    rfl
  · rw [if_neg h0]
    simp only [wire_Int.j0]
    by_cases h1 : a > (s.size : Int)
    · rw [if_pos (by simpa using h1), if_pos (.inr h1)]
    · rw [if_neg (by simpa using h1), if_neg (by omega)]
      obtain ⟨n, rfl⟩ : ∃ n : Nat, a = n := ⟨a.toNat, by omega⟩
      exact wire_Int_l0 s n hs 9 0 0 k rfl (by omega) (by omega) (by simp) (by omega)
end Go.Proofs.Ytodhkbahjomfhaa.Gwa

namespace Go.Proofs.Ytodhkbahjomfhaa.Q
open Go.RowKit Go.Proofs.YtodhkbahjomfhaaW.PrintWords Go.Proofs.YtodhkbahjomfhaaW.PrintLast Go.Proofs.YtodhkbahjomfhaaW.PrintMore Go.Proofs.Ytodhkbahjomfhaa.Gput Go.Proofs.Ytodhkbahjomfhaa.Gputl
attribute [local go_sem] max2_int min2_int max_two min_two max_three min_three max_four min_four   -- for this text's walks alone
set_option linter.unusedVariables false
set_option linter.unusedSimpArgs false
noncomputable def wire_Text.f (k : Nat) (a0 : ByteArray) (a1 : Int) (a2 : Int) : Option (ByteArray × Int × Int) := (wire_count.f k a0 a1 a2).bind fun bt104 => (if bt104.2.2 = 0 then (if bt104.1 > (wrap64 ((a0.size : Int) - bt104.2.1)) then (some ((⟨#[]⟩ : ByteArray), 0, 3)) else (if 0 ≤ bt104.2.1 then (if bt104.2.1 ≤ (wrap64 (bt104.2.1 + bt104.1)) then (if (wrap64 (bt104.2.1 + bt104.1)) ≤ (a0.size : Int) then (some (a0.extract (bt104.2.1 : Int).toNat ((wrap64 (bt104.2.1 + bt104.1)) : Int).toNat, wrap64 (bt104.2.1 + bt104.1), 0)) else (none)) else (none)) else (none))) else (some ((⟨#[]⟩ : ByteArray), 0, bt104.2.2)))
set_option maxHeartbeats 8000000 in
set_option maxRecDepth 100000 in
theorem wire_Text.calls (k : Nat) (a0 : ByteArray) (a1 : Int) (a2 : Int) (r1 : ByteArray) (r2 : Int) (r3 : Int) (w : World) (h : wire_Text.f k a0 a1 a2 = some (r1, r2, r3)) :
 Calls Try.prog 97 #[.string a0, .int .i64 a1, .int .i64 a2] w fun e w' => e = .returned (.tuple #[.string r1, .int .i64 r2, .int .i64 r3]) ∧ Drawn0 w w' := by
 have H : ((wire_count.f k a0 a1 a2).bind fun bt104 => (if bt104.2.2 = 0 then (if bt104.1 > (wrap64 ((a0.size : Int) - bt104.2.1)) then (some ((⟨#[]⟩ : ByteArray), 0, 3)) else (if 0 ≤ bt104.2.1 then (if bt104.2.1 ≤ (wrap64 (bt104.2.1 + bt104.1)) then (if (wrap64 (bt104.2.1 + bt104.1)) ≤ (a0.size : Int) then (some (a0.extract (bt104.2.1 : Int).toNat ((wrap64 (bt104.2.1 + bt104.1)) : Int).toNat, wrap64 (bt104.2.1 + bt104.1), 0)) else (none)) else (none)) else (none))) else (some ((⟨#[]⟩ : ByteArray), 0, bt104.2.2)))) = some (r1, r2, r3) := h
 clear h
 replace H := Option.bind_eq_some_iff.mp H
 obtain ⟨⟨t104, t105, t106⟩, A40, H⟩ := H
 replace H : (if t106 = 0 then (if t104 > (wrap64 ((a0.size : Int) - t105)) then (some ((⟨#[]⟩ : ByteArray), 0, 3)) else (if 0 ≤ t105 then (if t105 ≤ (wrap64 (t105 + t104)) then (if (wrap64 (t105 + t104)) ≤ (a0.size : Int) then (some (a0.extract (t105 : Int).toNat ((wrap64 (t105 + t104)) : Int).toNat, wrap64 (t105 + t104), 0)) else (none)) else (none)) else (none))) else (some ((⟨#[]⟩ : ByteArray), 0, t106))) = some (r1, r2, r3) := H
 have A4 := Aside0.mk A40
 clear A40
 by_cases c5 : t106 = 0
 ·rw [if_pos c5] at H
  have c5b0 : (t106 == 0) = true := beq_iff_eq.mpr c5
  have c5b1 : (t106 != 0) = false := bne_eq_false_iff_eq.mpr c5
  clear c5
  by_cases c6 : t104 > (wrap64 ((a0.size : Int) - t105))
  ·rw [if_pos c6] at H
   have c6b0 : decide ((wrap64 ((a0.size : Int) - t105)) < t104) = true := decide_eq_true c6
   clear c6
   simp only [Option.some.injEq, Prod.mk.injEq] at H
   obtain ⟨rfl, rfl, rfl⟩ := H
   go_enter Try.func97, Try.ntmps97
   go_wp2_with (first | ((with_reducible refine gate_callee (f := 102) rfl ?_); refine goesL_ (some 15) rfl rfl Try.func102 (by kernel_rfl) rfl #[.string a0, .int .i64 a1, .int .i64 a2] rfl (by (try simp only [List.map_toArray, List.map_cons, List.map_nil]); first | done | rfl | (simp only [List.length_drop, List.length_take]; rfl)) ?_; (with_reducible refine (wire_count.calls k a0 a1 a2 t104 t105 t106 _ A4.out).mono ?_); rintro e w' ⟨rfl, ⟨nd, rfl⟩⟩; refine ⟨_, rfl, ?_⟩))
   go_ret3
   exact ⟨by first | rfl | (simp; done) | (simp [*]; done), by repeat (first | exact Drawn0.refl _ | apply Drawn0.step)⟩
  ·rw [if_neg c6] at H
   have c6b0 : decide ((wrap64 ((a0.size : Int) - t105)) < t104) = false := decide_eq_false c6
   clear c6
   by_cases c7 : 0 ≤ t105
   ·rw [if_pos c7] at H
    have c7b0 := eq_true c7
    have c7b1 : decide (0 ≤ t105) = true := decide_eq_true c7
    clear c7
    by_cases c8 : t105 ≤ (wrap64 (t105 + t104))
    ·rw [if_pos c8] at H
     have c8b0 := eq_true c8
     have c8b1 : decide (t105 ≤ (wrap64 (t105 + t104))) = true := decide_eq_true c8
     by_cases c9 : (wrap64 (t105 + t104)) ≤ (a0.size : Int)
     ·rw [if_pos c9] at H
      have c9b0 := eq_true c9
      have c9b1 : decide ((wrap64 (t105 + t104)) ≤ (a0.size : Int)) = true := decide_eq_true c9
      simp only [Option.some.injEq, Prod.mk.injEq] at H
      obtain ⟨rfl, rfl, rfl⟩ := H
      go_enter Try.func97, Try.ntmps97
      go_wp2_with (first | ((with_reducible refine gate_callee (f := 102) rfl ?_); refine goesL_ (some 15) rfl rfl Try.func102 (by kernel_rfl) rfl #[.string a0, .int .i64 a1, .int .i64 a2] rfl (by (try simp only [List.map_toArray, List.map_cons, List.map_nil]); first | done | rfl | (simp only [List.length_drop, List.length_take]; rfl)) ?_; (with_reducible refine (wire_count.calls k a0 a1 a2 t104 t105 t106 _ A4.out).mono ?_); rintro e w' ⟨rfl, ⟨nd, rfl⟩⟩; refine ⟨_, rfl, ?_⟩))
      go_ret3
      exact ⟨by first | rfl | (simp; done) | (simp [*]; done), by repeat (first | exact Drawn0.refl _ | apply Drawn0.step)⟩
     ·rw [if_neg c9] at H
      exact absurd H (by simp)
    ·rw [if_neg c8] at H
     exact absurd H (by simp)
   ·rw [if_neg c7] at H
    exact absurd H (by simp)
 ·rw [if_neg c5] at H
  have c5b0 : (t106 == 0) = false := beq_eq_false_iff_ne.mpr c5
  have c5b1 : (t106 != 0) = true := bne_iff_ne.mpr c5
  simp only [Option.some.injEq, Prod.mk.injEq] at H
  obtain ⟨rfl, rfl, rfl⟩ := H
  go_enter Try.func97, Try.ntmps97
  go_wp2_with (first | ((with_reducible refine gate_callee (f := 102) rfl ?_); refine goesL_ (some 15) rfl rfl Try.func102 (by kernel_rfl) rfl #[.string a0, .int .i64 a1, .int .i64 a2] rfl (by (try simp only [List.map_toArray, List.map_cons, List.map_nil]); first | done | rfl | (simp only [List.length_drop, List.length_take]; rfl)) ?_; (with_reducible refine (wire_count.calls k a0 a1 a2 t104 t105 t106 _ A4.out).mono ?_); rintro e w' ⟨rfl, ⟨nd, rfl⟩⟩; refine ⟨_, rfl, ?_⟩))
  go_ret3
  exact ⟨by first | rfl | (simp; done) | (simp [*]; done), by repeat (first | exact Drawn0.refl _ | apply Drawn0.step)⟩
end Go.Proofs.Ytodhkbahjomfhaa.Q

namespace Go.Proofs.Ytodhkbahjomfhaa.Q
open Go.RowKit Go.Proofs.YtodhkbahjomfhaaW.PrintWords Go.Proofs.YtodhkbahjomfhaaW.PrintLast Go.Proofs.YtodhkbahjomfhaaW.PrintMore Go.Proofs.Ytodhkbahjomfhaa.Gput Go.Proofs.Ytodhkbahjomfhaa.Gputl
attribute [local go_sem] max2_int min2_int max_two min_two max_three min_three max_four min_four   -- for this text's walks alone
set_option linter.unusedVariables false
set_option linter.unusedSimpArgs false
noncomputable def wire_PutText.f (a0 : ByteArray) (a1 : ByteArray) : Option (ByteArray) := (wire_PutInt.f a0 (a1.size : Int)).bind fun t261 => (if t261.size + a1.size ≤ 9223372036854775807 then (some (t261 ++ a1)) else (none))
set_option maxHeartbeats 8000000 in
set_option maxRecDepth 100000 in
theorem wire_PutText.calls (a0 : ByteArray) (a1 : ByteArray) (r : ByteArray) (w : World) (h : wire_PutText.f a0 a1 = some r) :
 Calls Try.prog 71 #[.string a0, .string a1] w fun e w' => e = .returned (.string r) ∧ Below w.heap.size w w' := by
 have HB := Aside0.mk (Below.refl w.heap.size w)
 have H : ((wire_PutInt.f a0 (a1.size : Int)).bind fun t261 => (if t261.size + a1.size ≤ 9223372036854775807 then (some (t261 ++ a1)) else (none))) = some r := h
 clear h
 replace H := Option.bind_eq_some_iff.mp H
 obtain ⟨t261, A30, H⟩ := H
 replace H : (if t261.size + a1.size ≤ 9223372036854775807 then (some (t261 ++ a1)) else (none)) = some r := H
 have A3 := Aside0.mk A30
 clear A30
 by_cases c4 : t261.size + a1.size ≤ 9223372036854775807
 ·rw [if_pos c4] at H
  have c4b0 := eq_true c4
  have c4b1 : decide (t261.size + a1.size ≤ 9223372036854775807) = true := decide_eq_true c4
  try have c4b2 : (9223372036854775807 < t261.size + a1.size) = False := eq_false (Nat.not_lt.2 c4)
  obtain rfl := Option.some.inj H
  go_enter Try.func71, Try.ntmps71
  go_wp2_with (first | ((with_reducible refine gate_callee (f := 65) rfl ?_); refine goesL_ (some 8) rfl rfl Try.func65 (by kernel_rfl) rfl #[.string a0, .int .i64 (a1.size : Int)] rfl (by (try simp only [List.map_toArray, List.map_cons, List.map_nil]); first | done | rfl | (simp only [List.length_drop, List.length_take]; rfl)) ?_; (with_reducible refine (wire_PutInt.calls a0 (a1.size : Int) t261 _ A3.out).mono ?_); rintro e w5 ⟨rfl, hb⟩; refine ⟨_, rfl, ?_⟩; have n0_ := Aside0.mk (below_step (by repeat (first | (with_reducible first | exact HB.out | apply below_alloc | apply pw_below_drewN | apply below_drew1) | exact HB.out)) hb); clear HB; have HB := n0_; clear n0_; (try clear hb); (try clear hb2); (try clear hk); (try clear hi)))
  go_ret
  exact ⟨by first | rfl | (simp [errW_none, errW_some] <;> rfl) | (simp [*, errW_none, errW_some] <;> rfl), by repeat (first | (with_reducible first | exact HB.out | apply below_alloc | apply pw_below_drewN | apply below_drew1) | exact HB.out)⟩
 ·rw [if_neg c4] at H
  exact absurd H (by simp)
end Go.Proofs.Ytodhkbahjomfhaa.Q

namespace Go.Proofs.Ytodhkbahjomfhaa.Q
open Go.RowKit Go.Proofs.YtodhkbahjomfhaaW.PrintWords Go.Proofs.YtodhkbahjomfhaaW.PrintLast Go.Proofs.YtodhkbahjomfhaaW.PrintMore Go.Proofs.Ytodhkbahjomfhaa.Gput Go.Proofs.Ytodhkbahjomfhaa.Gputl
attribute [local go_sem] max2_int min2_int max_two min_two max_three min_three max_four min_four   -- for this text's walks alone
set_option linter.unusedVariables false
set_option linter.unusedSimpArgs false
noncomputable def storagebarterref01_Text.f (k : Nat) (a0 : ByteArray) (a1 : Int) (a2 : Int) : Option (ByteArray × Int × Int) := (storagebarterref01_Int.f k a0 a1).bind fun bt603 => (if bt603.2.2 = 0 then (if bt603.1 < 0 then (some ((⟨#[]⟩ : ByteArray), 0, 2)) else (if bt603.1 > a2 then (some ((⟨#[]⟩ : ByteArray), 0, 4)) else (if bt603.1 > (wrap64 ((a0.size : Int) - bt603.2.1)) then (some ((⟨#[]⟩ : ByteArray), 0, 3)) else (if 0 ≤ bt603.2.1 then (if bt603.2.1 ≤ (wrap64 (bt603.2.1 + bt603.1)) then (if (wrap64 (bt603.2.1 + bt603.1)) ≤ (a0.size : Int) then (some (a0.extract (bt603.2.1 : Int).toNat ((wrap64 (bt603.2.1 + bt603.1)) : Int).toNat, wrap64 (bt603.2.1 + bt603.1), 0)) else (none)) else (none)) else (none))))) else (some ((⟨#[]⟩ : ByteArray), 0, bt603.2.2)))
set_option maxHeartbeats 8000000 in
set_option maxRecDepth 100000 in
theorem storagebarterref01_Text.calls (k : Nat) (a0 : ByteArray) (a1 : Int) (a2 : Int) (r1 : ByteArray) (r2 : Int) (r3 : Int) (w : World) (h : storagebarterref01_Text.f k a0 a1 a2 = some (r1, r2, r3)) :
 Calls Try.prog 84 #[.string a0, .int .i64 a1, .int .i64 a2] w fun e w' => e = .returned (.tuple #[.string r1, .int .i64 r2, .int .i64 r3]) ∧ Drawn0 w w' := by
 have H : ((storagebarterref01_Int.f k a0 a1).bind fun bt603 => (if bt603.2.2 = 0 then (if bt603.1 < 0 then (some ((⟨#[]⟩ : ByteArray), 0, 2)) else (if bt603.1 > a2 then (some ((⟨#[]⟩ : ByteArray), 0, 4)) else (if bt603.1 > (wrap64 ((a0.size : Int) - bt603.2.1)) then (some ((⟨#[]⟩ : ByteArray), 0, 3)) else (if 0 ≤ bt603.2.1 then (if bt603.2.1 ≤ (wrap64 (bt603.2.1 + bt603.1)) then (if (wrap64 (bt603.2.1 + bt603.1)) ≤ (a0.size : Int) then (some (a0.extract (bt603.2.1 : Int).toNat ((wrap64 (bt603.2.1 + bt603.1)) : Int).toNat, wrap64 (bt603.2.1 + bt603.1), 0)) else (none)) else (none)) else (none))))) else (some ((⟨#[]⟩ : ByteArray), 0, bt603.2.2)))) = some (r1, r2, r3) := h
 clear h
 replace H := Option.bind_eq_some_iff.mp H
 obtain ⟨⟨t603, t604, t605⟩, A40, H⟩ := H
 replace H : (if t605 = 0 then (if t603 < 0 then (some ((⟨#[]⟩ : ByteArray), 0, 2)) else (if t603 > a2 then (some ((⟨#[]⟩ : ByteArray), 0, 4)) else (if t603 > (wrap64 ((a0.size : Int) - t604)) then (some ((⟨#[]⟩ : ByteArray), 0, 3)) else (if 0 ≤ t604 then (if t604 ≤ (wrap64 (t604 + t603)) then (if (wrap64 (t604 + t603)) ≤ (a0.size : Int) then (some (a0.extract (t604 : Int).toNat ((wrap64 (t604 + t603)) : Int).toNat, wrap64 (t604 + t603), 0)) else (none)) else (none)) else (none))))) else (some ((⟨#[]⟩ : ByteArray), 0, t605))) = some (r1, r2, r3) := H
 have A4 := Aside0.mk A40
 clear A40
 by_cases c5 : t605 = 0
 ·rw [if_pos c5] at H
  have c5b0 : (t605 == 0) = true := beq_iff_eq.mpr c5
  have c5b1 : (t605 != 0) = false := bne_eq_false_iff_eq.mpr c5
  clear c5
  by_cases c6 : t603 < 0
  ·rw [if_pos c6] at H
   have c6b0 : decide (t603 < 0) = true := decide_eq_true c6
   clear c6
   simp only [Option.some.injEq, Prod.mk.injEq] at H
   obtain ⟨rfl, rfl, rfl⟩ := H
   go_enter Try.func84, Try.ntmps84
   go_wp2_with (first | ((with_reducible refine gate_callee (f := 78) rfl ?_); refine goesL_ (some 15) rfl rfl Try.func78 (by kernel_rfl) rfl #[.string a0, .int .i64 a1] rfl (by (try simp only [List.map_toArray, List.map_cons, List.map_nil]); first | done | rfl | (simp only [List.length_drop, List.length_take]; rfl)) ?_; (with_reducible refine (storagebarterref01_Int.calls k a0 a1 t603 t604 t605 _ A4.out).mono ?_); rintro e w' ⟨rfl, ⟨nd, rfl⟩⟩; refine ⟨_, rfl, ?_⟩))
   go_ret3
   exact ⟨by first | rfl | (simp; done) | (simp [*]; done), by repeat (first | exact Drawn0.refl _ | apply Drawn0.step)⟩
  ·rw [if_neg c6] at H
   have c6b0 : decide (t603 < 0) = false := decide_eq_false c6
   clear c6
   by_cases c7 : t603 > a2
   ·rw [if_pos c7] at H
    have c7b0 : decide (a2 < t603) = true := decide_eq_true c7
    clear c7
    simp only [Option.some.injEq, Prod.mk.injEq] at H
    obtain ⟨rfl, rfl, rfl⟩ := H
    go_enter Try.func84, Try.ntmps84
    go_wp2_with (first | ((with_reducible refine gate_callee (f := 78) rfl ?_); refine goesL_ (some 15) rfl rfl Try.func78 (by kernel_rfl) rfl #[.string a0, .int .i64 a1] rfl (by (try simp only [List.map_toArray, List.map_cons, List.map_nil]); first | done | rfl | (simp only [List.length_drop, List.length_take]; rfl)) ?_; (with_reducible refine (storagebarterref01_Int.calls k a0 a1 t603 t604 t605 _ A4.out).mono ?_); rintro e w' ⟨rfl, ⟨nd, rfl⟩⟩; refine ⟨_, rfl, ?_⟩))
    go_ret3
    exact ⟨by first | rfl | (simp; done) | (simp [*]; done), by repeat (first | exact Drawn0.refl _ | apply Drawn0.step)⟩
   ·rw [if_neg c7] at H
    have c7b0 : decide (a2 < t603) = false := decide_eq_false c7
    clear c7
    by_cases c8 : t603 > (wrap64 ((a0.size : Int) - t604))
    ·rw [if_pos c8] at H
     have c8b0 : decide ((wrap64 ((a0.size : Int) - t604)) < t603) = true := decide_eq_true c8
     clear c8
     simp only [Option.some.injEq, Prod.mk.injEq] at H
     obtain ⟨rfl, rfl, rfl⟩ := H
     go_enter Try.func84, Try.ntmps84
     go_wp2_with (first | ((with_reducible refine gate_callee (f := 78) rfl ?_); refine goesL_ (some 15) rfl rfl Try.func78 (by kernel_rfl) rfl #[.string a0, .int .i64 a1] rfl (by (try simp only [List.map_toArray, List.map_cons, List.map_nil]); first | done | rfl | (simp only [List.length_drop, List.length_take]; rfl)) ?_; (with_reducible refine (storagebarterref01_Int.calls k a0 a1 t603 t604 t605 _ A4.out).mono ?_); rintro e w' ⟨rfl, ⟨nd, rfl⟩⟩; refine ⟨_, rfl, ?_⟩))
     go_ret3
     exact ⟨by first | rfl | (simp; done) | (simp [*]; done), by repeat (first | exact Drawn0.refl _ | apply Drawn0.step)⟩
    ·rw [if_neg c8] at H
     have c8b0 : decide ((wrap64 ((a0.size : Int) - t604)) < t603) = false := decide_eq_false c8
     clear c8
     by_cases c9 : 0 ≤ t604
     ·rw [if_pos c9] at H
      have c9b0 := eq_true c9
      have c9b1 : decide (0 ≤ t604) = true := decide_eq_true c9
      clear c9
      by_cases c10 : t604 ≤ (wrap64 (t604 + t603))
      ·rw [if_pos c10] at H
       have c10b0 := eq_true c10
       have c10b1 : decide (t604 ≤ (wrap64 (t604 + t603))) = true := decide_eq_true c10
       by_cases c11 : (wrap64 (t604 + t603)) ≤ (a0.size : Int)
       ·rw [if_pos c11] at H
        have c11b0 := eq_true c11
        have c11b1 : decide ((wrap64 (t604 + t603)) ≤ (a0.size : Int)) = true := decide_eq_true c11
        simp only [Option.some.injEq, Prod.mk.injEq] at H
        obtain ⟨rfl, rfl, rfl⟩ := H
        go_enter Try.func84, Try.ntmps84
        go_wp2_with (first | ((with_reducible refine gate_callee (f := 78) rfl ?_); refine goesL_ (some 15) rfl rfl Try.func78 (by kernel_rfl) rfl #[.string a0, .int .i64 a1] rfl (by (try simp only [List.map_toArray, List.map_cons, List.map_nil]); first | done | rfl | (simp only [List.length_drop, List.length_take]; rfl)) ?_; (with_reducible refine (storagebarterref01_Int.calls k a0 a1 t603 t604 t605 _ A4.out).mono ?_); rintro e w' ⟨rfl, ⟨nd, rfl⟩⟩; refine ⟨_, rfl, ?_⟩))
        go_ret3
        exact ⟨by first | rfl | (simp; done) | (simp [*]; done), by repeat (first | exact Drawn0.refl _ | apply Drawn0.step)⟩
       ·rw [if_neg c11] at H
        exact absurd H (by simp)
      ·rw [if_neg c10] at H
       exact absurd H (by simp)
     ·rw [if_neg c9] at H
      exact absurd H (by simp)
 ·rw [if_neg c5] at H
  have c5b0 : (t605 == 0) = false := beq_eq_false_iff_ne.mpr c5
  have c5b1 : (t605 != 0) = true := bne_iff_ne.mpr c5
  simp only [Option.some.injEq, Prod.mk.injEq] at H
  obtain ⟨rfl, rfl, rfl⟩ := H
  go_enter Try.func84, Try.ntmps84
  go_wp2_with (first | ((with_reducible refine gate_callee (f := 78) rfl ?_); refine goesL_ (some 15) rfl rfl Try.func78 (by kernel_rfl) rfl #[.string a0, .int .i64 a1] rfl (by (try simp only [List.map_toArray, List.map_cons, List.map_nil]); first | done | rfl | (simp only [List.length_drop, List.length_take]; rfl)) ?_; (with_reducible refine (storagebarterref01_Int.calls k a0 a1 t603 t604 t605 _ A4.out).mono ?_); rintro e w' ⟨rfl, ⟨nd, rfl⟩⟩; refine ⟨_, rfl, ?_⟩))
  go_ret3
  exact ⟨by first | rfl | (simp; done) | (simp [*]; done), by repeat (first | exact Drawn0.refl _ | apply Drawn0.step)⟩
end Go.Proofs.Ytodhkbahjomfhaa.Q

namespace Go.Proofs.Ytodhkbahjomfhaa.Q
open Go.RowKit Go.Proofs.YtodhkbahjomfhaaW.PrintWords Go.Proofs.YtodhkbahjomfhaaW.PrintLast Go.Proofs.YtodhkbahjomfhaaW.PrintMore Go.Proofs.Ytodhkbahjomfhaa.Gput Go.Proofs.Ytodhkbahjomfhaa.Gputl
attribute [local go_sem] max2_int min2_int max_two min_two max_three min_three max_four min_four   -- for this text's walks alone
set_option linter.unusedVariables false
set_option linter.unusedSimpArgs false
noncomputable def storagebarterref01_PutText.f (k : Nat) (a0 : ByteArray) (a1 : ByteArray) : Option (ByteArray) := (storagebarterref01_PutInt.f k a0 (a1.size : Int)).bind fun t281 => (if t281.size + a1.size ≤ 9223372036854775807 then (some (t281 ++ a1)) else (none))
set_option maxHeartbeats 8000000 in
set_option maxRecDepth 100000 in
theorem storagebarterref01_PutText.calls (k : Nat) (a0 : ByteArray) (a1 : ByteArray) (r : ByteArray) (w : World) (h : storagebarterref01_PutText.f k a0 a1 = some r) :
 Calls Try.prog 85 #[.string a0, .string a1] w fun e w' => e = .returned (.string r) ∧ Below w.heap.size w w' := by
 have HB := Aside0.mk (Below.refl w.heap.size w)
 have H : ((storagebarterref01_PutInt.f k a0 (a1.size : Int)).bind fun t281 => (if t281.size + a1.size ≤ 9223372036854775807 then (some (t281 ++ a1)) else (none))) = some r := h
 clear h
 replace H := Option.bind_eq_some_iff.mp H
 obtain ⟨t281, A30, H⟩ := H
 replace H : (if t281.size + a1.size ≤ 9223372036854775807 then (some (t281 ++ a1)) else (none)) = some r := H
 have A3 := Aside0.mk A30
 clear A30
 by_cases c4 : t281.size + a1.size ≤ 9223372036854775807
 ·rw [if_pos c4] at H
  have c4b0 := eq_true c4
  have c4b1 : decide (t281.size + a1.size ≤ 9223372036854775807) = true := decide_eq_true c4
  try have c4b2 : (9223372036854775807 < t281.size + a1.size) = False := eq_false (Nat.not_lt.2 c4)
  obtain rfl := Option.some.inj H
  go_enter Try.func85, Try.ntmps85
  go_wp2_with (first | ((with_reducible refine gate_callee (f := 66) rfl ?_); refine goesL_ (some 8) rfl rfl Try.func66 (by kernel_rfl) rfl #[.string a0, .int .i64 (a1.size : Int)] rfl (by (try simp only [List.map_toArray, List.map_cons, List.map_nil]); first | done | rfl | (simp only [List.length_drop, List.length_take]; rfl)) ?_; (with_reducible refine (storagebarterref01_PutInt.calls k a0 (a1.size : Int) t281 _ A3.out).mono ?_); rintro e w5 ⟨rfl, hb⟩; refine ⟨_, rfl, ?_⟩; have n0_ := Aside0.mk (below_step (by repeat (first | (with_reducible first | exact HB.out | apply below_alloc | apply pw_below_drewN | apply below_drew1) | exact HB.out)) hb); clear HB; have HB := n0_; clear n0_; (try clear hb); (try clear hb2); (try clear hk); (try clear hi)))
  go_ret
  exact ⟨by first | rfl | (simp [errW_none, errW_some] <;> rfl) | (simp [*, errW_none, errW_some] <;> rfl), by repeat (first | (with_reducible first | exact HB.out | apply below_alloc | apply pw_below_drewN | apply below_drew1) | exact HB.out)⟩
 ·rw [if_neg c4] at H
  exact absurd H (by simp)
end Go.Proofs.Ytodhkbahjomfhaa.Q

namespace Go.Proofs.Ytodhkbahjomfhaa.Gwb
open Go Go.RowKit Go.Proofs.Ytodhkbahjomfhaa.Gm Go.Proofs.Ytodhkbahjomfhaa.Gwa Go.Proofs.Ytodhkbahjomfhaa.Q Go.Proofs.Ytodhkbahjomfhaa.Gput Go.Proofs.Ytodhkbahjomfhaa.Gputl Go.Proofs.YtodhkbahjomfhaaW.PrintWords Go.Proofs.YtodhkbahjomfhaaW.PrintLast Go.Proofs.YtodhkbahjomfhaaW.PrintMore
set_option linter.unusedVariables false
theorem intAt_B (l : List UInt8) (a : Int) : intAt (B l) a = if a < 0 ∨ a > l.length then (0, 0, 1) else told a (rdU 0 0 (l.drop a.toNat)) := by
  unfold intAt
  rw [B_size, B_data]
/-- The next index lies in the text, and behind; the number fits. -/
theorem intAt_ok {l : List UInt8} {a x n : Int} (h : intAt (B l) a = (x, n, 0)) : 0 ≤ a ∧ a < n ∧ n ≤ l.length ∧ n ≤ a + 10 ∧ -9223372036854775808 ≤ x ∧ x ≤ 9223372036854775807 ∧ (l.drop a.toNat).take (n - a).toNat = putI x ∧ ((putI x).length : Int) = n - a := by
  rw [intAt_B] at h
  split at h
  · simp at h
  rename_i hn
  rcases hr : rdU 0 0 (l.drop a.toNat) with ⟨u, c, e⟩
  rw [hr] at h
  cases e with
  | succ e => simp [told] at h; omega
  | zero =>
    simp only [told, Prod.mk.injEq, and_true] at h
    obtain ⟨rfl, rfl⟩ := h
    obtain ⟨v, hu, hc, ht, hl, -, hv⟩ := rdU_inv _ 0 0 u c (by omega) hr
    simp only [Nat.pow_zero, Nat.mul_one, Nat.zero_add] at hu hc hv
    subst hu
    subst hc
    have h10 := grp_len10 u hv
    have hp := grp_pos u
    have hrg := unzig_range hv
    simp only [List.length_drop] at hl
    have e1 : (a + ((grp u).length : Int) - a).toNat = (grp u).length := by omega
    have e2 : putI (unzig u) = grp u := by unfold putI; rw [zig_unzig]
    rw [e1, e2]
    exact ⟨by omega, by omega, by omega, by omega, hrg.1, hrg.2, ht, by omega⟩
theorem intAt_err {l : List UInt8} {a x n e : Int} (h : intAt (B l) a = (x, n, e)) : (e = 0 ∨ (x = 0 ∧ n = 0)) ∧ 0 ≤ e ∧ e ≤ 3 := by
  rw [intAt_B] at h
  split at h
  · simp at h; omega
  rcases hr : rdU 0 0 (l.drop a.toNat) with ⟨u, c, e'⟩
  rw [hr] at h
  have he : ∀ (l : List UInt8) (k u : Nat), (rdU k u l).2.2 ≤ 3 := by
    intro l
    induction l with
    | nil => intro k u; simp [rdU]
    | cons b l ih =>
      intro k u
      rw [rdU]
      split
      · simp
      · split
        · simp
        · exact ih _ _
  have := he (l.drop a.toNat) 0 0
  rw [hr] at this
  cases e' with
  | zero => simp only [told, Prod.mk.injEq] at h; omega
  | succ e' => simp only [told, Prod.mk.injEq] at h; simp at this; omega
/-- What was put is read back. -/
theorem intAt_put (p q : List UInt8) (n : Int) (hn : -9223372036854775808 ≤ n ∧ n ≤ 9223372036854775807) : intAt (B (p ++ (putI n ++ q))) p.length = (n, ((p.length + (putI n).length : Nat) : Int), 0) := by
  rw [intAt_B, if_neg (by simp; omega)]
  simp only [Int.toNat_natCast, List.drop_left']
  have h := rdU_grp q (zig n) 0 0 (by omega) (by simpa using zig_range hn)
  unfold putI
  rw [h]
  simp [told, unzig_zig]
theorem wf64 {n : Int} (h : -9223372036854775808 ≤ n ∧ n ≤ 9223372036854775807) : (Lit.int .i64 n).wf = true := Go.WalkArith.wf_i64 h
theorem wire_PutInt_eq (l : List UInt8) (n : Int) (hl : l.length + 10 ≤ 140737488355328) (hn : -9223372036854775808 ≤ n ∧ n ≤ 9223372036854775807) : wire_PutInt.f (B l) n = some (B (l ++ putI n)) := by
  unfold wire_PutInt.f
  rw [if_pos ⟨by rw [B_size]; exact hl, wf64 hn⟩]
  rfl
theorem strOfNums_one (n : Nat) : strOfNums [(n : Int)] = B [UInt8.ofNat n] := by
  unfold strOfNums B
  simp
theorem ref_PutInt_l0 : ∀ (u : Nat) (l : List UInt8) (k : Nat), l.length + (grp u).length ≤ 9223372036854775807 → (grp u).length ≤ k → storagebarterref01_PutInt.l0 k (B l) u = some (B (l ++ grp u)) := by
  intro u
  induction u using Nat.strongRecOn with
  | _ u ih =>
  intro l k hl hk
  by_cases h127 : 127 < u
  · rw [grp_more h127] at hl hk ⊢
    simp only [List.length_cons] at hl hk
    obtain ⟨k, rfl⟩ : ∃ m, k = m + 1 := ⟨k - 1, by omega⟩
    simp only [storagebarterref01_PutInt.l0]
    rw [if_pos (by omega), or128, Option.bind_some, strOfNums_one, if_pos (by rw [B_size, B_size]; simp; omega), B_append]
    have := ih (u / 128) (by omega) (l ++ [UInt8.ofNat (u % 128 + 128)]) k (by simp; omega) (by omega)
    rw [show ((u : Int) / 128) = ((u / 128 : Nat) : Int) by omega, this]
    simp
  · rw [grp_last h127] at hl hk ⊢
    simp only [List.length_singleton] at hl hk
    obtain ⟨k, rfl⟩ : ∃ m, k = m + 1 := ⟨k - 1, by omega⟩
    simp only [storagebarterref01_PutInt.l0]
    rw [if_neg (by omega), show ((u : Int) % 256) = (u : Int) by omega, Option.bind_some, strOfNums_one, if_pos (by rw [B_size, B_size]; simp; omega), B_append]
theorem ref_PutInt_eq (l : List UInt8) (n : Int) (k : Nat) (hl : l.length + 10 ≤ 9223372036854775807) (hn : -9223372036854775808 ≤ n ∧ n ≤ 9223372036854775807) (hk : 10 ≤ k) : storagebarterref01_PutInt.f k (B l) n = some (B (l ++ putI n)) := by
  unfold storagebarterref01_PutInt.f
  rw [zig_bits n (wf64 hn)]
  have := putI_len hn
  unfold putI at this ⊢
  exact ref_PutInt_l0 (zig n) l k (by omega) (by omega)
set_option maxHeartbeats 1000000 in
theorem ref_Int_l0 (s : ByteArray) (a : Nat) (hs : s.size ≤ 9223372036854775000) : ∀ (d i u k : Nat), 9 - i = d → i ≤ 9 → a + i ≤ s.size → u < 128 ^ i → 3 * d + 4 ≤ k →
    storagebarterref01_Int.l0 k s a u i = some (told a (rdU i u (s.data.toList.drop (a + i)))) := by
  intro d
  induction d with
  | zero =>
    intro i u k hd hi ha hu hk
    obtain rfl : i = 9 := by omega
    obtain ⟨k, rfl⟩ : ∃ m, k = m + 3 := ⟨k - 3, by omega⟩
    have ew : wrap64 ((a : Int) + ((9 : Nat) : Int)) = ((a + 9 : Nat) : Int) := by rw [w64 (by omega)]; omega
    simp only [storagebarterref01_Int.l0]
    rw [ew]
    by_cases hend : a + 9 = s.size
    · rw [if_pos (by omega), List.drop_of_length_le (by rw [Array.length_toList]; exact Nat.le_of_eq hend.symm)]
      rfl
    · have hlt : a + 9 < s.size := by omega
      have hb := bt_lt s ((a + 9 : Nat) : Int)
      obtain ⟨b, hbn⟩ : ∃ b : Nat, bt s ((a + 9 : Nat) : Int) = b := ⟨(bt s ((a + 9 : Nat) : Int)).toNat, by omega⟩
      rw [if_neg (by omega), if_pos (by omega), if_pos (by omega), drop_at s _ hlt, hbn, rdU, Int.toNat_natCast, u8_ofNat b (by omega), if_pos (by omega)]
      have e7 : IntKind.u64.wrap (wrap64 (7 * ((9 : Nat) : Int))) = wrap64 (7 * ((9 : Nat) : Int)) := by rw [w64 (by omega), wrap_u64]; omega
      by_cases h1 : 1 < b
      · rw [if_pos (show (9 = 9 ∧ 1 < b) ∨ (0 < 9 ∧ b = 0) from .inl ⟨rfl, h1⟩), show decide ((b : Int) > 1) = true by simp; omega]
        simp only [storagebarterref01_Int.j2]
        rfl
      · rw [show decide ((b : Int) > 1) = false by simp; omega]
        simp only [storagebarterref01_Int.j2]
        have hlt2 := mul_lt64 (i := 9) (b := b) (by omega) (fun _ => by omega)
        rw [if_neg (show ¬ (false = true) by simp), e7, if_pos (show 0 ≤ wrap64 (7 * ((9 : Nat) : Int)) by rw [w64 (by omega)]; omega), if_neg (show ¬ ((b : Int) > 127) by omega), shl_part b 9 (by omega) (by omega) (fun _ => by omega), or_part u b 9 (by omega) (by omega) (fun _ => by omega) hu]
        by_cases h0 : b = 0
        · rw [if_pos (show (True ∧ 1 < b) ∨ (0 < 9 ∧ b = 0) from .inr ⟨by omega, h0⟩), if_pos (show (b : Int) = 0 by omega)]
          simp only [storagebarterref01_Int.j3]
          rfl
        · rw [if_neg (show ¬ ((True ∧ 1 < b) ∨ (0 < 9 ∧ b = 0)) by omega), if_neg (show ¬ (b : Int) = 0 by omega), if_pos (show b < 128 by omega)]
          simp only [storagebarterref01_Int.j3]
          rw [if_neg (show ¬ (false = true) by simp), u64_and1 _ (by omega) (by omega), ew, w64 (x := ((a + 9 : Nat) : Int) + 1) (by omega), w64 (x := ((u + b % 128 * 128 ^ 9 : Nat) : Int) / 2) (by omega), Nat.mod_eq_of_lt (show b < 128 by omega)]
          rw [Nat.mod_eq_of_lt (show b < 128 by omega)] at hlt2
          simp only [told]
          unfold unzig
          split
          · rw [w64 (x := -(((u + b * 128 ^ 9 : Nat) : Int) / 2)) (by omega), w64 (by omega), if_neg (by omega)]
            rfl
          · rw [if_pos (by omega)]
            rfl
  | succ d ih =>
    intro i u k hd hi ha hu hk
    obtain ⟨k, rfl⟩ : ∃ m, k = m + 3 := ⟨k - 3, by omega⟩
    have ew : wrap64 ((a : Int) + (i : Int)) = ((a + i : Nat) : Int) := by rw [w64 (by omega)]; omega
    simp only [storagebarterref01_Int.l0]
    rw [ew]
    by_cases hend : a + i = s.size
    · rw [if_pos (by omega), List.drop_of_length_le (by rw [Array.length_toList]; exact Nat.le_of_eq hend.symm)]
      rfl
    · have hlt : a + i < s.size := by omega
      have hb := bt_lt s ((a + i : Nat) : Int)
      obtain ⟨b, hbn⟩ : ∃ b : Nat, bt s ((a + i : Nat) : Int) = b := ⟨(bt s ((a + i : Nat) : Int)).toNat, by omega⟩
      have e7 : IntKind.u64.wrap (wrap64 (7 * (i : Int))) = wrap64 (7 * (i : Int)) := by rw [w64 (by omega), wrap_u64]; omega
      have hlt2 := mul_lt64 (i := i) (b := b) (by omega) (fun _ => by omega)
      rw [if_neg (show ¬ (((a + i : Nat) : Int) ≥ (s.size : Int)) by omega), if_pos (show 0 ≤ ((a + i : Nat) : Int) by omega), if_pos (show ((a + i : Nat) : Int) < (s.size : Int) by omega), drop_at s _ hlt, hbn, rdU, Int.toNat_natCast, u8_ofNat b (by omega), if_neg (show ¬ ((i : Int) = 9) by omega)]
      simp only [storagebarterref01_Int.j2]
      rw [if_neg (show ¬ (false = true) by simp), e7, if_pos (show 0 ≤ wrap64 (7 * (i : Int)) by rw [w64 (by omega)]; omega), shl_part b i (by omega) (by omega) (fun _ => by omega), or_part u b i (by omega) (by omega) (fun _ => by omega) hu]
      by_cases h128 : b < 128
      · rw [if_neg (show ¬ ((b : Int) > 127) by omega), Nat.mod_eq_of_lt h128]
        rw [Nat.mod_eq_of_lt h128] at hlt2
        have key : ∀ z : Bool, z = decide (0 < i ∧ b = 0) → storagebarterref01_Int.j3 (k + 1) a ((u + b * 128 ^ i : Nat) : Int) i z = some (told a (if (i = 9 ∧ 1 < b) ∨ (0 < i ∧ b = 0) then (0, 0, 2) else if b < 128 then (u + b * 128 ^ i, i + 1, 0) else rdU (i + 1) (u + b * 128 ^ i) (s.data.toList.drop (a + i + 1)))) := by
          intro z hz
          simp only [storagebarterref01_Int.j3]
          by_cases hc : 0 < i ∧ b = 0
          · rw [if_pos (show z = true by rw [hz]; simp [hc]), if_pos (show (i = 9 ∧ 1 < b) ∨ (0 < i ∧ b = 0) from .inr hc)]
            rfl
          · rw [if_neg (show ¬ z = true by rw [hz]; simpa using hc), if_neg (show ¬ ((i = 9 ∧ 1 < b) ∨ (0 < i ∧ b = 0)) by rintro (⟨h9, -⟩ | h); omega; exact hc h), if_pos h128, u64_and1 _ (by omega) (by omega), ew, w64 (x := ((a + i : Nat) : Int) + 1) (by omega), w64 (x := ((u + b * 128 ^ i : Nat) : Int) / 2) (by omega)]
            simp only [told]
            unfold unzig
            split
            · rw [w64 (x := -(((u + b * 128 ^ i : Nat) : Int) / 2)) (by omega), w64 (by omega), if_neg (by omega)]
              rfl
            · rw [if_pos (by omega)]
              rfl
        by_cases hb0 : b = 0
        · rw [if_pos (show (b : Int) = 0 by omega)]
          refine key _ ?_
          rw [Bool.eq_iff_iff]; simp; omega
        · rw [if_neg (show ¬ (b : Int) = 0 by omega)]
          refine key _ ?_
          simp; omega
      · rw [if_pos (show ((b : Int) > 127) by omega), if_neg (show ¬ ((i = 9 ∧ 1 < b) ∨ (0 < i ∧ b = 0)) by omega), if_neg h128, w64 (by omega)]
        have h2 : u + b % 128 * 128 ^ i < 128 ^ (i + 1) := by
          have h3 : b % 128 * 128 ^ i ≤ 127 * 128 ^ i := Nat.mul_le_mul_right _ (by omega)
          have h4 : 128 ^ (i + 1) = 128 ^ i * 128 := Nat.pow_succ 128 i
          omega
        have := ih (i + 1) (u + b % 128 * 128 ^ i) (k + 1) (by omega) (by omega) (by omega) h2 (by omega)
        rw [show ((i + 1 : Nat) : Int) = (i : Int) + 1 by omega] at this
        rw [this, Nat.add_assoc]
theorem ref_Int_eq (s : ByteArray) (a : Int) (k : Nat) (hs : s.size ≤ 9223372036854775000) (hk : 34 ≤ k) : storagebarterref01_Int.f k s a = some (intAt s a) := by
  obtain ⟨k, rfl⟩ : ∃ m, k = m + 1 := ⟨k - 1, by omega⟩
  unfold storagebarterref01_Int.f intAt
  by_cases h0 : a < 0
  · rw [if_pos h0, if_pos (.inl h0)]
    simp only [storagebarterref01_Int.j0]
    rfl
  · rw [if_neg h0]
    simp only [storagebarterref01_Int.j0]
    by_cases h1 : a > (s.size : Int)
    · rw [if_pos (by simpa using h1), if_pos (.inr h1)]
    · rw [if_neg (by simpa using h1), if_neg (by omega)]
      obtain ⟨n, rfl⟩ : ∃ n : Nat, a = n := ⟨a.toNat, by omega⟩
      exact ref_Int_l0 s n hs 9 0 0 k rfl (by omega) (by omega) (by simp) (by omega)
def countAt (l : List UInt8) (a most : Int) : Int × Int × Int :=
  if (intAt (B l) a).2.2 = 0 then (if (intAt (B l) a).1 < 0 then (0, 0, 2) else if (intAt (B l) a).1 > most then (0, 0, 4) else ((intAt (B l) a).1, (intAt (B l) a).2.1, 0)) else (0, 0, (intAt (B l) a).2.2)
theorem wire_count_eq (l : List UInt8) (a m : Int) (k : Nat) (hs : l.length ≤ 9223372036854775000) (hk : 24 ≤ k) : wire_count.f k (B l) a m = some (countAt l a m) := by
  unfold wire_count.f countAt
  rw [wire_Int_eq (B l) a k (by rw [B_size]; exact hs) hk, Option.bind_some]
  split
  · split
    · rfl
    · split <;> rfl
  · rfl
theorem countAt_ok {l : List UInt8} {a m x n : Int} (h : countAt l a m = (x, n, 0)) : intAt (B l) a = (x, n, 0) ∧ 0 ≤ x ∧ x ≤ m := by
  unfold countAt at h
  rcases hr : intAt (B l) a with ⟨y, c, e⟩
  rw [hr] at h
  simp only at h
  split at h
  · split at h
    · simp at h
    · split at h
      · simp at h
      · simp only [Prod.mk.injEq, and_true] at h
        obtain ⟨rfl, rfl⟩ := h
        rename_i he _ _
        exact ⟨by rw [he], by omega, by omega⟩
  · simp only [Prod.mk.injEq] at h; omega
end Go.Proofs.Ytodhkbahjomfhaa.Gwb

namespace Go.Proofs.Ytodhkbahjomfhaa.Gwd
open Go Go.RowKit Go.Proofs.Ytodhkbahjomfhaa.Gm Go.Proofs.Ytodhkbahjomfhaa.Gwa Go.Proofs.Ytodhkbahjomfhaa.Gwb Go.Proofs.Ytodhkbahjomfhaa.Q Go.Proofs.Ytodhkbahjomfhaa.Gput Go.Proofs.Ytodhkbahjomfhaa.Gputl Go.Proofs.YtodhkbahjomfhaaW.PrintWords Go.Proofs.YtodhkbahjomfhaaW.PrintLast Go.Proofs.YtodhkbahjomfhaaW.PrintMore
set_option linter.unusedVariables false
/-- So many numbers are read from an index on. -/
def rdN (l : List UInt8) : Nat → Int → List Int → List Int × Int × Int
  | 0, a, acc => (acc, a, 0)
  | n + 1, a, acc => if (intAt (B l) a).2.2 = 0 then rdN l n (intAt (B l) a).2.1 (acc ++ [(intAt (B l) a).1]) else ([], 0, (intAt (B l) a).2.2)
def listAt (l : List UInt8) (a most : Int) : List Int × Int × Int :=
  if (countAt l a most).2.2 = 0 then rdN l (countAt l a most).1.toNat (countAt l a most).2.1 [] else ([], 0, (countAt l a most).2.2)
theorem wire_List_l0 (l : List UInt8) (hs : l.length ≤ 17592186044416) : ∀ (d : Nat) (k : Nat) (a : Int) (acc : List Int) (n i : Nat), (l.length : Int) - a = d → 0 ≤ a → (acc.length : Int) ≤ a → i + d + 30 < 9223372036854775807 → i ≤ n → n ≤ 9223372036854775807 → d + 30 ≤ k →
    wire_List.l0 k (B l) a acc n i = some (rdN l (n - i) a acc) := by
  intro d
  induction d using Nat.strongRecOn with
  | _ d ih =>
  intro k a acc n i hd ha hacc hbig hin hn hk
  obtain ⟨k, rfl⟩ : ∃ m, k = m + 1 := ⟨k - 1, by omega⟩
  simp only [wire_List.l0]
  by_cases h : i < n
  · rw [if_pos (by omega), wire_Int_eq (B l) a k (by rw [B_size]; omega) (by omega), Option.bind_some]
    obtain ⟨m, hm⟩ : ∃ m, n - i = m + 1 := ⟨n - i - 1, by omega⟩
    rw [hm, rdN]
    rcases hi : intAt (B l) a with ⟨x, c, e⟩
    simp only
    by_cases he : e = 0
    · subst he
      obtain ⟨h1, h2, h3, -⟩ := intAt_ok hi
      rw [if_pos rfl, if_pos rfl, if_pos (by omega)]
      have := ih (l.length - c).toNat (by omega) k c (acc ++ [x]) n (i + 1) (by omega) (by omega) (by simp; omega) (by omega) (by omega) hn (by omega)
      rw [w64 (by omega), show ((i : Int) + 1) = ((i + 1 : Nat) : Int) by omega, this, show n - (i + 1) = m by omega]
    · rw [if_neg he, if_neg he]
  · rw [if_neg (by omega), show n - i = 0 by omega]
    rfl
theorem wire_List_eq (l : List UInt8) (a m : Int) (k : Nat) (hs : l.length ≤ 17592186044416) (hk : l.length + 30 ≤ k) : wire_List.f k (B l) a m = some (listAt l a m) := by
  unfold wire_List.f listAt
  rw [wire_count_eq l a m k (by omega) (by omega), Option.bind_some]
  rcases hc : countAt l a m with ⟨x, n, e⟩
  simp only
  by_cases he : e = 0
  · subst he
    obtain ⟨h1, h2, h3⟩ := countAt_ok hc
    obtain ⟨h4, h5, h6, h7, h8, h9, -⟩ := intAt_ok h1
    rw [if_pos rfl, if_pos rfl]
    have := wire_List_l0 l hs (l.length - n).toNat k n [] x.toNat 0 (by omega) (by omega) (by simp; omega) (by omega) (by omega) (by omega) (by omega)
    rw [show (x.toNat : Int) = x by omega] at this
    exact this
  · rw [if_neg he, if_neg he]
theorem ref_List_l0 (l : List UInt8) (hs : l.length ≤ 17592186044416) : ∀ (d : Nat) (k : Nat) (a : Int) (acc : List Int) (n : Int), (l.length : Int) - a = d → 0 ≤ a → (acc.length : Int) ≤ a → d + 40 ≤ k →
    storagebarterref01_List.l0 k (B l) n a acc = some (rdN l (n - acc.length).toNat a acc) := by
  intro d
  induction d using Nat.strongRecOn with
  | _ d ih =>
  intro k a acc n hd ha hacc hk
  obtain ⟨k, rfl⟩ : ∃ m, k = m + 1 := ⟨k - 1, by omega⟩
  simp only [storagebarterref01_List.l0]
  by_cases h : (acc.length : Int) < n
  · rw [if_pos h, ref_Int_eq (B l) a k (by rw [B_size]; omega) (by omega), Option.bind_some]
    obtain ⟨m, hm⟩ : ∃ m, (n - acc.length).toNat = m + 1 := ⟨(n - acc.length).toNat - 1, by omega⟩
    rw [hm, rdN]
    rcases hi : intAt (B l) a with ⟨x, c, e⟩
    simp only
    by_cases he : e = 0
    · subst he
      obtain ⟨h1, h2, h3, -⟩ := intAt_ok hi
      rw [if_pos rfl, if_pos rfl, if_pos (by omega)]
      have := ih (l.length - c).toNat (by omega) k c (acc ++ [x]) n (by omega) (by omega) (by simp; omega) (by omega)
      rw [this, show (n - ((acc ++ [x]).length : Int)).toNat = m by simp; omega]
    · rw [if_neg he, if_neg he]
  · rw [if_neg h, show (n - acc.length).toNat = 0 by omega]
    rfl
theorem ref_List_eq (l : List UInt8) (a m : Int) (k : Nat) (hs : l.length ≤ 17592186044416) (hk : l.length + 40 ≤ k) : storagebarterref01_List.f k (B l) a m = some (listAt l a m) := by
  unfold storagebarterref01_List.f listAt countAt
  rw [ref_Int_eq (B l) a k (by rw [B_size]; omega) (by omega), Option.bind_some]
  rcases hc : intAt (B l) a with ⟨x, n, e⟩
  simp only
  by_cases he : e = 0
  · subst he
    obtain ⟨h4, h5, h6, h7, h8, h9, -⟩ := intAt_ok hc
    simp only [if_true]
    by_cases h0 : x < 0
    · rw [if_pos h0]; simp only [if_pos h0]; rfl
    · rw [if_neg h0]; simp only [if_neg h0]
      by_cases h1 : x > m
      · rw [if_pos h1]; simp only [if_pos h1]; rfl
      · rw [if_neg h1]; simp only [if_neg h1, if_true]
        have := ref_List_l0 l hs (l.length - n).toNat k n [] x (by omega) (by omega) (by simp; omega) (by omega)
        rw [this]
        simp
  · rw [if_neg he]
    simp only [if_neg he]
theorem ref_PutList_l0 (k : Nat) (xs : List Int) (hw : ∀ x ∈ xs, (Lit.int .i64 x).wf = true) (hx : xs.length ≤ 140737488355328) : ∀ (d i : Nat) (l : List UInt8) (j : Nat), xs.length - i = d → i ≤ xs.length → l.length + 10 * d ≤ 9223372036854775000 → d + 20 ≤ j →
    storagebarterref01_PutList.l0 j (B l) xs xs.length i = some (B (l ++ (xs.drop i).flatMap putI)) := by
  intro d
  induction d with
  | zero =>
    intro i l j hd hi hl hj
    obtain ⟨j, rfl⟩ : ∃ m, j = m + 1 := ⟨j - 1, by omega⟩
    simp only [storagebarterref01_PutList.l0]
    rw [if_neg (by omega), List.drop_of_length_le (by omega), List.flatMap_nil, List.append_nil]
  | succ d ih =>
    intro i l j hd hi hl hj
    obtain ⟨j, rfl⟩ : ∃ m, j = m + 1 := ⟨j - 1, by omega⟩
    have hlt : i < xs.length := by omega
    have er : rd xs i = xs[i] := by simp [rd, List.getD, hlt]
    have hr := bounds_i64 (hw _ (List.getElem_mem hlt))
    have hp := putI_len hr
    simp only [storagebarterref01_PutList.l0]
    rw [if_pos (by omega), if_pos (by omega), if_pos (by omega), er, ref_PutInt_eq l _ j (by omega) hr (by omega), Option.bind_some, w64 (by omega), show ((i : Int) + 1) = ((i + 1 : Nat) : Int) by omega, ih (i + 1) _ j (by omega) (by omega) (by rw [List.length_append]; omega) (by omega), List.drop_eq_getElem_cons hlt, List.flatMap_cons, List.append_assoc]
theorem ref_PutList_eq (l : List UInt8) (xs : List Int) (k : Nat) (hw : ∀ x ∈ xs, (Lit.int .i64 x).wf = true) (hx : xs.length ≤ 140737488355328) (hl : l.length ≤ 140737488355328) (hk : xs.length + 20 ≤ k) : storagebarterref01_PutList.f k (B l) xs = some (B (l ++ putL xs)) := by
  unfold storagebarterref01_PutList.f
  have hr : -9223372036854775808 ≤ (xs.length : Int) ∧ (xs.length : Int) ≤ 9223372036854775807 := by omega
  have hp := putI_len hr
  rw [ref_PutInt_eq l _ k (by omega) hr (by omega), Option.bind_some]
  have := ref_PutList_l0 k xs hw hx xs.length 0 (l ++ putI xs.length) k (by omega) (by omega) (by rw [List.length_append]; omega) hk
  rw [show ((0 : Nat) : Int) = 0 from rfl] at this
  rw [this]
  simp [putL]
theorem wire_PutList_eq (l : List UInt8) (xs : List Int) (hw : ∀ x ∈ xs, (Lit.int .i64 x).wf = true) (hx : l.length + 10 * (xs.length + 1) ≤ 140737488355328) : wire_PutList.f (B l) xs = some (B (l ++ putL xs)) := by
  unfold wire_PutList.f
  rw [if_pos ⟨by rw [B_size]; exact hx, List.all_eq_true.2 hw⟩]
  rfl
theorem rdN_put (p q : List UInt8) : ∀ (xs : List Int) (pre : List UInt8) (acc : List Int), (∀ x ∈ xs, (Lit.int .i64 x).wf = true) → rdN (pre ++ (xs.flatMap putI ++ q)) xs.length pre.length acc = (acc ++ xs, ((pre.length + (xs.flatMap putI).length : Nat) : Int), 0)
  | [], pre, acc, _ => by simp [rdN]
  | x :: xs, pre, acc, hw => by
    have hr := bounds_i64 (hw x (by simp))
    have hi := intAt_put pre (xs.flatMap putI ++ q) x hr
    have ih := rdN_put p q xs (pre ++ putI x) (acc ++ [x]) (fun y hy => hw y (by simp [hy]))
    simp only [List.length_append, List.append_assoc] at ih
    simp only [List.length_cons, List.flatMap_cons, List.append_assoc, rdN]
    rw [hi]
    simp only [if_true]
    rw [ih]
    simp [Nat.add_assoc]
theorem listAt_put (p q : List UInt8) (xs : List Int) (most : Int) (hw : ∀ x ∈ xs, (Lit.int .i64 x).wf = true) (hx : xs.length ≤ 140737488355328) (hm : (xs.length : Int) ≤ most) : listAt (p ++ (putL xs ++ q)) p.length most = (xs, ((p.length + (putL xs).length : Nat) : Int), 0) := by
  have hr : -9223372036854775808 ≤ (xs.length : Int) ∧ (xs.length : Int) ≤ 9223372036854775807 := by omega
  have hi := intAt_put p (xs.flatMap putI ++ q) xs.length hr
  rw [show putL xs ++ q = putI xs.length ++ (xs.flatMap putI ++ q) by simp [putL]]
  have hc : countAt (p ++ (putI xs.length ++ (xs.flatMap putI ++ q))) p.length most = ((xs.length : Int), ((p.length + (putI xs.length).length : Nat) : Int), 0) := by
    unfold countAt
    rw [hi]
    simp only [if_true]
    rw [if_neg (by omega), if_neg (by omega)]
  unfold listAt
  rw [hc]
  simp only [if_true, Int.toNat_natCast]
  have := rdN_put p q xs (p ++ putI xs.length) [] hw
  simp only [List.length_append, List.append_assoc, List.nil_append] at this
  rw [this]
  simp [putL, Nat.add_assoc]
end Go.Proofs.Ytodhkbahjomfhaa.Gwd

namespace Go.Proofs.Ytodhkbahjomfhaa.Gcd
open Go Go.RowKit Go.Proofs.Ytodhkbahjomfhaa.Gm Go.Proofs.Ytodhkbahjomfhaa.Gdm Go.Proofs.Ytodhkbahjomfhaa.Gch Go.Proofs.Ytodhkbahjomfhaa.Q Go.Proofs.Ytodhkbahjomfhaa.Gput Go.Proofs.Ytodhkbahjomfhaa.Gputl Go.Proofs.YtodhkbahjomfhaaW.PrintWords Go.Proofs.YtodhkbahjomfhaaW.PrintLast Go.Proofs.YtodhkbahjomfhaaW.PrintMore
open Go.Proofs.Ytodhkbahjomfhaa.Gwa (intAt wire_Int_eq)
open Go.Proofs.Ytodhkbahjomfhaa.Gwb (ref_Int_eq intAt_ok intAt_err intAt_put ref_PutInt_eq countAt countAt_ok)
open Go.Proofs.Ytodhkbahjomfhaa.Gwd (listAt wire_List_eq ref_List_eq wire_PutList_eq ref_PutList_eq listAt_put)
set_option linter.unusedVariables false
instance (n : S78) : Decidable (Proper n) := by unfold Proper; exact inferInstance
/-- The first error of a version. -/
def chk (a : Int) (l : List S78) : Int := if 1 ≤ a ∧ a < 2147483647 then (if (l.length : Int) > 256 then 4 else if l.all (fun n => decide (Proper n)) then 0 else 2) else 1
theorem proper_eq (n : S78) : manifest_proper.f n.f0 n.f1 = some (decide (Proper n)) := by
  unfold manifest_proper.f
  by_cases h1 : n.f0 ≥ 0
  · rw [if_pos h1]
    by_cases h2 : n.f0 < 2147483647
    · rw [if_pos h2]
      by_cases h3 : n.f1 ≥ 1
      · rw [if_pos h3]
        congr 1
        exact decide_eq_decide.2 ⟨fun z => ⟨h1, h2, h3, z⟩, fun z => by obtain ⟨_, _, _, q⟩ := z; exact q⟩
      · rw [if_neg h3, decide_eq_false (p := Proper n) (fun z => by obtain ⟨_, _, q, _⟩ := z; exact h3 q)]
    · rw [if_neg h2, decide_eq_false (p := Proper n) (fun z => by obtain ⟨_, q, _, _⟩ := z; exact h2 q)]
  · rw [if_neg h1, decide_eq_false (p := Proper n) (fun z => by obtain ⟨q, _, _, _⟩ := z; exact h1 q)]
theorem Check_l0' (l : List S78) (hl : l.length ≤ 256) : ∀ (d i k : Nat), l.length - i = d → i ≤ l.length → d < k → manifest_Check.l0 k l (l.length : Int) (i : Int) = some (if (l.drop i).all (fun n => decide (Proper n)) then 0 else 2) := by
  intro d
  induction d with
  | zero =>
    intro i k hd hi hk
    obtain ⟨k, rfl⟩ := nat_pred hk
    rw [manifest_Check.l0, if_neg (by omega), List.drop_of_length_le (by omega)]
    rfl
  | succ d ih =>
    intro i k hd hi hk
    obtain ⟨k, rfl⟩ := nat_pred hk
    have hil : i < l.length := by omega
    rw [manifest_Check.l0, if_pos (by omega), if_pos (by omega), if_pos (by omega), rdN l i hil, proper_eq, Option.bind_some, List.drop_eq_getElem_cons hil, List.all_cons]
    by_cases h : Proper l[i]
    · rw [decide_eq_true h, if_pos rfl, w64 (x := (i : Int) + 1) (by omega), show ((i : Int) + 1) = ((i + 1 : Nat) : Int) by omega, Bool.true_and]
      exact ih (i + 1) k (by omega) (by omega) (by omega)
    · rw [decide_eq_false h, if_neg (by simp), Bool.false_and, if_neg (by simp)]
theorem Check_eq (a : Int) (l : List S78) (k : Nat) (hk : 300 ≤ k) : manifest_Check.f k a l = some (chk a l) := by
  unfold manifest_Check.f chk
  rw [numbered_eq, Option.bind_some]
  by_cases h : 1 ≤ a ∧ a < 2147483647
  · rw [decide_eq_true h, if_pos rfl, if_pos h]
    by_cases h2 : (l.length : Int) > 256
    · rw [if_pos h2, if_pos h2]
    · rw [if_neg h2, if_neg h2]
      have := Check_l0' l (by omega) l.length 0 k (by omega) (by omega) (by omega)
      rw [List.drop_zero] at this
      exact this
  · rw [decide_eq_false h, if_neg (by simp), if_neg h]
theorem refCheck_l0 (l : List S78) (hl : l.length ≤ 256) : ∀ (d i k : Nat), l.length - i = d → i ≤ l.length → d < k → storagebarterref08_Check.l0 k l (l.length : Int) (i : Int) = some (if (l.drop i).all (fun n => decide (Proper n)) then 0 else 2) := by
  intro d
  induction d with
  | zero =>
    intro i k hd hi hk
    obtain ⟨k, rfl⟩ := nat_pred hk
    rw [storagebarterref08_Check.l0, if_neg (by omega), List.drop_of_length_le (by omega)]
    rfl
  | succ d ih =>
    intro i k hd hi hk
    obtain ⟨k, rfl⟩ := nat_pred hk
    have hil : i < l.length := by omega
    have h0 := ih (i + 1) k (by omega) (by omega) (by omega)
    rw [storagebarterref08_Check.l0, if_pos (by omega), if_pos (by omega), if_pos (by omega), rdN l i hil, List.drop_eq_getElem_cons hil, List.all_cons]
    by_cases h : Proper l[i]
    · obtain ⟨h1, h2, h3, h4⟩ := id h
      rw [if_neg (by omega), if_neg (by omega), if_neg (by omega), if_neg (by omega), decide_eq_true h, w64 (x := (i : Int) + 1) (by omega), show ((i : Int) + 1) = ((i + 1 : Nat) : Int) by omega, Bool.true_and]
      exact h0
    · rw [decide_eq_false h, Bool.false_and]
      show _ = some 2
      unfold Proper at h
      by_cases h1 : l[i].f0 < 0
      · rw [if_pos h1]
      · rw [if_neg h1]
        by_cases h2 : l[i].f0 ≥ 2147483647
        · rw [if_pos h2]
        · rw [if_neg h2]
          by_cases h3 : l[i].f1 < 1
          · rw [if_pos h3]
          · rw [if_neg h3, if_pos (by omega)]
theorem refCheck_eq (a : Int) (l : List S78) (k : Nat) (hk : 301 ≤ k) : storagebarterref08_Check.f k a l = some (chk a l) := by
  have hj : ∀ b, storagebarterref08_Check.j0 k b a l = some (if b = true then 1 else if (l.length : Int) > 256 then 4 else if l.all (fun n => decide (Proper n)) then 0 else 2) := by
    intro b
    obtain ⟨k, rfl⟩ := nat_pred (show 300 < k by omega)
    rw [storagebarterref08_Check.j0]
    cases b
    · rw [if_neg (show ¬ (false = true) by decide), if_neg (show ¬ (false = true) by decide)]
      by_cases h2 : (l.length : Int) > 256
      · rw [if_pos h2, if_pos h2]
      · rw [if_neg h2, if_neg h2]
        have := refCheck_l0 l (by omega) l.length 0 k (by omega) (by omega) (by omega)
        rw [List.drop_zero] at this
        exact this
    · rfl
  unfold storagebarterref08_Check.f chk
  rw [hj, hj]
  by_cases h : a < 1
  · rw [if_pos h, if_pos rfl, if_neg (by omega)]
  · rw [if_neg h]
    by_cases h2 : a ≥ 2147483647
    · rw [decide_eq_true h2, if_pos rfl, if_neg (by omega)]
    · rw [decide_eq_false h2, if_neg (show ¬ (false = true) by decide), if_pos (show 1 ≤ a ∧ a < 2147483647 by omega)]
theorem chk_zero {a : Int} {l : List S78} (h : chk a l = 0) : (1 ≤ a ∧ a < 2147483647) ∧ l.length ≤ 256 ∧ ∀ n ∈ l, Proper n := by
  unfold chk at h
  by_cases h1 : 1 ≤ a ∧ a < 2147483647
  · rw [if_pos h1] at h
    by_cases h2 : (l.length : Int) > 256
    · rw [if_pos h2] at h; omega
    · rw [if_neg h2] at h
      by_cases h3 : l.all (fun n => decide (Proper n)) = true
      · exact ⟨h1, by omega, fun n hn => by simpa using List.all_eq_true.1 h3 n hn⟩
      · rw [if_neg h3] at h; omega
  · rw [if_neg h1] at h; omega
theorem chk_ok {a : Int} {l : List S78} (h1 : 1 ≤ a ∧ a < 2147483647) (h2 : l.length ≤ 256) (h3 : ∀ n ∈ l, Proper n) : chk a l = 0 := by
  unfold chk
  rw [if_pos h1, if_neg (by omega), if_pos (List.all_eq_true.2 fun n hn => by simpa using h3 n hn)]
def flat (l : List S78) : List Int := l.flatMap (fun n => [n.f0, n.f1])
theorem flat_len (l : List S78) : (flat l).length = 2 * l.length := by
  induction l with
  | nil => rfl
  | cons x l ih => unfold flat at ih ⊢; rw [List.flatMap_cons, List.length_append, ih, List.length_cons]; simp; omega
theorem flat_snoc (l : List S78) (i : Nat) (h : i < l.length) : flat (l.take (i + 1)) = flat (l.take i) ++ [l[i].f0, l[i].f1] := by
  unfold flat
  rw [List.take_succ_eq_append_getElem h, List.flatMap_append]
  simp
theorem flat_wf {l : List S78} (h : ∀ n ∈ l, Proper n) : ∀ x ∈ flat l, (Lit.int .i64 x).wf = true := by
  intro x hx
  unfold flat at hx
  obtain ⟨n, hn, hx⟩ := List.mem_flatMap.1 hx
  obtain ⟨h1, h2, h3, h4⟩ := h n hn
  simp at hx
  rcases hx with rfl | rfl
  · exact wf64 (by omega)
  · exact wf64 (by omega)
/-- The bytes of a version, or its error. -/
def enc (a : Int) (l : List S78) : ByteArray × Int := if chk a l = 0 then (B (putI a ++ putL (flat l)), 0) else (⟨#[]⟩, chk a l)
theorem Encode_l0 (l : List S78) (hl : l.length ≤ 256) (hp : ∀ n ∈ l, Proper n) (a : Int) (ha : 1 ≤ a ∧ a < 2147483647) : ∀ (d i k : Nat), l.length - i = d → i ≤ l.length → d < k →
    manifest_Encode.l0 k (flat (l.take i)) l (l.length : Int) (i : Int) a l = some (B (putI a ++ putL (flat l)), 0) := by
  intro d
  induction d with
  | zero =>
    intro i k hd hi hk
    obtain ⟨k, rfl⟩ := nat_pred hk
    have h1 := putI_len (n := a) (by omega)
    rw [manifest_Encode.l0, if_neg (by omega), List.take_of_length_le (by omega), show (⟨#[]⟩ : ByteArray) = B [] from rfl, wire_PutInt_eq [] a (by simp) (by omega), Option.bind_some, List.nil_append, wire_PutList_eq _ _ (flat_wf hp) (by rw [flat_len]; omega), Option.bind_some]
  | succ d ih =>
    intro i k hd hi hk
    obtain ⟨k, rfl⟩ := nat_pred hk
    have hil : i < l.length := by omega
    have h0 := ih (i + 1) k (by omega) (by omega) (by omega)
    have h2 := flat_len (l.take i)
    rw [List.length_take] at h2
    rw [flat_snoc l i hil] at h0
    rw [manifest_Encode.l0, if_pos (by omega), if_pos (by omega), if_pos (by omega), Option.bind_some, if_pos (by simp only [List.length_cons, List.length_nil]; omega), rdN l i hil, w64 (x := (i : Int) + 1) (by omega), show ((i : Int) + 1) = ((i + 1 : Nat) : Int) by omega]
    exact h0
theorem Encode_eq (a : Int) (l : List S78) (k : Nat) (hk : 301 ≤ k) : manifest_Encode.f k a l = some (enc a l) := by
  unfold manifest_Encode.f enc
  rw [Check_eq a l k (by omega), Option.bind_some]
  by_cases h : chk a l = 0
  · obtain ⟨h1, h2, h3⟩ := chk_zero h
    rw [if_pos h, if_pos h]
    have := Encode_l0 l h2 h3 a h1 l.length 0 k (by omega) (by omega) (by omega)
    rw [List.take_zero] at this
    exact this
  · rw [if_neg h, if_neg h]
theorem refEncode_l0 (l : List S78) (hl : l.length ≤ 256) (hp : ∀ n ∈ l, Proper n) (a : Int) (ha : 1 ≤ a ∧ a < 2147483647) : ∀ (d i k : Nat), l.length - i = d → i ≤ l.length → d + 1000 < k →
    storagebarterref08_Encode.l0 k (flat (l.take i)) l (l.length : Int) (i : Int) a l = some (B (putI a ++ putL (flat l)), 0) := by
  intro d
  induction d with
  | zero =>
    intro i k hd hi hk
    obtain ⟨k, rfl⟩ := nat_pred hk
    have h1 := putI_len (n := a) (by omega)
    rw [storagebarterref08_Encode.l0, if_neg (by omega), List.take_of_length_le (by omega), show (⟨#[]⟩ : ByteArray) = B [] from rfl, ref_PutInt_eq [] a k (by simp) (by omega) (by omega), Option.bind_some, List.nil_append, ref_PutList_eq _ _ k (flat_wf hp) (by rw [flat_len]; omega) (by omega) (by rw [flat_len]; omega), Option.bind_some]
  | succ d ih =>
    intro i k hd hi hk
    obtain ⟨k, rfl⟩ := nat_pred hk
    have hil : i < l.length := by omega
    have h0 := ih (i + 1) k (by omega) (by omega) (by omega)
    have h2 := flat_len (l.take i)
    rw [List.length_take] at h2
    rw [flat_snoc l i hil] at h0
    rw [storagebarterref08_Encode.l0, if_pos (by omega), if_pos (by omega), if_pos (by omega), Option.bind_some, if_pos (by simp only [List.length_cons, List.length_nil]; omega), rdN l i hil, w64 (x := (i : Int) + 1) (by omega), show ((i : Int) + 1) = ((i + 1 : Nat) : Int) by omega]
    exact h0
theorem refEncode_eq (a : Int) (l : List S78) (k : Nat) (hk : 1400 ≤ k) : storagebarterref08_Encode.f k a l = some (enc a l) := by
  unfold storagebarterref08_Encode.f enc
  rw [refCheck_eq a l k (by omega), Option.bind_some]
  by_cases h : chk a l = 0
  · obtain ⟨h1, h2, h3⟩ := chk_zero h
    rw [if_pos h, if_pos h]
    have := refEncode_l0 l h2 h3 a h1 l.length 0 k (by omega) (by omega) (by omega)
    rw [List.take_zero] at this
    exact this
  · rw [if_neg h, if_neg h]
def pairs : List Int → List S78
  | x :: y :: r => ⟨x, y⟩ :: pairs r
  | _ => []
theorem pairs_len : ∀ l : List Int, 2 * (pairs l).length ≤ l.length
  | [] => by simp [pairs]
  | [x] => by simp [pairs]
  | x :: y :: r => by
    have := pairs_len r
    rw [pairs, List.length_cons, List.length_cons, List.length_cons]
    omega
/-- What bytes mean, or the error. -/
def dec (l : List UInt8) : Int × List S78 × Int :=
  if (intAt (B l) 0).2.2 = 0 then
    (if (listAt l (intAt (B l) 0).2.1 512).2.2 = 0 then
      (if (listAt l (intAt (B l) 0).2.1 512).2.1 < (l.length : Int) ∨ (listAt l (intAt (B l) 0).2.1 512).1.length % 2 = 1 then (0, [], 2)
       else if chk (intAt (B l) 0).1 (pairs (listAt l (intAt (B l) 0).2.1 512).1) = 0 then ((intAt (B l) 0).1, pairs (listAt l (intAt (B l) 0).2.1 512).1, 0)
       else (0, [], chk (intAt (B l) 0).1 (pairs (listAt l (intAt (B l) 0).2.1 512).1)))
     else (0, [], (listAt l (intAt (B l) 0).2.1 512).2.2))
  else (0, [], (intAt (B l) 0).2.2)
theorem rdN_facts (l : List UInt8) : ∀ (n : Nat) (a : Int) (acc : List Int), a ≤ l.length → (Gwd.rdN l n a acc).2.2 = 0 → (Gwd.rdN l n a acc).2.1 ≤ l.length ∧ (Gwd.rdN l n a acc).1.length = acc.length + n
  | 0, a, acc, h, _ => ⟨h, rfl⟩
  | n + 1, a, acc, h, h2 => by
    rw [Gwd.rdN] at h2 ⊢
    by_cases e : (intAt (B l) a).2.2 = 0
    · rw [if_pos e] at h2 ⊢
      have hok : intAt (B l) a = ((intAt (B l) a).1, (intAt (B l) a).2.1, 0) := by
        rw [← e]
      have h3 := intAt_ok hok
      have h4 := rdN_facts l n _ _ h3.2.2.1 h2
      refine ⟨h4.1, ?_⟩
      rw [h4.2, List.length_append, List.length_singleton]
      omega
    · rw [if_neg e] at h2
      exact absurd h2 e
theorem listAt_facts {l : List UInt8} {a : Int} (h : (listAt l a 512).2.2 = 0) : (listAt l a 512).2.1 ≤ l.length ∧ (listAt l a 512).1.length ≤ 512 := by
  unfold listAt at h ⊢
  by_cases e : (countAt l a 512).2.2 = 0
  · rw [if_pos e] at h ⊢
    have hok : countAt l a 512 = ((countAt l a 512).1, (countAt l a 512).2.1, 0) := by rw [← e]
    have h3 := countAt_ok hok
    have h4 := intAt_ok h3.1
    have h5 := rdN_facts l _ _ [] h4.2.2.1 h
    exact ⟨h5.1, by rw [h5.2, List.length_nil]; omega⟩
  · rw [if_neg e] at h
    exact absurd h e
theorem rd_at (xs : List Int) (i : Nat) : rd xs (i : Int) = xs.getD i 0 := by simp [rd]
theorem pairs_take (xs : List Int) (m : Nat) (h : 2 * m + 1 < xs.length) : pairs (xs.take (2 * m)) ++ [⟨xs.getD (2 * m) 0, xs.getD (2 * m + 1) 0⟩] = pairs (xs.take (2 * (m + 1))) := by
  induction m generalizing xs with
  | zero =>
    match xs, h with
    | x :: y :: r, h => simp [pairs]
  | succ m ih =>
    match xs, h with
    | x :: y :: r, h =>
      have h2 := ih r (by simp only [List.length_cons] at h; omega)
      rw [show 2 * (m + 1) = 2 * m + 1 + 1 by omega, show 2 * (m + 1 + 1) = 2 * (m + 1) + 1 + 1 by omega, List.take_succ_cons, List.take_succ_cons, List.take_succ_cons, List.take_succ_cons, pairs, pairs, ← h2]
      rfl
theorem Decode_l0 (xs : List Int) (hx : xs.length ≤ 512) (he : xs.length % 2 = 0) (a : Int) : ∀ (d m k : Nat), xs.length - 2 * m = 2 * d → 2 * m ≤ xs.length → d + 301 ≤ k →
    manifest_Decode.l0 k xs ((2 * m : Nat) : Int) a (pairs (xs.take (2 * m))) = some (if chk a (pairs xs) = 0 then (a, pairs xs, 0) else (0, [], chk a (pairs xs))) := by
  intro d
  induction d with
  | zero =>
    intro m k hd hm hk
    obtain ⟨k, rfl⟩ := nat_pred (show 0 < k by omega)
    rw [manifest_Decode.l0, if_neg (by omega), List.take_of_length_le (by omega), Check_eq _ _ k (by omega), Option.bind_some]
    split <;> rfl
  | succ d ih =>
    intro m k hd hm hk
    obtain ⟨k, rfl⟩ := nat_pred (show 0 < k by omega)
    have h1 : 2 * m + 1 < xs.length := by omega
    have hl := pairs_len (xs.take (2 * m))
    rw [List.length_take] at hl
    have h0 := ih (m + 1) k (by omega) (by omega) (by omega)
    rw [← pairs_take xs m h1] at h0
    rw [manifest_Decode.l0, if_pos (by omega), if_pos (by omega), w64 (x := ((2 * m : Nat) : Int) + 1) (by omega), w64 (x := ((2 * m : Nat) : Int) + 2) (by omega), if_pos (by omega), if_pos (by omega), if_pos (by omega), rd_at xs (2 * m), show (((2 * m : Nat) : Int) + 1) = ((2 * m + 1 : Nat) : Int) by omega, rd_at xs (2 * m + 1), show (((2 * m : Nat) : Int) + 2) = ((2 * (m + 1) : Nat) : Int) by omega]
    exact h0
theorem refDecode_l0 (xs : List Int) (hx : xs.length ≤ 512) (he : xs.length % 2 = 0) (a : Int) : ∀ (d m k : Nat), xs.length - 2 * m = 2 * d → 2 * m ≤ xs.length → d + 302 ≤ k →
    storagebarterref08_Decode.l0 k xs ((2 * m : Nat) : Int) a (pairs (xs.take (2 * m))) = some (if chk a (pairs xs) = 0 then (a, pairs xs, 0) else (0, [], chk a (pairs xs))) := by
  intro d
  induction d with
  | zero =>
    intro m k hd hm hk
    obtain ⟨k, rfl⟩ := nat_pred (show 0 < k by omega)
    rw [storagebarterref08_Decode.l0, if_neg (by omega), List.take_of_length_le (by omega), refCheck_eq _ _ k (by omega), Option.bind_some]
    split <;> rfl
  | succ d ih =>
    intro m k hd hm hk
    obtain ⟨k, rfl⟩ := nat_pred (show 0 < k by omega)
    have h1 : 2 * m + 1 < xs.length := by omega
    have hl := pairs_len (xs.take (2 * m))
    rw [List.length_take] at hl
    have h0 := ih (m + 1) k (by omega) (by omega) (by omega)
    rw [← pairs_take xs m h1] at h0
    rw [storagebarterref08_Decode.l0, if_pos (by omega), if_pos (by omega), w64 (x := ((2 * m : Nat) : Int) + 1) (by omega), w64 (x := ((2 * m : Nat) : Int) + 2) (by omega), if_pos (by omega), if_pos (by omega), if_pos (by omega), rd_at xs (2 * m), show (((2 * m : Nat) : Int) + 1) = ((2 * m + 1 : Nat) : Int) by omega, rd_at xs (2 * m + 1), show (((2 * m : Nat) : Int) + 2) = ((2 * (m + 1) : Nat) : Int) by omega]
    exact h0
theorem Decode_eq (l : List UInt8) (k : Nat) (hs : l.length ≤ 1000000) (hk : l.length + 1000 ≤ k) : manifest_Decode.f k (B l) = some (dec l) := by
  unfold manifest_Decode.f dec
  rw [wire_Int_eq (B l) 0 k (by rw [B_size]; omega) (by omega), Option.bind_some]
  by_cases h1 : (intAt (B l) 0).2.2 = 0
  · rw [if_pos h1, if_pos h1, wire_List_eq l _ _ k (by omega) (by omega), Option.bind_some]
    by_cases h2 : (listAt l (intAt (B l) 0).2.1 512).2.2 = 0
    · rw [if_pos h2, if_pos h2, B_size]
      obtain ⟨h3, h4⟩ := listAt_facts h2
      generalize listAt l (intAt (B l) 0).2.1 512 = q at h2 h3 h4 ⊢
      obtain ⟨k, rfl⟩ := nat_pred (show 0 < k by omega)
      by_cases h5 : q.2.1 < (l.length : Int)
      · rw [if_pos h5, if_pos (Or.inl h5), manifest_Decode.j0, if_pos rfl]
      · rw [if_neg h5]
        by_cases h6 : q.1.length % 2 = 1
        · rw [if_pos (Or.inr h6), show (((q.1.length : Int) % 2) == 1) = true from beq_iff_eq.2 (by omega), manifest_Decode.j0, if_pos rfl]
        · rw [if_neg (by rintro (z | z); exact h5 z; exact h6 z), show (((q.1.length : Int) % 2) == 1) = false from beq_eq_false_iff_ne.2 (by omega), manifest_Decode.j0, if_neg (by simp)]
          have := Decode_l0 q.1 h4 (by omega) (intAt (B l) 0).1 (q.1.length / 2) 0 k (by omega) (by omega) (by omega)
          rw [Nat.mul_zero, List.take_zero] at this
          exact this
    · rw [if_neg h2, if_neg h2]
  · rw [if_neg h1, if_neg h1]
theorem refDecode_eq (l : List UInt8) (k : Nat) (hs : l.length ≤ 1000000) (hk : l.length + 1000 ≤ k) : storagebarterref08_Decode.f k (B l) = some (dec l) := by
  unfold storagebarterref08_Decode.f dec
  rw [ref_Int_eq (B l) 0 k (by rw [B_size]; omega) (by omega), Option.bind_some]
  by_cases h1 : (intAt (B l) 0).2.2 = 0
  · rw [if_pos h1, if_pos h1, ref_List_eq l _ _ k (by omega) (by omega), Option.bind_some]
    by_cases h2 : (listAt l (intAt (B l) 0).2.1 512).2.2 = 0
    · rw [if_pos h2, if_pos h2, B_size]
      obtain ⟨h3, h4⟩ := listAt_facts h2
      generalize listAt l (intAt (B l) 0).2.1 512 = q at h2 h3 h4 ⊢
      obtain ⟨k, rfl⟩ := nat_pred (show 0 < k by omega)
      by_cases h5 : q.2.1 < (l.length : Int)
      · rw [if_neg (by omega), if_pos (Or.inl h5), storagebarterref08_Decode.j0, if_pos rfl]
      · rw [if_pos (by omega)]
        by_cases h6 : q.1.length % 2 = 1
        · rw [if_pos (Or.inr h6), show (((q.1.length : Int) % 2) != 0) = true from bne_iff_ne.2 (by omega), storagebarterref08_Decode.j0, if_pos rfl]
        · rw [if_neg (by rintro (z | z); exact h5 z; exact h6 z), show (((q.1.length : Int) % 2) != 0) = false from bne_eq_false_iff_eq.2 (by omega), storagebarterref08_Decode.j0, if_neg (by simp)]
          have := refDecode_l0 q.1 h4 (by omega) (intAt (B l) 0).1 (q.1.length / 2) 0 k (by omega) (by omega) (by omega)
          rw [Nat.mul_zero, List.take_zero] at this
          exact this
    · rw [if_neg h2, if_neg h2]
  · rw [if_neg h1, if_neg h1]
theorem dec_len (l : List UInt8) : (dec l).2.1.length ≤ 256 := by
  unfold dec
  split
  · split
    · split
      · simp
      · split
        · rename_i h
          exact (chk_zero h).2.1
        · simp
    · simp
  · simp
instance : DecidableEq S78 := fun x y => decidable_of_iff (x.f0 = y.f0 ∧ x.f1 = y.f1) (by cases x; cases y; simp)
theorem names_l0 (x y : List S78) (hl : x.length = y.length) (hx : x.length ≤ 1000000) : ∀ (d i k : Nat), x.length - i = d → i ≤ x.length → d < k → storagebarterref08_SameNames.l0 k x y (x.length : Int) (i : Int) = some (decide (x.drop i = y.drop i)) := by
  intro d
  induction d with
  | zero =>
    intro i k hd hi hk
    obtain ⟨k, rfl⟩ := nat_pred hk
    rw [storagebarterref08_SameNames.l0, if_neg (by omega), List.drop_of_length_le (by omega), List.drop_of_length_le (by omega)]
    simp
  | succ d ih =>
    intro i k hd hi hk
    obtain ⟨k, rfl⟩ := nat_pred hk
    have h1 : i < x.length := by omega
    have h2 : i < y.length := by omega
    rw [storagebarterref08_SameNames.l0, if_pos (by omega), if_pos (by omega), if_pos (by omega), if_pos (by omega), rdN x i h1, rdN y i h2, List.drop_eq_getElem_cons h1, List.drop_eq_getElem_cons h2]
    by_cases he : x[i] = y[i]
    · rw [if_neg (by rw [he]; simp), w64 (x := (i : Int) + 1) (by omega), show ((i : Int) + 1) = ((i + 1 : Nat) : Int) by omega, ih (i + 1) k (by omega) (by omega) (by omega)]
      simp only [List.cons.injEq, he, true_and]
    · rw [if_pos]
      · simp only [List.cons.injEq, he, false_and, decide_false]
      · by_cases h0 : x[i].f0 = y[i].f0
        · by_cases h3 : x[i].f1 = y[i].f1
          · exact absurd (by cases hxx : x[i]; cases hyy : y[i]; rw [hxx, hyy] at h0 h3; simp only at h0 h3; rw [h0, h3]) he
          · simp [h3]
        · simp [h0]
theorem SameNames_eq (x y : List S78) (k : Nat) (hx : x.length ≤ 1000000) (hk : x.length < k) : storagebarterref08_SameNames.f k x y = some (decide (x = y)) := by
  unfold storagebarterref08_SameNames.f
  by_cases h : (x.length : Int) = (y.length : Int)
  · rw [if_pos h]
    have := names_l0 x y (by omega) hx x.length 0 k (by omega) (by omega) hk
    rw [List.drop_zero, List.drop_zero] at this
    exact this
  · rw [if_neg h, decide_eq_false (fun e => h (by rw [e]))]
theorem refSame_eq (a b : Int) (x y : List S78) (k : Nat) (hx : x.length ≤ 1000000) (hk : x.length < k) : storagebarterref08_Same.f k a x b y = some (decide (a = b ∧ x = y)) := by
  unfold storagebarterref08_Same.f
  by_cases h : a = b
  · rw [if_pos h, SameNames_eq x y k hx hk, Option.bind_some]
    congr 1
    exact decide_eq_decide.2 ⟨fun z => ⟨h, z⟩, fun z => z.2⟩
  · rw [if_neg h, decide_eq_false (fun z => h z.1)]
theorem refSum_l0 (s : ByteArray) (hs : s.size ≤ 9223372036854775807) : ∀ (n i k : Nat) (d : Int), s.size - i = n → i ≤ s.size → 0 ≤ d ∧ d < 2147483647 → n < k → storagebarterref02_Sum.l0 k s d i = some (dg d (s.data.toList.drop i)) := by
  intro n
  induction n with
  | zero =>
    intro i k d hn hi hd hk
    obtain ⟨k, rfl⟩ := nat_pred hk
    rw [storagebarterref02_Sum.l0, if_neg (by omega), List.drop_of_length_le (by rw [data_length]; omega)]
    rfl
  | succ n ih =>
    intro i k d hn hi hd hk
    obtain ⟨k, rfl⟩ := nat_pred hk
    have hlt : i < s.size := by omega
    rw [storagebarterref02_Sum.l0, if_pos (by omega), if_pos (by omega), sum_step s d i hd hlt, w64 (by omega), show ((i : Int) + 1) = ((i + 1 : Nat) : Int) by omega, ih (i + 1) k _ (by omega) (by omega) (by omega) (by omega), List.drop_eq_getElem_cons (show i < s.data.toList.length by rw [data_length]; exact hlt)]
    rfl
theorem refName_eq (s : ByteArray) (hs : s.size ≤ 9223372036854775807) (k : Nat) (hk : s.size < k) : storagebarterref08_Name.f k s = some (dg 1 s.data.toList, (s.size : Int)) := by
  unfold storagebarterref08_Name.f storagebarterref02_Sum.f
  have := refSum_l0 s hs s.size 0 k 1 (by omega) (by omega) (by omega) hk
  rw [show ((0 : Nat) : Int) = 0 from rfl, List.drop_zero] at this
  rw [this]
  rfl
end Go.Proofs.Ytodhkbahjomfhaa.Gcd

namespace Go.Proofs.Ytodhkbahjomfhaa.Gcv
open Go Go.RowKit Go.Proofs.Ytodhkbahjomfhaa.Gm Go.Proofs.Ytodhkbahjomfhaa.Gdm Go.Proofs.Ytodhkbahjomfhaa.Gch Go.Proofs.Ytodhkbahjomfhaa.Gcd Go.Proofs.Ytodhkbahjomfhaa.Q Go.Proofs.YtodhkbahjomfhaaW.PrintWords Go.Proofs.YtodhkbahjomfhaaW.PrintLast Go.Proofs.YtodhkbahjomfhaaW.PrintMore
set_option linter.unusedVariables false
theorem rdS (l : List ByteArray) (i : Nat) (h : i < l.length) : rdOf ByteArray.empty l (i : Int) = l[i] := by simp [rdOf, List.getD, h]
/-- What 'Of' of the reference answers for good chunks. -/
def OfR (a : Int) (cs : List ByteArray) (r : Int × List S78 × Int) : Prop := r = (0, [], 8) ∨ r = (a, cs.map nameS, 0)
theorem refOf_l2 (cs : List ByteArray) (hl : cs.length ≤ 100) (a : Int) (i : Nat) (hi : i < cs.length) (K : Nat) (hn : ∀ k, K ≤ k → ∃ r, storagebarterref08_Of.l1 k cs (cs.length : Int) ((i + 1 : Nat) : Int) a (cs.map nameS) = some r ∧ OfR a cs r) :
    ∀ (d j k : Nat), i - j = d → j ≤ i → K + d < k → ∃ r, storagebarterref08_Of.l2 k cs (i : Int) (cs.length : Int) (i : Int) (i : Int) (j : Int) a (cs.map nameS) = some r ∧ OfR a cs r := by
  intro d
  induction d with
  | zero =>
    intro j k hd hj hk
    obtain ⟨k, rfl⟩ := nat_pred (show 0 < k by omega)
    rw [storagebarterref08_Of.l2, if_neg (by omega), w64 (x := (i : Int) + 1) (by omega), show ((i : Int) + 1) = ((i + 1 : Nat) : Int) by omega]
    exact hn k (by omega)
  | succ d ih =>
    intro j k hd hj hk
    obtain ⟨k, rfl⟩ := nat_pred (show 0 < k by omega)
    have h0 := ih (j + 1) k (by omega) (by omega) (by omega)
    have hml : (cs.map nameS).length = cs.length := List.length_map _
    rw [storagebarterref08_Of.l2, if_pos (by omega), if_pos (by omega), if_pos (by omega), if_pos (by omega), if_pos (by omega), w64 (x := (j : Int) + 1) (by omega), show ((j : Int) + 1) = ((j + 1 : Nat) : Int) by omega, if_pos (show (i : Int) < (cs.length : Int) by omega), if_pos (show (j : Int) < (cs.length : Int) by omega)]
    split
    · split
      · exact h0
      · exact ⟨_, rfl, .inl rfl⟩
    · exact h0
theorem refOf_l1 (cs : List ByteArray) (hl : cs.length ≤ 100) (a : Int) : ∀ (d i k : Nat), cs.length - i = d → i ≤ cs.length → 102 * d < k → ∃ r, storagebarterref08_Of.l1 k cs (cs.length : Int) (i : Int) a (cs.map nameS) = some r ∧ OfR a cs r := by
  intro d
  induction d with
  | zero =>
    intro i k hd hi hk
    obtain ⟨k, rfl⟩ := nat_pred (show 0 < k by omega)
    rw [storagebarterref08_Of.l1, if_neg (by omega)]
    exact ⟨_, rfl, .inr rfl⟩
  | succ d ih =>
    intro i k hd hi hk
    obtain ⟨k, rfl⟩ := nat_pred (show 0 < k by omega)
    have hil : i < cs.length := by omega
    rw [storagebarterref08_Of.l1, if_pos (by omega), if_pos (by omega), if_pos (by omega), Int.toNat_natCast, List.length_take, Nat.min_eq_left (by omega)]
    exact refOf_l2 cs hl a i hil (102 * d + 1) (fun k' hk' => ih (i + 1) k' (by omega) (by omega) (by omega)) i 0 k (by omega) (by omega) (by omega)
theorem refOf_l0 (cs : List ByteArray) (hl : cs.length ≤ 100) (hc : ∀ c ∈ cs, 1 ≤ c.size ∧ c.size ≤ 256) (a : Int) : ∀ (d i k : Nat), cs.length - i = d → i ≤ cs.length → 11000 + d < k → ∃ r, storagebarterref08_Of.l0 k cs cs (cs.length : Int) (i : Int) a ((cs.take i).map nameS) = some r ∧ OfR a cs r := by
  intro d
  induction d with
  | zero =>
    intro i k hd hi hk
    obtain ⟨k, rfl⟩ := nat_pred (show 0 < k by omega)
    rw [storagebarterref08_Of.l0, if_neg (by omega), List.take_of_length_le (by omega)]
    exact refOf_l1 cs hl a cs.length 0 k (by omega) (by omega) (by omega)
  | succ d ih =>
    intro i k hd hi hk
    obtain ⟨k, rfl⟩ := nat_pred (show 0 < k by omega)
    have hil : i < cs.length := by omega
    have h0 := ih (i + 1) k (by omega) (by omega) (by omega)
    have h1 := hc _ (List.getElem_mem hil)
    have hml : ((cs.take i).map nameS).length = i := by rw [List.length_map, List.length_take]; omega
    rw [List.take_succ_eq_append_getElem hil, List.map_append, List.map_singleton, nameS_eq _ (by omega)] at h0
    rw [storagebarterref08_Of.l0, if_pos (by omega), if_pos (by omega), if_pos (by omega), rdS cs i hil, if_neg (by omega), if_neg (by omega), refName_eq _ (by omega) k (by omega), Option.bind_some, if_pos (by omega), w64 (x := (i : Int) + 1) (by omega), show ((i : Int) + 1) = ((i + 1 : Nat) : Int) by omega]
    exact h0
theorem refOf_ok (cs : List ByteArray) (hl : cs.length ≤ 100) (hc : ∀ c ∈ cs, 1 ≤ c.size ∧ c.size ≤ 256) (a : Int) (ha : 1 ≤ a ∧ a < 2147483647) (k : Nat) (hk : 11200 < k) : ∃ r, storagebarterref08_Of.f k a cs = some r ∧ OfR a cs r := by
  unfold storagebarterref08_Of.f
  obtain ⟨k, rfl⟩ := nat_pred (show 0 < k by omega)
  rw [if_neg (by omega), decide_eq_false (by omega), storagebarterref08_Of.j0, if_neg (by simp), if_neg (by omega)]
  have := refOf_l0 cs hl hc a cs.length 0 k (by omega) (by omega) (by omega)
  rw [List.take_zero] at this
  exact this
/-- A version of chunks: none, or a right one of at most sixty names. -/
theorem Version_ok (L : List Int) (hL : L.length ≤ 1000000) (at_ : Int) (h0 : 0 ≤ at_) (k : Nat) (hk : 11200 < k) : ∃ a ns at', storagebartermake_Version.f k L at_ = some (a, ns, at') ∧ 0 ≤ at' ∧ (a = 0 ∨ chk a ns = 0 ∧ ns.length ≤ 60) := by
  unfold storagebartermake_Version.f
  obtain ⟨t, a1, e1, p1, q1, h1⟩ := next_ok L at_ 9 (by omega) (by omega) h0 hL
  rw [e1, Option.bind_some]
  obtain ⟨cs, a2, e2, h2, hc1, hc2⟩ := Chunks_ok L hL a1 h1 k (by omega)
  rw [e2, Option.bind_some]
  dsimp only
  rw [w64 (x := 1 + t) (by omega)]
  have hc3 : ∀ c ∈ cs, 1 ≤ c.size ∧ c.size ≤ 256 := fun c hc => by have := hc2 c hc; omega
  obtain ⟨r, e3, hr⟩ := refOf_ok cs (by omega) hc3 (1 + t) (by omega) k hk
  rw [e3, Option.bind_some]
  refine ⟨_, _, _, rfl, h2, ?_⟩
  rcases hr with rfl | rfl
  · exact .inl rfl
  · exact .inr ⟨chk_ok (by simp only; omega) (by simp only [List.length_map]; omega) (names_proper cs hc3), by simp only [List.length_map]; omega⟩
end Go.Proofs.Ytodhkbahjomfhaa.Gcv

namespace Go.Proofs.Ytodhkbahjomfhaa.Gcr
open Go Go.RowKit Go.Proofs.Ytodhkbahjomfhaa.Gm Go.Proofs.Ytodhkbahjomfhaa.Gdm Go.Proofs.Ytodhkbahjomfhaa.Gch Go.Proofs.Ytodhkbahjomfhaa.Q Go.Proofs.Ytodhkbahjomfhaa.Gput Go.Proofs.Ytodhkbahjomfhaa.Gputl Go.Proofs.YtodhkbahjomfhaaW.PrintWords Go.Proofs.YtodhkbahjomfhaaW.PrintLast Go.Proofs.YtodhkbahjomfhaaW.PrintMore
set_option linter.unusedVariables false
def sA : ByteArray := ⟨#[97, 98]⟩
def sC : ByteArray := ⟨#[99]⟩
theorem sA_size : sA.size = 2 := rfl
theorem sC_size : sC.size = 1 := rfl
theorem nA : nm sA = (dg 1 [97, 98], 2) := nm_eq sA (by rw [sA_size]; omega)
theorem nC : nm sC = (dg 1 [99], 1) := nm_eq sC (by rw [sC_size]; omega)
theorem nAC : nm sA ≠ nm sC := by rw [nA, nC]; intro h; exact absurd (Prod.mk.inj h).2 (by omega)
theorem putI_1 : putI 1 = [2] := by
  unfold putI
  rw [show zig 1 = 2 by decide, grp_last (by omega)]
  rfl
theorem putI_0 : putI 0 = [0] := by
  unfold putI
  rw [show zig 0 = 0 by decide, grp_last (by omega)]
  rfl
theorem encode_one (k : Nat) (hk : 300 < k) : manifest_Encode.f k 1 [] = some (B [2, 0], 0) := by
  unfold manifest_Encode.f
  rw [Check_ok 1 (by omega) [] (by simp) (by simp) k (by omega), Option.bind_some, if_pos rfl]
  obtain ⟨k, rfl⟩ := nat_pred hk
  rw [manifest_Encode.l0, if_neg (by simp), show (⟨#[]⟩ : ByteArray) = B [] from rfl, wire_PutInt_eq [] 1 (by simp) (by omega), Option.bind_some]
  unfold wire_PutList.f
  rw [if_pos ⟨by rw [B_size, putI_1]; simp, by simp⟩, Option.bind_some, putI_1]
  unfold putL
  simp only [List.length_nil, Int.natCast_zero, putI_0]
  rfl
theorem sane_ok (k : Nat) (hk : 300 < k) : storagebarterlaw08_sane.f k = some true := by
  have hb : ∀ c ∈ [sA, sC, sA], 1 ≤ c.size ∧ c.size ≤ 256 := by
    intro c hc
    simp only [List.mem_cons, List.not_mem_nil, or_false] at hc
    rcases hc with rfl | rfl | rfl
    · rw [sA_size]; omega
    · rw [sC_size]; omega
    · rw [sA_size]; omega
  have hg : ofGo [] [sA, sC, sA] = false := by
    rw [ofGo, lookS_nil]
    simp only
    rw [ofGo, lookS_snoc, if_neg (by exact nAC), lookS_nil]
    simp only
    rw [ofGo, lookS_snoc, if_neg (fun h => nAC h.symm), lookS_snoc, if_pos rfl]
    simp only [if_true]
    rw [ofGo]
  have h1 := Of_ok 1 (by omega) [] (by simp) (by simp)
  rw [ofGo, if_neg (by simp)] at h1
  have h2 := Of_ok 2 (by omega) [sA, sC, sA] (by simp) hb
  rw [hg, if_neg (by simp)] at h2
  have hp : ∀ n ∈ ([sA, sC, sA] : List ByteArray).map nameS, Proper n := names_proper _ hb
  have hc : reC [] [sC, sA] [] = [] := by
    rw [reC, lookS_nil]
    simp only
    rw [reC, lookS_snoc, if_neg (fun h => nAC h.symm), lookS_nil]
    simp only
    rw [reC]
  have lA : lookS [sC, sA] (nm sA).1 (nm sA).2 = some sA := by
    rw [show [sC, sA] = [sC] ++ [sA] from rfl, lookS_snoc, if_pos rfl]
  have lC : lookS [sC, sA] (nm sC).1 (nm sC).2 = some sC := by
    rw [show [sC, sA] = [sC] ++ [sA] from rfl, lookS_snoc, if_neg (by exact nAC), show [sC] = [] ++ [sC] from rfl, lookS_snoc, if_pos rfl]
  have h3 := Restore_ok 2 (by omega) (([sA, sC, sA] : List ByteArray).map nameS) (by simp) hp [sC, sA] (by simp) (by
    intro s hs
    simp only [List.mem_cons, List.not_mem_nil, or_false] at hs
    rcases hs with rfl | rfl
    · rw [sC_size]; omega
    · rw [sA_size]; omega)
  have h4 : reGo [sC, sA] [] [] (([sA, sC, sA] : List ByteArray).map nameS) = (B [97, 98, 99, 97, 98], 0) := by
    simp only [List.map_cons, List.map_nil, nameS]
    rw [reGo]
    simp only [lA, List.not_mem_nil, if_false]
    rw [reGo]
    simp only [lC, List.not_mem_nil, if_false]
    rw [reGo]
    simp only [lA, List.not_mem_nil, if_false]
    rw [reGo]
    rfl
  rw [hc, h4] at h3
  have h5 := Size_ok 2 (by omega) (([sA, sC, sA] : List ByteArray).map nameS) (by simp) hp k (by omega)
  have h6 : sumN (([sA, sC, sA] : List ByteArray).map nameS) = 5 := by
    unfold sumN
    simp only [List.map_cons, List.map_nil, nameS, nA, nC, List.sum_cons, List.sum_nil]
    omega
  rw [h6] at h5
  unfold storagebarterlaw08_sane.f
  rw [h1, Option.bind_some]
  dsimp only
  rw [List.map_nil, encode_one k hk, Option.bind_some]
  show (manifest_Of.f 2 [sA, sC, sA]).bind _ = _
  rw [h2, Option.bind_some]
  dsimp only
  show (manifest_Restore.f 2 _ [sC, sA]).bind _ = _
  rw [h3, Option.bind_some, h5, Option.bind_some]
  dsimp only
  rw [if_pos rfl, if_pos rfl, if_pos rfl, if_pos rfl, if_pos rfl, if_pos (by rw [B_toList]), if_pos (by rw [B_toList])]
  rfl
end Go.Proofs.Ytodhkbahjomfhaa.Gcr

namespace Go.Proofs.Ytodhkbahjomfhaa.Pure
open Go Go.RowKit Go.Proofs.Ytodhkbahjomfhaa.Gm Go.Proofs.Ytodhkbahjomfhaa.Gdm Go.Proofs.Ytodhkbahjomfhaa.Gch Go.Proofs.Ytodhkbahjomfhaa.Gcd Go.Proofs.Ytodhkbahjomfhaa.Gcv Go.Proofs.Ytodhkbahjomfhaa.Gcr Go.Proofs.Ytodhkbahjomfhaa.Q Go.Proofs.YtodhkbahjomfhaaW.PrintWords Go.Proofs.YtodhkbahjomfhaaW.PrintLast Go.Proofs.YtodhkbahjomfhaaW.PrintMore
set_option linter.unusedVariables false
theorem bytes_l0 (l : List ByteArray) (hl : l.length ≤ 100) (hs : ∀ s ∈ l, s.size ≤ 100000) (a1 : Int) (l1 : List S78) : ∀ (d i k : Nat), l.length - i = d → i ≤ l.length → 200000 + d < k →
    storagebarterlaw08_ManifestBytes.l0 k l (l.length : Int) (i : Int) a1 l1 = some true := by
  intro d
  induction d with
  | zero =>
    intro i k hd hi hk
    obtain ⟨k, rfl⟩ := nat_pred (show 0 < k by omega)
    rw [storagebarterlaw08_ManifestBytes.l0, if_neg (by omega), Encode_eq _ _ k (by omega), Option.bind_some, refEncode_eq _ _ k (by omega), Option.bind_some, if_pos rfl]
    simp
  | succ d ih =>
    intro i k hd hi hk
    obtain ⟨k, rfl⟩ := nat_pred (show 0 < k by omega)
    have hil : i < l.length := by omega
    have h0 := ih (i + 1) k (by omega) (by omega) (by omega)
    have hsz := hs _ (List.getElem_mem hil)
    have hb : l[i] = B l[i].data.toList := eq_B _
    have hlen : l[i].data.toList.length = l[i].size := data_length _
    have e1 := Decode_eq l[i].data.toList k (by omega) (by omega)
    have e2 := refDecode_eq l[i].data.toList k (by omega) (by omega)
    have hd2 := dec_len l[i].data.toList
    rw [← hb] at e1 e2
    rw [storagebarterlaw08_ManifestBytes.l0, if_pos (by omega), if_pos (by omega), if_pos (by omega), rdS l i hil, e1, Option.bind_some, e2, Option.bind_some, if_pos rfl, refSame_eq _ _ _ _ k (by omega) (by omega), Option.bind_some, decide_eq_true ⟨rfl, rfl⟩, if_pos rfl, w64 (x := (i : Int) + 1) (by omega), show ((i : Int) + 1) = ((i + 1 : Nat) : Int) by omega]
    exact h0
theorem ManifestBytes (l0 : List Int) (a1 : Int) (l1 : List S78) (a2 : ByteArray) (a3 a4 : Int) (h0 : l0.length * 8 ≤ 140737488351232) (h2 : a2.size ≤ 140737488351232) (h3 : (Lit.int .u8 a3).wf = true) :
    ∃ k, storagebarterlaw08_ManifestBytes.f k l0 a1 l1 a2 a3 a4 = some true := by
  have ha := bounds_u8 h3
  refine ⟨300000, ?_⟩
  have hskip : storagebarterlaw08_ManifestBytes.j0 300000 l0 a2 a3 a4 true a1 l1 = some true := by
    rw [show 300000 = 299999 + 1 from rfl, storagebarterlaw08_ManifestBytes.j0, if_pos rfl]
  unfold storagebarterlaw08_ManifestBytes.f
  rw [sane_ok _ (by omega), Option.bind_some, if_pos rfl, Few_eq, Option.bind_some]
  by_cases hf : (l0.length : Int) ≤ 500
  case neg => rw [decide_eq_false hf, if_neg (by simp)]; exact hskip
  case pos =>
  rw [decide_eq_true hf, if_pos rfl]
  by_cases hg : (l1.length : Int) > 600
  case pos => rw [if_pos hg]; exact hskip
  case neg =>
  rw [if_neg hg]
  by_cases hh : (a2.size : Int) > 3000
  case pos => rw [decide_eq_true hh]; exact hskip
  case neg =>
  rw [decide_eq_false hh]
  obtain ⟨k, hk⟩ : ∃ k, k = 299999 := ⟨_, rfl⟩
  rw [show 300000 = 299999 + 1 from rfl, ← hk, storagebarterlaw08_ManifestBytes.j0, if_neg (by simp), show storagebartermake_New.f l0 = some (l0, 0) from rfl, Option.bind_some]
  dsimp only
  obtain ⟨a, ns, at1, e1, -, hv⟩ := Version_ok l0 (by omega) 0 (by omega) k (by omega)
  rw [e1, Option.bind_some]
  dsimp only
  rcases hv with rfl | ⟨hc, hn⟩
  · rw [if_pos rfl]
  obtain ⟨hca, hcl, hcp⟩ := chk_zero hc
  have hw1 := putI_pos a
  have hw2 := putI_len (n := a) (by omega)
  have hw3 : (putL (flat ns)).length ≤ 1300 := by
    have h1 : ∀ l : List Int, (∀ x ∈ l, (Lit.int .i64 x).wf = true) → (l.flatMap putI).length ≤ 10 * l.length := by
      intro l
      induction l with
      | nil => intro _; simp
      | cons x l ih =>
        intro h
        have := ih (fun y hy => h y (List.mem_cons_of_mem _ hy))
        have h2 := putI_len (bounds_i64 (h x List.mem_cons_self))
        rw [List.flatMap_cons, List.length_append, List.length_cons]
        omega
    have h2 := h1 (flat ns) (flat_wf hcp)
    have h3 := flat_len ns
    have h4 := putI_len (n := ((flat ns).length : Int)) (by omega)
    unfold putL
    rw [List.length_append]
    omega
  have he : enc a ns = (B (putI a ++ putL (flat ns)), 0) := by unfold enc; rw [if_pos hc]
  rw [if_neg (by omega), refEncode_eq a ns k (by omega), Option.bind_some, he]
  dsimp only
  have hlw : (putI a ++ putL (flat ns)).length ≤ 1310 ∧ 0 < (putI a ++ putL (flat ns)).length := by rw [List.length_append]; omega
  generalize putI a ++ putL (flat ns) = w at hlw ⊢
  have hyl : (([] : List Int) ++ bytesOf (B w)).length = w.length := by rw [List.nil_append, bytesOf_length, B_size]
  rw [if_pos (by rw [List.length_nil, B_size]; omega), Option.bind_some]
  have hm0 : 0 ≤ Int.tmod a3 (w.length : Int) := Int.tmod_nonneg _ ha.1
  have hm1 : Int.tmod a3 (w.length : Int) < (w.length : Int) := Int.tmod_lt_of_pos _ (by omega)
  rw [hyl, B_size, w64 (x := a3) (by omega), if_neg (by omega), if_pos hm0, if_pos hm1, if_pos (by omega), if_neg (by omega), if_pos hm0, if_pos (by omega), Option.bind_some]
  refine bytes_l0 _ (by simp) ?_ a1 l1 5 0 k rfl (by simp) (by omega)
  intro s hs
  simp only [List.mem_cons, List.not_mem_nil, or_false] at hs
  rcases hs with rfl | rfl | rfl | rfl | rfl
  · omega
  · rw [B_size]; omega
  · rw [strOf_size, List.length_set, hyl]; omega
  · rw [ByteArray.size_append, B_size]; omega
  · rw [ByteArray.size_extract, B_size]; omega
end Go.Proofs.Ytodhkbahjomfhaa.Pure

namespace Go.Proofs.Ytodhkbahjomfhaa.Grd
open Go Go.ChangeShapes Go.WideShapes Go.ChangeAt Go.RowKit
set_option linter.unusedVariables false
theorem rd_names {H : Type} {enc : TypeId × Value → H} {W : World} {fuel : Nat} {cs : List Value} {x : DataW H × List MemPlace} (hf : DataW.trod enc Try.prog W 0 (fun _ => true) true fuel 30 cs = some x) :
    ∃ A len cap, ∃ xs : List Q.S78, cs = [.slice A len cap] ∧ xs.length = len ∧ Go.Proofs.YtodhkbahjomfhaaW.PrintWords.Kd.C Q.k78 W A xs.length xs ∧ xs.length ≤ cap ∧ ∀ p ∈ xs, (Lit.int .i64 p.f0).wf = true ∧ (Lit.int .i64 p.f1).wf = true := by
  rcases Go.Deep.open_slice_pairs Try.underlying30 Try.underlying78 (by kernel_rfl) rfl rfl (by kernel_rfl) (by kernel_rfl) hf with ⟨hcs, -⟩ | ⟨a, len, cap, m, n, V0, V1, D0, D1, P0, P1, hcs, hb, hl, hm, hmm, -, hi⟩
  · exact ⟨none, 0, 0, [], hcs, rfl, Go.Proofs.YtodhkbahjomfhaaW.PrintWords.Kd.C_nil _ _, Nat.le_refl _, fun p hp => by cases hp⟩
  · have hlm : len ≤ m := by rw [hmm]; simp; exact hl
    have each : ∀ i, i < len → ∃ q : Int × Int, W.cell? (a.add (i * 2)) = some (.int .i64 q.1) ∧ W.cell? (a.add (i * 2 + 1)) = some (.int .i64 q.2) ∧ (Lit.int .i64 q.1).wf = true ∧ (Lit.int .i64 q.2).wf = true := by
      intro i hil
      obtain ⟨e0, e1, t0, t1⟩ := hi i (by omega)
      obtain ⟨b0, hb0, -, wf0⟩ := DataW.trod_int Try.underlying3 t0
      obtain ⟨b1, hb1, -, wf1⟩ := DataW.trod_int Try.underlying3 t1
      have g0 : V0 i = .int .i64 b0 := by simpa using hb0
      have g1 : V1 i = .int .i64 b1 := by simpa using hb1
      rw [g0] at e0
      rw [g1] at e1
      exact ⟨(b0, b1), e0, e1, wf0, wf1⟩
    obtain ⟨q, hq⟩ := Go.Deep.choose_lt each
    refine ⟨some a, len, cap, (List.range len).map (fun i => ⟨(q i).1, (q i).2⟩), hcs, by simp, ⟨rfl, by simp; unfold maxLen at hm; omega, fun _ => ⟨a, rfl, fun j p hj => ?_⟩⟩, by simpa using hl, fun p hp => ?_⟩
    · have hjl : j < len := by
        have := (List.getElem?_eq_some_iff.1 hj).1
        simpa using this
      simp [hjl] at hj
      obtain ⟨h1, h2, -, -⟩ := hq j hjl
      subst hj
      refine ⟨[.int .i64 (q j).1, .int .i64 (q j).2], rfl, Q.k78_mk _ ⟨(q j).1, (q j).2⟩, fun i u hu => ?_⟩
      match i, hu with
      | 0, hu => simp at hu; subst hu; exact h1
      | 1, hu => simp at hu; subst hu; exact h2
    · obtain ⟨i, hi2, rfl⟩ := List.mem_map.1 hp
      obtain ⟨-, -, h3, h4⟩ := hq i (List.mem_range.1 hi2)
      exact ⟨h3, h4⟩
end Go.Proofs.Ytodhkbahjomfhaa.Grd

namespace Go.Proofs.Ytodhkbahjomfhaa.manifestBytes
open Go.ChangeShapes Go.WideShapes Go.ChangeAt Go.RowKit
open Go.ChangeMaps (open_string shut_string)
set_option linter.unusedVariables false
theorem own : ownKnob Try.prog.godebug = none := by kernel_rfl
theorem laidOut : laidOutB Try.prog = true := by kernel_rfl
def IsRow (k : IntKind) (w : World) (a : Option Addr) (len cap : Nat) (zs : List Int) : Prop :=
  (a = none ∧ len = 0 ∧ cap = 0 ∧ zs = []) ∨
  ∃ x, a = some x ∧ len ≤ cap ∧ cap ≤ maxLen ∧ zs.length = cap ∧ (∀ i, i < zs.length → w.cell? (x.add i) = some (.int k (zs.getD i 0))) ∧ ∀ n ∈ zs, (Lit.int k n).wf = true
set_option maxRecDepth 100000 in
theorem lifted (os : Os) (started : os.Started) (H : Type) (enc : TypeId × Value → H) :
    ReturnsInHanded {} Try.checked os 6 .any (Rows.manifestBytesSpec.pre6 enc Try.prog Try.f6 Rows.manifestBytesRow.domain false) (Rows.manifestBytesSpec.post enc Try.prog Try.f6 false true false false) := by
  refine returnsInHanded_of_change_sized (C := Try.checked) own started (by kernel_rfl) Try.func6
    (ChangeSpec.witness6 (enc := enc) (C := Try.checked) false ⟨#[], #[.slice none 0 0, .agg #[.int .i64 0, .slice none 0 0], .string ByteArray.empty, .int .u8 0, .int .u8 0], []⟩ 8 (by kernel_rfl) (by kernel_rfl) (by kernel_rfl) (by kernel_rfl)) ?_
  intro W base args ds gs before hval0 hW hcnd hsz0 _
  have hsz : (DataW.weightsEach Try.prog (Try.f6.params.toList ++ Rows.manifestBytesSpec.plain.varTypes Try.prog) (ds ++ gs)).all (· ≤ reachBytes) = true := hsz0
  have hval : ∀ (j : Nat) t v, Try.f6.params[j]? = some t → args[j]? = some v → Value.okWide Try.prog W .any base t v := hval0
  have hW' := hW
  obtain ⟨p, q, hA0, hV, rfl, hfz, hnd⟩ := hW
  have hA : DataW.TrodAll enc Try.prog W 0 (fun _ => true) true Try.f6.params.toList args.toList ds p := hA0
  rw [Try.params6] at hA hval hsz
  obtain ⟨v0, vs0, d0, ds0, p0, q0, hargs, rfl, rfl, h0, r0⟩ := trodAll_cons hA
  obtain ⟨v1, vs1, d1, ds1, p1, q1, rfl, rfl, rfl, h1, r1⟩ := trodAll_cons r0
  obtain ⟨v2, vs2, d2, ds2, p2, q2, rfl, rfl, rfl, h2, r2⟩ := trodAll_cons r1
  obtain ⟨v3, vs3, d3, ds3, p3, q3, rfl, rfl, rfl, h3, r3⟩ := trodAll_cons r2
  obtain ⟨v4, vs4, d4, ds4, p4, q4, rfl, rfl, rfl, h4, r4⟩ := trodAll_cons r3
  obtain ⟨rfl, rfl, rfl⟩ := trodAll_nil r4
  obtain rfl : args = #[v0, v1, v2, v3, v4] := by cases args; simp_all
  obtain ⟨rfl, rfl⟩ := trodVars_none hV
  obtain ⟨A0, len0, cap0, rfl⟩ := okWide_slice Try.underlying22 (hval 0 22 v0 rfl rfl)
  have k0 := h0
  have lt0 : ∀ x ∈ p0, x.block < W.heap.size := by obtain ⟨m, hm⟩ := k0; exact DataW.trod_lt m _ _ _ hm
  have y0 : len0 * 8 ≤ 140737488351232 := Go.Proofs.YtodhkbahjomfhaaW.PrintWords.sized_ints hsz (j := 0) (t := 22) rfl rfl Try.underlying22 Try.underlying3 (by kernel_rfl) (by kernel_rfl) h0
  obtain ⟨z0, w0⟩ : ∃ zs, IsRow .i64 W A0 len0 cap0 zs := by
    obtain ⟨fuel, hf⟩ := h0
    rcases open_ints Try.underlying22 Try.underlying3 (by kernel_rfl) hf with ⟨hcs, _⟩ | ⟨x, l, c, zs, hcs, _, hl, hm, hz, _, hcell, hwz⟩
    · simp [Value.cells] at hcs
      obtain ⟨rfl, rfl, rfl⟩ := hcs
      exact ⟨[], .inl ⟨rfl, rfl, rfl, rfl⟩⟩
    · simp [Value.cells] at hcs
      obtain ⟨rfl, rfl, rfl⟩ := hcs
      exact ⟨zs, .inr ⟨_, rfl, hl, hm, by simpa using hz, hcell, hwz⟩⟩
  have k1 := h1
  have lt1 : ∀ x ∈ p1, x.block < W.heap.size := by obtain ⟨m, hm⟩ := k1; exact DataW.trod_lt m _ _ _ hm
  obtain ⟨c0_, c1_, z0_, z1_, n1_, rfl, rfl, rfl, t0_, t1_⟩ := Go.Joins.open_agg2 Try.underlying32 (by kernel_rfl) (by kernel_rfl) (hval 1 32 v1 rfl rfl) h1
  obtain ⟨b1, hb1, -, wb1⟩ := DataW.trod_int Try.underlying3 t0_
  obtain ⟨A1, len1, cap1, l1, hcs1, hz1, w1, hc1, hw1⟩ := Grd.rd_names t1_
  obtain rfl : c0_ = .int .i64 b1 := by simpa using hb1
  obtain rfl : c1_ = .slice A1 len1 cap1 := by simpa using hcs1
  subst hz1
  obtain ⟨a2, rfl, rfl, rfl, y2⟩ := open_string Try.underlying9 (hval 2 9 v2 rfl rfl) h2
  have w2 : a2.size ≤ 140737488351232 := by
    have z := sized_string hsz (j := 2) (t := 9) rfl rfl
    rw [Array.length_toList] at z
    exact z
  obtain ⟨a3, rfl, rfl, rfl, w3⟩ := open_int Try.underlying5 (hval 3 5 v3 rfl rfl) h3
  obtain ⟨a4, rfl, rfl, rfl, w4⟩ := open_int Try.underlying5 (hval 4 5 v4 rfl rfl) h4
  clear hA0 hval0 hsz0 hsz
  obtain ⟨l0, rfl, hr0, hm0, hw0, hc0⟩ := Go.Proofs.YtodhkbahjomfhaaW.PrintWords.ReadsInt.ofRowC w0
  obtain ⟨k, hk⟩ := Pure.ManifestBytes l0 b1 l1 a2 a3 a4 y0 w2 w3
  refine (Q.storagebarterlaw08_ManifestBytes.calls k A0 cap0 l0 b1 A1 cap1 l1 a2 a3 a4 true W (Go.Proofs.YtodhkbahjomfhaaW.PrintWords.Kd.C_of_reads (d := (0 : Int)) (h1 := fun _ => rfl) hr0) hc0 w1 hc1 hk rfl).mono fun e W' ⟨he, bel⟩ => ?_
  subst he
  exact ⟨_, rfl, _, _, _, [], _, [], hW', trodAll_mk1 (shut_bool Try.underlying4 _), (trodAll_cons_mk (Below.trod laidOut (by kernel_rfl) (of_decide_eq_true (by kernel_rfl)) k0 bel lt0) (trodAll_cons_mk (Below.trod laidOut (by kernel_rfl) (of_decide_eq_true (by kernel_rfl)) k1 bel lt1) (trodAll_cons_mk (shut_string Try.underlying9 y2) (trodAll_cons_mk (shut_int Try.underlying5 w3) (trodAll_cons_mk (shut_int Try.underlying5 w4) trodAll_mk0))))), rfl, bel.frame _, fun h => by cases h⟩
theorem over : Rows.manifestBytesRow.holds Try.pinned (OpenSpec.ofChange Rows.manifestBytesSpec) :=
  OpenClaim.holds_of_wide 6 Try.f6 rfl rfl rfl rfl rfl rfl rfl ⟨rfl, rfl, rfl, rfl, rfl⟩ rfl rfl rfl rfl rfl (by kernel_rfl) Try.func6 (by kernel_rfl)
    (of_decide_eq_true (by kernel_rfl)) (by unfold Func.isWrapper; first | (rw [if_pos (by decide +kernel)]; kernel_rfl) | (rw [if_neg (by decide +kernel)]; exact ⟨rfl, rfl⟩))
    (fun os started H enc _ => lifted os started H enc)
theorem proved : Rows.ManifestBytesSaid := over
#print axioms proved
end Go.Proofs.Ytodhkbahjomfhaa.manifestBytes
namespace Go.Proofs.Ytodhkbahjomfhaa
/-- The row, under a short name, for the claim. -/
theorem manifestBytes_holds : Rows.ManifestBytesSaid := manifestBytes.proved
end Go.Proofs.Ytodhkbahjomfhaa
