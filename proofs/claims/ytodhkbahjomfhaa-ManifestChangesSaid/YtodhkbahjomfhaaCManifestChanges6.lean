/- Changes are exchanged with their versions, a version does not change to itself, and each name is in the version that it is said to be in: for all choices. -/
import Derived.Test.YtodhkbahjomfhaaCManifestChanges3
import Derived.Test.YtodhkbahjomfhaaCManifestChanges4
import Derived.Test.YtodhkbahjomfhaaCManifestChanges5
namespace Go.Proofs.Ytodhkbahjomfhaa.Q
open Go.RowKit Go.Proofs.YtodhkbahjomfhaaW.PrintWords Go.Proofs.YtodhkbahjomfhaaW.PrintLast Go.Proofs.YtodhkbahjomfhaaW.PrintMore Go.Proofs.Ytodhkbahjomfhaa.Gput Go.Proofs.Ytodhkbahjomfhaa.Gputl
attribute [local go_sem] max2_int min2_int max_two min_two max_three min_three max_four min_four   -- for this text's walks alone
set_option linter.unusedVariables false
set_option linter.unusedSimpArgs false
mutual
noncomputable def storagebarterlaw08_ManifestChanges.j0 : Nat → Bool → Int → List (S78) → Int → List (S78) → Option (Bool)
 | 0, _, _, _, _, _ => none
 | k + 1, x37, x751000, x751001, x752000, x752001 => if x37 = true then (some true) else ((manifest_Change.f k x751000 x751001 x752000 x752001).bind fun bt752 => ((manifest_Change.f k x752000 x752001 x751000 x751001).bind fun bt759 => ((manifest_Change.f k x751000 x751001 x751000 x751001).bind fun bt766 => (if bt752.2.2 = 0 then (if bt759.2.2 = 0 then (if bt766.2.2 = 0 then ((storagebarterref08_SameNames.f k bt752.1 bt759.2.1).bind fun t773 => (if t773 = true then ((storagebarterref08_SameNames.f k bt752.2.1 bt759.1).bind fun t774 => (if t774 = true then (storagebarterlaw08_ManifestChanges.j1 k bt752.1 (decide ((wrap64 ((bt766.1.length : Int) + (bt766.2.1.length : Int))) > 0)) x751000 x751001 x752000 x752001) else (storagebarterlaw08_ManifestChanges.j1 k bt752.1 true x751000 x751001 x752000 x752001))) else (storagebarterlaw08_ManifestChanges.j1 k bt752.1 true x751000 x751001 x752000 x752001))) else (storagebarterlaw08_ManifestChanges.j1 k bt752.1 true x751000 x751001 x752000 x752001)) else (storagebarterlaw08_ManifestChanges.j1 k bt752.1 true x751000 x751001 x752000 x752001)) else (storagebarterlaw08_ManifestChanges.j1 k bt752.1 true x751000 x751001 x752000 x752001)))))
noncomputable def storagebarterlaw08_ManifestChanges.j1 : Nat → List (S78) → Bool → Int → List (S78) → Int → List (S78) → Option (Bool)
 | 0, _, _, _, _, _, _ => none
 | k + 1, x6, x88, x751000, x751001, x752000, x752001 => if x88 = true then (some false) else (storagebarterlaw08_ManifestChanges.l0 k x6 x6 (x6.length : Int) 0 x751000 x751001 x752000 x752001)
noncomputable def storagebarterlaw08_ManifestChanges.l0 : Nat → List (S78) → List (S78) → Int → Int → Int → List (S78) → Int → List (S78) → Option (Bool)
 | 0, _, _, _, _, _, _, _, _ => none
 | k + 1, x6, x89, x90, x91, x751000, x751001, x752000, x752001 => if x91 < x90 then (if 0 ≤ x91 then (if x91 < (x89.length : Int) then ((storagebarterlaw08_has.f k x752001 ((rd_T78 x89 x91).f0) ((rd_T78 x89 x91).f1)).bind fun t777 => (if t777 = true then ((storagebarterlaw08_has.f k x751001 ((rd_T78 x89 x91).f0) ((rd_T78 x89 x91).f1)).bind fun t778 => (if t778 = true then (some false) else (if x91 > 0 then (if 0 ≤ (wrap64 (x91 - 1)) then (if (wrap64 (x91 - 1)) < (x6.length : Int) then (if ((rd_T78 x6 (wrap64 (x91 - 1))).f0) > ((rd_T78 x89 x91).f0) then (some false) else (if ((rd_T78 x6 (wrap64 (x91 - 1))).f0) = ((rd_T78 x89 x91).f0) then (if ((rd_T78 x6 (wrap64 (x91 - 1))).f1) ≥ ((rd_T78 x89 x91).f1) then (some false) else (storagebarterlaw08_ManifestChanges.l0 k x6 x89 x90 (wrap64 (x91 + 1)) x751000 x751001 x752000 x752001)) else (storagebarterlaw08_ManifestChanges.l0 k x6 x89 x90 (wrap64 (x91 + 1)) x751000 x751001 x752000 x752001))) else (none)) else (none)) else (storagebarterlaw08_ManifestChanges.l0 k x6 x89 x90 (wrap64 (x91 + 1)) x751000 x751001 x752000 x752001)))) else (some false))) else (none)) else (none)) else (storagebarterlaw08_ManifestChanges.l1 k x6 x752001 (x752001.length : Int) 0 x751000 x751001)
noncomputable def storagebarterlaw08_ManifestChanges.l1 : Nat → List (S78) → List (S78) → Int → Int → Int → List (S78) → Option (Bool)
 | 0, _, _, _, _, _, _ => none
 | k + 1, x6, x146, x147, x148, x751000, x751001 => if x148 < x147 then (if 0 ≤ x148 then (if x148 < (x146.length : Int) then ((storagebarterlaw08_has.f k x751001 ((rd_T78 x146 x148).f0) ((rd_T78 x146 x148).f1)).bind fun t784 => (if t784 = true then (storagebarterlaw08_ManifestChanges.l1 k x6 x146 x147 (wrap64 (x148 + 1)) x751000 x751001) else ((storagebarterlaw08_has.f k x6 ((rd_T78 x146 x148).f0) ((rd_T78 x146 x148).f1)).bind fun t785 => (if t785 = true then (storagebarterlaw08_ManifestChanges.l1 k x6 x146 x147 (wrap64 (x148 + 1)) x751000 x751001) else (some false))))) else (none)) else (none)) else (some true)
end
noncomputable def storagebarterlaw08_ManifestChanges.f (k : Nat) (l0 : List Int) : Option (Bool) := (storagebarterlaw08_sane.f k).bind fun t735 => (if t735 = true then ((storagebartermake_Few.f l0).bind fun t736 => (if t736 = true then ((storagebartermake_New.f l0).bind fun bt737 => ((storagebartermake_Version.f k bt737.1 bt737.2).bind fun bt740 => ((storagebartermake_Version.f k bt737.1 bt740.2.2).bind fun bt745 => (if bt740.1 = 0 then (storagebarterlaw08_ManifestChanges.j0 k true bt740.1 bt740.2.1 bt745.1 bt745.2.1) else (storagebarterlaw08_ManifestChanges.j0 k (bt745.1 == 0) bt740.1 bt740.2.1 bt745.1 bt745.2.1))))) else (some true))) else (some false))
noncomputable def storagebarterlaw08_ManifestChanges.T17 : Bool × List (List Nat × List Nat) := (true, [([], []), ([0], [0]), ([], []), ([1, 2], [1, 2]), ([3], [3]), ([4, 3], [4]), ([5], [5]), ([6, 5], [5, 6]), ([5], [5]), ([7, 8, 5, 5], [5, 7, 8]), ([5, 9], [5, 9]), ([10, 9], [10]), ([11], [11]), ([12, 11], [11, 12]), ([13, 11, 11], [11, 13]), ([14], [14]), ([14], [14]), ([16, 14], [14, 16]), ([15, 17, 14], [14, 15, 17]), ([18, 14], [14, 18]), ([19, 14], [14, 19]), ([14], [14]), ([21, 14], [14, 21]), ([20, 22, 14], [14, 20, 22]), ([23, 14, 14], [14, 23]), ([24], [24]), ([24], [24]), ([26, 24], [24, 26]), ([25, 27, 24], [24, 25, 27]), ([28, 24], [24, 28]), ([29, 24], [24, 29]), ([24], [24]), ([31, 24], [24, 31]), ([30, 32, 24], [24, 30, 32]), ([33, 24, 24], [24, 33]), ([34], [34]), ([34], [34]), ([36, 34], [34, 36]), ([35, 37, 34], [34, 35, 37]), ([38, 34], [34, 38]), ([39, 34], [34, 39]), ([34], [34]), ([41, 34], [34, 41]), ([40, 42, 34], [34, 40, 42]), ([34, 43, 24], [24, 34, 43]), ([24, 44, 14], [14, 24, 44]), ([14, 45, 11], [11, 14, 45]), ([11, 46], [11, 46])])
noncomputable def storagebarterlaw08_ManifestChanges.B17 : List Nat := [0, 1, 0, 7, 15, 31, 63, 127, 63, 511, 1023, 2047, 4095, 8191, 16383, 32767, 32767, 98303, 262143, 524287, 1048575, 32767, 2129919, 8388607, 16777215, 33554431, 33554431, 100663295, 268435455, 536870911, 1073741823, 33554431, 2181038079, 8589934591, 17179869183, 34359738367, 34359738367, 103079215103, 274877906943, 549755813887, 1099511627775, 34359738367, 2233382993919, 8796093022207, 17592186044415, 35184372088831, 70368744177663, 140737488355327]
theorem storagebarterlaw08_ManifestChanges.tab17 : rtab .any (opsOf Try.f10 17) = storagebarterlaw08_ManifestChanges.T17 := by kernel_rfl
theorem storagebarterlaw08_ManifestChanges.bits17 : waitsOk storagebarterlaw08_ManifestChanges.T17.2 storagebarterlaw08_ManifestChanges.B17 = true := by kernel_rfl
set_option maxHeartbeats 8000000 in
set_option maxRecDepth 100000 in
theorem storagebarterlaw08_ManifestChanges.calls (k : Nat) (A0 : Option Addr) (c0 : Nat) (l0 : List Int) (r : Bool) (w : World) (hr0 : Kd.C (Kd.int .i64) w A0 l0.length l0) (hc0 : l0.length ≤ c0) (h : storagebarterlaw08_ManifestChanges.f k l0 = some r) (hrt : r = true) :
 Calls Try.prog 10 #[.slice A0 l0.length c0] w fun e w' => e = .returned (.bool r) ∧ Below w.heap.size w w' := by
 have hu32 := Try.underlying32
 have hu78 := Try.underlying78
 have HR0 := Aside0.mk hr0
 have HC0 := Aside0.mk hc0
 clear hr0 hc0
 have HB := Aside0.mk (Below.refl w.heap.size w)
 have H : ((storagebarterlaw08_sane.f k).bind fun t735 => (if t735 = true then ((storagebartermake_Few.f l0).bind fun t736 => (if t736 = true then ((storagebartermake_New.f l0).bind fun bt737 => ((storagebartermake_Version.f k bt737.1 bt737.2).bind fun bt740 => ((storagebartermake_Version.f k bt737.1 bt740.2.2).bind fun bt745 => (if bt740.1 = 0 then (storagebarterlaw08_ManifestChanges.j0 k true bt740.1 bt740.2.1 bt745.1 bt745.2.1) else (storagebarterlaw08_ManifestChanges.j0 k (bt745.1 == 0) bt740.1 bt740.2.1 bt745.1 bt745.2.1))))) else (some true))) else (some false))) = some r := h
 clear h
 have RT_ := Aside0.mk hrt
 clear hrt
 replace H := Option.bind_eq_some_iff.mp H
 obtain ⟨t735, A20, H⟩ := H
 try dsimp only at H
 have A2 := Aside0.mk A20
 clear A20
 by_cases c3 : t735 = true
 ·subst c3
  rw [if_pos rfl] at H
  replace H := Option.bind_eq_some_iff.mp H
  obtain ⟨t736, A40, H⟩ := H
  try dsimp only at H
  have A4 := Aside0.mk A40
  clear A40
  by_cases c5 : t736 = true
  ·subst c5
   rw [if_pos rfl] at H
   replace H := Option.bind_eq_some_iff.mp H
   obtain ⟨⟨t737, t738⟩, A60, H⟩ := H
   try dsimp only at H
   have A6 := Aside0.mk A60
   clear A60
   replace H := Option.bind_eq_some_iff.mp H
   obtain ⟨⟨t740, t741, t744⟩, A70, H⟩ := H
   try dsimp only at H
   have A7 := Aside0.mk A70
   clear A70
   replace H := Option.bind_eq_some_iff.mp H
   obtain ⟨⟨t745, t746, t749⟩, A80, H⟩ := H
   try dsimp only at H
   have A8 := Aside0.mk A80
   clear A80
   have HC9 := Aside0.mk H
   clear H
   go_enter Try.func10, Try.ntmps10
   go_upto_region 7 with (first | ((with_reducible refine gate_callee (f := 13) rfl ?_); refine goesL_ (some 19) rfl rfl Try.func13 (by kernel_rfl) rfl #[] rfl (by (try simp only [List.map_toArray, List.map_cons, List.map_nil]); first | done | rfl | (simp only [List.length_drop, List.length_take]; rfl)) ?_; (with_reducible refine (storagebarterlaw08_sane.calls k  true _ A2.out).mono ?_); rintro e w10 ⟨rfl, hb⟩; refine ⟨_, rfl, ?_⟩; have n0_ := Aside0.mk (below_step (by repeat (first | (with_reducible first | exact HB.out | apply below_alloc | apply pw_below_drewN | apply below_drew1) | exact HB.out)) hb); clear HB; have HB := n0_; clear n0_; (try clear hb); (try clear hb2); (try clear hk); (try clear hi)) | ((with_reducible refine gate_callee (f := 14) rfl ?_); refine goesL_ (some 22) rfl rfl Try.func14 (by kernel_rfl) rfl #[.slice A0 l0.length c0] rfl (by (try simp only [List.map_toArray, List.map_cons, List.map_nil]); first | done | rfl | (simp only [List.length_drop, List.length_take]; rfl)) ?_; (with_reducible refine (storagebartermake_Few.calls _ _ l0 true _ ?side1 ?side2 A4.out).mono ?_); (case side1 => repeat (first | exact (Kd.C_below HR0.out HB.out) | (with_reducible refine Kd.C_alloc ?_ _) | (with_reducible refine Kd.C_drewN ?_ _) | (with_reducible refine Kd.C_drew ?_))); (case side2 => exact HC0.out); rintro e w' ⟨rfl, ⟨nd, rfl⟩⟩; refine ⟨_, rfl, ?_⟩; (try (rw [drewN_self w10]; generalize hq_ : World.drewN w10 _ = w10; have n0_ : Aside0 (Below w.heap.size w w10) := ⟨by rw [← hq_]; exact (by repeat (first | (with_reducible first | exact HB.out | apply below_alloc | apply pw_below_drewN | apply below_drew1) | exact HB.out))⟩; clear HB hq_; have HB := n0_; clear n0_))) | ((with_reducible refine gate_callee (f := 16) rfl ?_); refine goesL_ (some 25) rfl rfl Try.func16 (by kernel_rfl) rfl #[.slice A0 l0.length c0] rfl (by (try simp only [List.map_toArray, List.map_cons, List.map_nil]); first | done | rfl | (simp only [List.length_drop, List.length_take]; rfl)) ?_; (with_reducible refine (storagebartermake_New.calls _ _ l0 t737 t738 w _ ?side1 ?side2 ?side3 A6.out).mono ?_); (case side1 => repeat (first | (with_reducible first | exact HB.out | apply below_alloc | apply pw_below_drewN | apply below_drew1) | exact HB.out)); (case side2 => exact HR0.out); (case side3 => exact HC0.out); rintro e w11 ⟨g739, rfl, hi, hb, hb2⟩; refine ⟨_, rfl, ?_⟩; have n0_ := Aside0.mk (hb); have n1_ := Aside0.mk (hi); clear HB; have HB := n0_; have HI739 := n1_; clear n0_ n1_; (try clear hb); (try clear hb2); (try clear hk); (try clear hi)) | ((with_reducible refine gate_callee (f := 33) rfl ?_); refine goesL_ (some 27) rfl rfl Try.func33 (by kernel_rfl) rfl #[.pointer (some ⟨g739, 0, none⟩)] rfl (by (try simp only [List.map_toArray, List.map_cons, List.map_nil]); first | done | rfl | (simp only [List.length_drop, List.length_take]; rfl)) ?_; (with_reducible refine (storagebartermake_Version.calls k g739 t737 t738 t740 t741 t744 w _ ?side1 ?side2 A7.out).mono ?_); (case side1 => repeat (first | (with_reducible first | exact HI739.out | apply IsS86.alloc | apply IsS86.drewN | apply IsS86.drew | apply IsS86.set_1) | exact HI739.out)); (case side2 => repeat (first | (with_reducible first | exact HB.out | apply below_alloc | apply pw_below_drewN | apply below_drew1 | refine below_set ?_ (IsS86.ge HI739.out)) | exact HB.out)); rintro e w12 ⟨v742, rfl, ho0, hi, hb, hk⟩; refine ⟨_, rfl, ?_⟩; have n0_ := Aside0.mk (Kd.R_lower ho0 (below_size (by repeat (first | (with_reducible first | exact HB.out | apply below_alloc | apply pw_below_drewN | apply below_drew1 | refine below_set ?_ (IsS86.ge HI739.out)) | exact HB.out)))); have n1_ := Aside0.mk (hb); have n2_ := Aside0.mk (hi); clear HB; clear HI739; have HO743 := n0_; have HB := n1_; have HI739 := n2_; clear n0_ n1_ n2_; (try clear hb); (try clear hb2); (try clear hk); (try clear hi); (try clear ho0)) | ((with_reducible refine gate_callee (f := 33) rfl ?_); refine goesL_ (some 29) rfl rfl Try.func33 (by kernel_rfl) rfl #[.pointer (some ⟨g739, 0, none⟩)] rfl (by (try simp only [List.map_toArray, List.map_cons, List.map_nil]); first | done | rfl | (simp only [List.length_drop, List.length_take]; rfl)) ?_; (with_reducible refine (storagebartermake_Version.calls k g739 t737 t744 t745 t746 t749 w _ ?side1 ?side2 A8.out).mono ?_); (case side1 => repeat (first | (with_reducible first | exact HI739.out | apply IsS86.alloc | apply IsS86.drewN | apply IsS86.drew | apply IsS86.set_1) | exact HI739.out)); (case side2 => repeat (first | (with_reducible first | exact HB.out | apply below_alloc | apply pw_below_drewN | apply below_drew1 | refine below_set ?_ (IsS86.ge HI739.out)) | exact HB.out)); rintro e w13 ⟨v747, rfl, ho0, hi, hb, hk⟩; refine ⟨_, rfl, ?_⟩; have n0_ := Aside0.mk (Kd.R_mono (Kd.R_told (Kd.R_oldK (IsS86.apart (show IsS86 w _ g739 t737 t744 from by repeat (first | (with_reducible first | exact HI739.out | apply IsS86.alloc | apply IsS86.drewN | apply IsS86.drew | apply IsS86.set_1) | exact HI739.out)) (by (with_reducible repeat (first | apply Kd.R_alloc | apply Kd.R_drewN | apply Kd.R_drew)); exact HO743.out) (by decide)) hk) (Kd.R_base ho0)) (fun _ h_ => h_.1)); have n1_ := Aside0.mk (Kd.R_lower (Kd.R_new' ho0 (Kd.R_lt (by (with_reducible repeat (first | apply Kd.R_alloc | apply Kd.R_drewN | apply Kd.R_drew)); exact HO743.out))) (below_size (by repeat (first | (with_reducible first | exact HB.out | apply below_alloc | apply pw_below_drewN | apply below_drew1 | refine below_set ?_ (IsS86.ge HI739.out)) | exact HB.out)))); have n2_ := Aside0.mk (hb); have n3_ := Aside0.mk (hi); clear HO743; clear HB; clear HI739; have HO743 := n0_; have HO748 := n1_; have HB := n2_; have HI739 := n3_; clear n0_ n1_ n2_ n3_; (try clear hb); (try clear hb2); (try clear hk); (try clear hi); (try clear ho0)) | ((with_reducible refine gate_dst (N := 4) rfl ?_); (try (refine gate_guard (by rfl) ?_; dsimp only)); refine box_event ?hg (N := 4) ?hd (cs := #[.int .i64 0, .slice none 0 0]) (t := 32) ?hr ?_; (case hd => rfl); (case hg => rfl); (case hr => first | (go_simp; done) | (go_simp; rfl)); intro gb750 hg w14 hbox hb; have n0_ := Aside0.mk (Kd.R_below (by (with_reducible repeat (first | apply Kd.R_alloc | apply Kd.R_drewN | apply Kd.R_drew)); exact HO743.out) hb); have n1_ := Aside0.mk (Kd.R_below (by (with_reducible repeat (first | apply Kd.R_alloc | apply Kd.R_drewN | apply Kd.R_drew)); exact HO748.out) hb); have n2_ := Aside0.mk (IsS86.below (by repeat (first | (with_reducible first | exact HI739.out | apply IsS86.alloc | apply IsS86.drewN | apply IsS86.drew | apply IsS86.set_1) | exact HI739.out)) hb); have n3_ := Aside0.mk (below_step (by repeat (first | (with_reducible first | exact HB.out | apply below_alloc | apply pw_below_drewN | apply below_drew1 | refine below_set ?_ (IsS86.ge HI739.out)) | exact HB.out)) hb); have n4_ := Aside0.mk (hbox); have n5_ := Aside0.mk ((by rw [hg]; exact (below_size (by repeat (first | (with_reducible first | exact HB.out | apply below_alloc | apply pw_below_drewN | apply below_drew1 | refine below_set ?_ (IsS86.ge HI739.out)) | exact HB.out))) : w.heap.size ≤ gb750)); have n6_ := Aside0.mk ((by rw [hg]; exact (below_size (by repeat (first | (with_reducible first | exact HB.out | apply below_alloc | apply pw_below_drewN | apply below_drew1 | refine below_set ?_ (IsS86.ge HI739.out)) | exact HB.out))) : w.heap.size ≤ gb750)); have n7_ := Aside0.mk ((by rw [hg]; exact Nat.ne_of_lt (IsS86.lt (show IsS86 w _ g739 t737 t749 from by repeat (first | (with_reducible first | exact HI739.out | apply IsS86.alloc | apply IsS86.drewN | apply IsS86.drew | apply IsS86.set_1) | exact HI739.out))) : g739 ≠ gb750)); have n8_ := Aside0.mk ((by rw [hg]; exact Nat.ne_of_gt (IsS86.lt (show IsS86 w _ g739 t737 t749 from by repeat (first | (with_reducible first | exact HI739.out | apply IsS86.alloc | apply IsS86.drewN | apply IsS86.drew | apply IsS86.set_1) | exact HI739.out))) : gb750 ≠ g739)); clear HO743; clear HO748; clear HI739; clear HB; have HO743 := n0_; have HO748 := n1_; have HI739 := n2_; have HB := n3_; have BK750 := n4_; have GW750 := n5_; have GE750 := n6_; have NB739_750 := n7_; have NB750_739 := n8_; clear n0_ n1_ n2_ n3_ n4_ n5_ n6_ n7_ n8_; clear hb hbox hg) | ((with_reducible refine gate_dst (N := 5) rfl ?_); (try (refine gate_guard (by rfl) ?_; dsimp only)); refine box_event ?hg (N := 5) ?hd (cs := #[.int .i64 0, .slice none 0 0]) (t := 32) ?hr ?_; (case hd => rfl); (case hg => rfl); (case hr => first | (go_simp; done) | (go_simp; rfl)); intro gb751 hg w15 hbox hb; have n0_ := Aside0.mk (Kd.R_below (by (with_reducible repeat (first | apply Kd.R_alloc | apply Kd.R_drewN | apply Kd.R_drew)); exact HO743.out) hb); have n1_ := Aside0.mk (Kd.R_below (by (with_reducible repeat (first | apply Kd.R_alloc | apply Kd.R_drewN | apply Kd.R_drew)); exact HO748.out) hb); have n2_ := Aside0.mk (IsS86.below (by repeat (first | (with_reducible first | exact HI739.out | apply IsS86.alloc | apply IsS86.drewN | apply IsS86.drew | apply IsS86.set_1 | refine IsS86.far ?_ NB739_750.out _) | exact HI739.out)) hb); have n3_ := Aside0.mk (blk_below (g := gb750) (o := .cells #[.int .i64 0, .slice none 0 0] 32 (0, 0)) (by (with_reducible repeat (first | refine blk_drewN ?_ _ | refine blk_drew ?_ | refine blk_alloc ?_ _)); exact BK750.out) hb); have n4_ := Aside0.mk (below_step (by repeat (first | (with_reducible first | exact HB.out | apply below_alloc | apply pw_below_drewN | apply below_drew1 | refine below_set ?_ (IsS86.ge HI739.out) | refine below_set ?_ GE750.out) | exact HB.out)) hb); have n5_ := Aside0.mk (hbox); have n6_ := Aside0.mk ((by rw [hg]; exact (below_size (by repeat (first | (with_reducible first | exact HB.out | apply below_alloc | apply pw_below_drewN | apply below_drew1 | refine below_set ?_ (IsS86.ge HI739.out) | refine below_set ?_ GE750.out) | exact HB.out))) : w.heap.size ≤ gb751)); have n7_ := Aside0.mk ((by rw [hg]; exact (below_size (by repeat (first | (with_reducible first | exact HB.out | apply below_alloc | apply pw_below_drewN | apply below_drew1 | refine below_set ?_ (IsS86.ge HI739.out) | refine below_set ?_ GE750.out) | exact HB.out))) : w.heap.size ≤ gb751)); have n8_ := Aside0.mk ((by rw [hg]; exact Nat.ne_of_lt (blk_lt (g := gb750) (o := .cells #[.int .i64 0, .slice none 0 0] 32 (0, 0)) (by (with_reducible repeat (first | refine blk_drewN ?_ _ | refine blk_drew ?_ | refine blk_alloc ?_ _)); exact BK750.out)) : gb750 ≠ gb751)); have n9_ := Aside0.mk ((by rw [hg]; exact Nat.ne_of_gt (blk_lt (g := gb750) (o := .cells #[.int .i64 0, .slice none 0 0] 32 (0, 0)) (by (with_reducible repeat (first | refine blk_drewN ?_ _ | refine blk_drew ?_ | refine blk_alloc ?_ _)); exact BK750.out)) : gb751 ≠ gb750)); have n10_ := Aside0.mk ((by rw [hg]; exact Nat.ne_of_lt (IsS86.lt (show IsS86 w _ g739 t737 t749 from by repeat (first | (with_reducible first | exact HI739.out | apply IsS86.alloc | apply IsS86.drewN | apply IsS86.drew | apply IsS86.set_1 | refine IsS86.far ?_ NB739_750.out _) | exact HI739.out))) : g739 ≠ gb751)); have n11_ := Aside0.mk ((by rw [hg]; exact Nat.ne_of_gt (IsS86.lt (show IsS86 w _ g739 t737 t749 from by repeat (first | (with_reducible first | exact HI739.out | apply IsS86.alloc | apply IsS86.drewN | apply IsS86.drew | apply IsS86.set_1 | refine IsS86.far ?_ NB739_750.out _) | exact HI739.out))) : gb751 ≠ g739)); clear HO743; clear HO748; clear HI739; clear BK750; clear HB; have HO743 := n0_; have HO748 := n1_; have HI739 := n2_; have BK750 := n3_; have HB := n4_; have BK751 := n5_; have GW751 := n6_; have GE751 := n7_; have NB750_751 := n8_; have NB751_750 := n9_; have NB739_751 := n10_; have NB751_739 := n11_; clear n0_ n1_ n2_ n3_ n4_ n5_ n6_ n7_ n8_ n9_ n10_ n11_; clear hb hbox hg; have hnb16 := NB750_751.out; have hnc16 := NB751_750.out; have hnb17 := NB750_739.out; have hnc17 := NB739_750.out; have hcz18_0 : w15.cell? ⟨gb750, 0, none⟩ = some (.int .i64 0) := (blk_cell BK750.out 0).trans rfl; have hcz18_1 : w15.cell? ⟨gb750, 1, none⟩ = some (.slice none 0 0) := (blk_cell BK750.out 1).trans rfl; have hfz18_0 := blk_frozen BK750.out 0; have hfz18_1 := blk_frozen BK750.out 1; obtain ⟨Ao19, co19, eo19⟩ := Kd.R_slice HO743.out; subst eo19; have hnb20 := NB751_739.out; have hnc20 := NB739_751.out; have hcz21_0 : w15.cell? ⟨gb751, 0, none⟩ = some (.int .i64 0) := (blk_cell BK751.out 0).trans rfl; have hcz21_1 : w15.cell? ⟨gb751, 1, none⟩ = some (.slice none 0 0) := (blk_cell BK751.out 1).trans rfl; have hfz21_0 := blk_frozen BK751.out 0; have hfz21_1 := blk_frozen BK751.out 1; obtain ⟨Ao22, co22, eo22⟩ := Kd.R_slice HO748.out; subst eo22))
   (try simp only [Act.put, Sa, Sz, Ss])
   go_cut [37] (fun v37 wc => ∃ (kq : Nat) (x37_8 : Bool), v37 = .bool x37_8 ∧ Aside0 (storagebarterlaw08_ManifestChanges.j0 kq x37_8 t740 t741 t745 t746 = some r) ∧ Aside0 (kq ≤ k) ∧ Aside0 (Kd.R k78 78 wc w.heap.size (fun k_ => some k_ ≠ ((.slice Ao22 t746.length co22) : Value).ownBlock) (.slice Ao19 t741.length co19) t741) ∧ Aside0 (Kd.R k78 78 wc w.heap.size (fun k_ => some k_ ≠ ((.slice Ao19 t741.length co19) : Value).ownBlock) (.slice Ao22 t746.length co22) t746) ∧ Aside0 (wc.heap[gb750]? = some (.cells #[.int .i64 t740, (.slice Ao19 t741.length co19)] 32 (0, 0))) ∧ Aside0 (wc.heap[gb751]? = some (.cells #[.int .i64 t745, (.slice Ao22 t746.length co22)] 32 (0, 0))) ∧ Aside0 (Below w.heap.size w wc))
   case first =>
    have H := HC9.out
    clear HC9
    by_cases c23 : t740 = 0
    focus
     rw [if_pos c23] at H
     have c23b0 : (t740 == 0) = true := beq_iff_eq.mpr c23
     have c23b1 : (t740 != 0) = false := bne_eq_false_iff_eq.mpr c23
     clear c23
     (first | rw [c23b0] | (simp only [i64_w, i32_w]; rw [c23b0]) | skip)
     have H' := Aside0.mk H
     clear H
     have hnb24 := NB750_751.out
     have hnc24 := NB751_750.out
     have hnb25 := NB750_739.out
     have hnc25 := NB739_750.out
     have hcz26_0 : w15.cell? ⟨gb750, 0, none⟩ = some (.int .i64 0) := (blk_cell BK750.out 0).trans rfl
     have hcz26_1 : w15.cell? ⟨gb750, 1, none⟩ = some (.slice none 0 0) := (blk_cell BK750.out 1).trans rfl
     have hfz26_0 := blk_frozen BK750.out 0
     have hfz26_1 := blk_frozen BK750.out 1
    rotate_left 1
    focus
     rw [if_neg c23] at H
     have c23b0 : (t740 == 0) = false := beq_eq_false_iff_ne.mpr c23
     have c23b1 : (t740 != 0) = true := bne_iff_ne.mpr c23
     (first | rw [c23b0] | (simp only [i64_w, i32_w]; rw [c23b0]) | skip)
     have H' := Aside0.mk H
     clear H
     have hnb27 := NB750_751.out
     have hnc27 := NB751_750.out
     have hnb28 := NB750_739.out
     have hnc28 := NB739_750.out
     have hcz29_0 : w15.cell? ⟨gb750, 0, none⟩ = some (.int .i64 0) := (blk_cell BK750.out 0).trans rfl
     have hcz29_1 : w15.cell? ⟨gb750, 1, none⟩ = some (.slice none 0 0) := (blk_cell BK750.out 1).trans rfl
     have hfz29_0 := blk_frozen BK750.out 0
     have hfz29_1 := blk_frozen BK750.out 1
     have hnb30 := NB751_739.out
     have hnc30 := NB739_751.out
     have hcz31_0 : w15.cell? ⟨gb751, 0, none⟩ = some (.int .i64 0) := (blk_cell BK751.out 0).trans rfl
     have hcz31_1 : w15.cell? ⟨gb751, 1, none⟩ = some (.slice none 0 0) := (blk_cell BK751.out 1).trans rfl
     have hfz31_0 := blk_frozen BK751.out 0
     have hfz31_1 := blk_frozen BK751.out 1
    rotate_left 1
    all_goals go_wp2
    ·go_meet
     case rel => exact ⟨_, (true), (by first | rfl | (simp; done) | (simp [*]; done)), H', ⟨by first | omega | exact Nat.le_refl _⟩, ⟨by (with_reducible repeat (first | apply Kd.R_alloc | apply Kd.R_drewN | apply Kd.R_drew)); exact Kd.R_mono (Kd.R_far (p := ⟨gb751, 1, none⟩) (Kd.R_far (p := ⟨gb751, 0, none⟩) (Kd.R_far (p := ⟨gb750, 1, none⟩) (Kd.R_far (p := ⟨gb750, 0, none⟩) (Kd.R_types (Kd.R_types HO743.out BK750.out (by decide)) BK751.out (by decide)) (fun _ hk => hk.1.2) (.int .i64 t740)) (fun _ hk => hk.1.2) (.slice Ao19 t741.length co19)) (fun _ hk => hk.2) (.int .i64 t745)) (fun _ hk => hk.2) (.slice Ao22 t746.length co22)) (fun _ hk => hk.1.1.2)⟩, ⟨by (with_reducible repeat (first | apply Kd.R_alloc | apply Kd.R_drewN | apply Kd.R_drew)); exact Kd.R_mono (Kd.R_far (p := ⟨gb751, 1, none⟩) (Kd.R_far (p := ⟨gb751, 0, none⟩) (Kd.R_far (p := ⟨gb750, 1, none⟩) (Kd.R_far (p := ⟨gb750, 0, none⟩) (Kd.R_types (Kd.R_types HO748.out BK750.out (by decide)) BK751.out (by decide)) (fun _ hk => hk.1.2) (.int .i64 t740)) (fun _ hk => hk.1.2) (.slice Ao19 t741.length co19)) (fun _ hk => hk.2) (.int .i64 t745)) (fun _ hk => hk.2) (.slice Ao22 t746.length co22)) (fun _ hk => hk.1.1.2)⟩, ⟨by (with_reducible repeat (first | refine blk_drewN ?_ _ | refine blk_drew ?_ | refine blk_alloc ?_ _)); refine blk_far ?_ NB750_751.out _; (with_reducible repeat (first | refine blk_drewN ?_ _ | refine blk_drew ?_ | refine blk_alloc ?_ _)); refine blk_far ?_ NB750_751.out _; (with_reducible repeat (first | refine blk_drewN ?_ _ | refine blk_drew ?_ | refine blk_alloc ?_ _)); refine blk_put (cs := #[.int .i64 t740, .slice none 0 0]) ?_ 1 _ rfl; (with_reducible repeat (first | refine blk_drewN ?_ _ | refine blk_drew ?_ | refine blk_alloc ?_ _)); refine blk_put (cs := #[.int .i64 0, .slice none 0 0]) ?_ 0 _ rfl; (with_reducible repeat (first | refine blk_drewN ?_ _ | refine blk_drew ?_ | refine blk_alloc ?_ _)); exact BK750.out⟩, ⟨by (with_reducible repeat (first | refine blk_drewN ?_ _ | refine blk_drew ?_ | refine blk_alloc ?_ _)); refine blk_put (cs := #[.int .i64 t745, .slice none 0 0]) ?_ 1 _ rfl; (with_reducible repeat (first | refine blk_drewN ?_ _ | refine blk_drew ?_ | refine blk_alloc ?_ _)); refine blk_put (cs := #[.int .i64 0, .slice none 0 0]) ?_ 0 _ rfl; (with_reducible repeat (first | refine blk_drewN ?_ _ | refine blk_drew ?_ | refine blk_alloc ?_ _)); refine blk_far ?_ NB751_750.out _; (with_reducible repeat (first | refine blk_drewN ?_ _ | refine blk_drew ?_ | refine blk_alloc ?_ _)); refine blk_far ?_ NB751_750.out _; (with_reducible repeat (first | refine blk_drewN ?_ _ | refine blk_drew ?_ | refine blk_alloc ?_ _)); exact BK751.out⟩, ⟨by repeat (first | (with_reducible first | exact HB.out | apply below_alloc | apply pw_below_drewN | apply below_drew1 | refine below_set ?_ (IsS86.ge HI739.out) | refine below_set ?_ GE750.out | refine below_set ?_ GE751.out) | exact HB.out)⟩⟩
    ·go_meet
     case rel => exact ⟨_, ((t745 == 0)), (by first | rfl | (simp; done) | (simp [*]; done)), H', ⟨by first | omega | exact Nat.le_refl _⟩, ⟨by (with_reducible repeat (first | apply Kd.R_alloc | apply Kd.R_drewN | apply Kd.R_drew)); exact Kd.R_mono (Kd.R_far (p := ⟨gb751, 1, none⟩) (Kd.R_far (p := ⟨gb751, 0, none⟩) (Kd.R_far (p := ⟨gb750, 1, none⟩) (Kd.R_far (p := ⟨gb750, 0, none⟩) (Kd.R_types (Kd.R_types HO743.out BK750.out (by decide)) BK751.out (by decide)) (fun _ hk => hk.1.2) (.int .i64 t740)) (fun _ hk => hk.1.2) (.slice Ao19 t741.length co19)) (fun _ hk => hk.2) (.int .i64 t745)) (fun _ hk => hk.2) (.slice Ao22 t746.length co22)) (fun _ hk => hk.1.1.2)⟩, ⟨by (with_reducible repeat (first | apply Kd.R_alloc | apply Kd.R_drewN | apply Kd.R_drew)); exact Kd.R_mono (Kd.R_far (p := ⟨gb751, 1, none⟩) (Kd.R_far (p := ⟨gb751, 0, none⟩) (Kd.R_far (p := ⟨gb750, 1, none⟩) (Kd.R_far (p := ⟨gb750, 0, none⟩) (Kd.R_types (Kd.R_types HO748.out BK750.out (by decide)) BK751.out (by decide)) (fun _ hk => hk.1.2) (.int .i64 t740)) (fun _ hk => hk.1.2) (.slice Ao19 t741.length co19)) (fun _ hk => hk.2) (.int .i64 t745)) (fun _ hk => hk.2) (.slice Ao22 t746.length co22)) (fun _ hk => hk.1.1.2)⟩, ⟨by (with_reducible repeat (first | refine blk_drewN ?_ _ | refine blk_drew ?_ | refine blk_alloc ?_ _)); refine blk_far ?_ NB750_751.out _; (with_reducible repeat (first | refine blk_drewN ?_ _ | refine blk_drew ?_ | refine blk_alloc ?_ _)); refine blk_far ?_ NB750_751.out _; (with_reducible repeat (first | refine blk_drewN ?_ _ | refine blk_drew ?_ | refine blk_alloc ?_ _)); refine blk_put (cs := #[.int .i64 t740, .slice none 0 0]) ?_ 1 _ rfl; (with_reducible repeat (first | refine blk_drewN ?_ _ | refine blk_drew ?_ | refine blk_alloc ?_ _)); refine blk_put (cs := #[.int .i64 0, .slice none 0 0]) ?_ 0 _ rfl; (with_reducible repeat (first | refine blk_drewN ?_ _ | refine blk_drew ?_ | refine blk_alloc ?_ _)); exact BK750.out⟩, ⟨by (with_reducible repeat (first | refine blk_drewN ?_ _ | refine blk_drew ?_ | refine blk_alloc ?_ _)); refine blk_put (cs := #[.int .i64 t745, .slice none 0 0]) ?_ 1 _ rfl; (with_reducible repeat (first | refine blk_drewN ?_ _ | refine blk_drew ?_ | refine blk_alloc ?_ _)); refine blk_put (cs := #[.int .i64 0, .slice none 0 0]) ?_ 0 _ rfl; (with_reducible repeat (first | refine blk_drewN ?_ _ | refine blk_drew ?_ | refine blk_alloc ?_ _)); refine blk_far ?_ NB751_750.out _; (with_reducible repeat (first | refine blk_drewN ?_ _ | refine blk_drew ?_ | refine blk_alloc ?_ _)); refine blk_far ?_ NB751_750.out _; (with_reducible repeat (first | refine blk_drewN ?_ _ | refine blk_drew ?_ | refine blk_alloc ?_ _)); exact BK751.out⟩, ⟨by repeat (first | (with_reducible first | exact HB.out | apply below_alloc | apply pw_below_drewN | apply below_drew1 | refine below_set ?_ (IsS86.ge HI739.out) | refine below_set ?_ GE750.out | refine below_set ?_ GE751.out) | exact HB.out)⟩⟩
   case rest =>
    clear HC9
    try clear c1
    try clear c2
    try clear p2
    try clear c3
    try clear c5
    try clear c10
    try clear c13
    try clear c14
    try clear c16
    try clear c17
    try clear c20
    try clear c23
    try clear c23b0
    try clear c23b1
    try clear c24
    try clear c25
    try clear c27
    try clear c28
    try clear c30
    try clear hcz18_0
    try clear hcz18_1
    try clear hcz21_0
    try clear hcz21_1
    try clear hcz26_0
    try clear hcz26_1
    try clear hcz29_0
    try clear hcz29_1
    try clear hcz31_0
    try clear hcz31_1
    try clear hfz18_0
    try clear hfz18_1
    try clear hfz21_0
    try clear hfz21_1
    try clear hfz26_0
    try clear hfz26_1
    try clear hfz29_0
    try clear hfz29_1
    try clear hfz31_0
    try clear hfz31_1
    obtain ⟨kq, x37_8, rfl, HA, HJ8, HO_751001, HO_752001, BK750, BK751, HB⟩ := hcut
    cases kq with
    | zero => exact absurd HA.out (by simp [storagebarterlaw08_ManifestChanges.j0])
    | succ kj8 =>
     have H := HA.out
     clear HA
     simp only [storagebarterlaw08_ManifestChanges.j0] at H
     by_cases c32 : x37_8 = true
     ·subst c32
      rw [if_pos rfl] at H
      obtain rfl := Option.some.inj H
      go_wp2
      go_ret
      exact ⟨by first | rfl | (simp [errW_none, errW_some] <;> rfl) | (simp [*, errW_none, errW_some] <;> rfl), by repeat (first | (with_reducible first | exact HB.out | apply below_alloc | apply pw_below_drewN | apply below_drew1 | refine below_set ?_ GE750.out | refine below_set ?_ GE751.out) | exact HB.out)⟩
     ·replace c32 := Bool.eq_false_iff.mpr c32
      subst c32
      rw [if_neg (show ¬ (false = true) by decide)] at H
      replace H := Option.bind_eq_some_iff.mp H
      obtain ⟨⟨t752, t755, t758⟩, A330, H⟩ := H
      try dsimp only at H
      have A33 := Aside0.mk A330
      clear A330
      replace H := Option.bind_eq_some_iff.mp H
      obtain ⟨⟨t759, t762, t765⟩, A340, H⟩ := H
      try dsimp only at H
      have A34 := Aside0.mk A340
      clear A340
      replace H := Option.bind_eq_some_iff.mp H
      obtain ⟨⟨t766, t769, t772⟩, A350, H⟩ := H
      try dsimp only at H
      have A35 := Aside0.mk A350
      clear A350
      have HC36 := Aside0.mk H
      clear H
      have hnb37 := NB750_751.out
      have hnc37 := NB751_750.out
      have hcz38_0 : wc.cell? ⟨gb750, 0, none⟩ = some (.int .i64 t740) := (blk_cell BK750.out 0).trans rfl
      have hcz38_1 : wc.cell? ⟨gb750, 1, none⟩ = some (.slice Ao19 t741.length co19) := (blk_cell BK750.out 1).trans rfl
      have hfz38_0 := blk_frozen BK750.out 0
      have hfz38_1 := blk_frozen BK750.out 1
      have hcz39_0 : wc.cell? ⟨gb751, 0, none⟩ = some (.int .i64 t745) := (blk_cell BK751.out 0).trans rfl
      have hcz39_1 : wc.cell? ⟨gb751, 1, none⟩ = some (.slice Ao22 t746.length co22) := (blk_cell BK751.out 1).trans rfl
      have hfz39_0 := blk_frozen BK751.out 0
      have hfz39_1 := blk_frozen BK751.out 1
      go_upto_region 12 with (first | ((with_reducible refine gate_callee (f := 47) rfl ?_); refine goesL_ (some 41) rfl rfl Try.func47 (by kernel_rfl) rfl #[.agg #[.int .i64 t740, .slice Ao19 t741.length co19], .agg #[.int .i64 t745, .slice Ao22 t746.length co22]] rfl (by (try simp only [List.map_toArray, List.map_cons, List.map_nil]); first | done | rfl | (simp only [List.length_drop, List.length_take]; rfl)) ?_; (with_reducible refine (manifest_Change.calls kj8 t740 _ _ t741 t745 _ _ t746 t752 t755 t758 _ ?side1 ?side2 ?side3 ?side4 A33.out).mono ?_); (case side1 => repeat (first | exact (Kd.R_reads' HO_751001.out).2.2 | (with_reducible refine Kd.C_alloc ?_ _) | (with_reducible refine Kd.C_drewN ?_ _) | (with_reducible refine Kd.C_drew ?_))); (case side2 => exact (Kd.R_reads' HO_751001.out).2.1); (case side3 => repeat (first | exact (Kd.R_reads' HO_752001.out).2.2 | (with_reducible refine Kd.C_alloc ?_ _) | (with_reducible refine Kd.C_drewN ?_ _) | (with_reducible refine Kd.C_drew ?_))); (case side4 => exact (Kd.R_reads' HO_752001.out).2.1); rintro e w40 ⟨v753, v756, rfl, ho0, ho1, hb⟩; refine ⟨_, rfl, ?_⟩; have n0_ := Aside0.mk (Kd.R_mono (Kd.R_told (Kd.R_told (Kd.R_old (by (with_reducible repeat (first | apply Kd.R_alloc | apply Kd.R_drewN | apply Kd.R_drew)); exact HO_751001.out) hb) (Kd.R_base ho0)) (Kd.R_base ho1)) (fun _ h_ => h_.1)); have n1_ := Aside0.mk (Kd.R_mono (Kd.R_told (Kd.R_told (Kd.R_old (by (with_reducible repeat (first | apply Kd.R_alloc | apply Kd.R_drewN | apply Kd.R_drew)); exact HO_752001.out) hb) (Kd.R_base ho0)) (Kd.R_base ho1)) (fun _ h_ => h_.1)); have n2_ := Aside0.mk (Kd.R_lower (Kd.R_new' (Kd.R_new' ho0 (Kd.R_lt (by (with_reducible repeat (first | apply Kd.R_alloc | apply Kd.R_drewN | apply Kd.R_drew)); exact HO_751001.out))) (Kd.R_lt (by (with_reducible repeat (first | apply Kd.R_alloc | apply Kd.R_drewN | apply Kd.R_drew)); exact HO_752001.out))) (below_size (by repeat (first | (with_reducible first | exact HB.out | apply below_alloc | apply pw_below_drewN | apply below_drew1 | refine below_set ?_ GE750.out | refine below_set ?_ GE751.out) | exact HB.out)))); have n3_ := Aside0.mk (Kd.R_lower (Kd.R_new' (Kd.R_new' ho1 (Kd.R_lt (by (with_reducible repeat (first | apply Kd.R_alloc | apply Kd.R_drewN | apply Kd.R_drew)); exact HO_751001.out))) (Kd.R_lt (by (with_reducible repeat (first | apply Kd.R_alloc | apply Kd.R_drewN | apply Kd.R_drew)); exact HO_752001.out))) (below_size (by repeat (first | (with_reducible first | exact HB.out | apply below_alloc | apply pw_below_drewN | apply below_drew1 | refine below_set ?_ GE750.out | refine below_set ?_ GE751.out) | exact HB.out)))); have n4_ := Aside0.mk (blk_below (g := gb750) (o := .cells #[.int .i64 t740, .slice Ao19 t741.length co19] 32 (0, 0)) (by (with_reducible repeat (first | refine blk_drewN ?_ _ | refine blk_drew ?_ | refine blk_alloc ?_ _)); exact BK750.out) hb); have n5_ := Aside0.mk (blk_below (g := gb751) (o := .cells #[.int .i64 t745, .slice Ao22 t746.length co22] 32 (0, 0)) (by (with_reducible repeat (first | refine blk_drewN ?_ _ | refine blk_drew ?_ | refine blk_alloc ?_ _)); exact BK751.out) hb); have n6_ := Aside0.mk (below_step (by repeat (first | (with_reducible first | exact HB.out | apply below_alloc | apply pw_below_drewN | apply below_drew1 | refine below_set ?_ GE750.out | refine below_set ?_ GE751.out) | exact HB.out)) hb); clear HO_751001; clear HO_752001; clear BK750; clear BK751; clear HB; have HO_751001 := n0_; have HO_752001 := n1_; have HO754 := n2_; have HO757 := n3_; have BK750 := n4_; have BK751 := n5_; have HB := n6_; clear n0_ n1_ n2_ n3_ n4_ n5_ n6_; (try clear hb); (try clear hb2); (try clear hk); (try clear hi); (try clear ho0); (try clear ho1); have hcz41_0 : w40.cell? ⟨gb751, 0, none⟩ = some (.int .i64 t745) := (blk_cell BK751.out 0).trans rfl; have hcz41_1 : w40.cell? ⟨gb751, 1, none⟩ = some (.slice Ao22 t746.length co22) := (blk_cell BK751.out 1).trans rfl; have hfz41_0 := blk_frozen BK751.out 0; have hfz41_1 := blk_frozen BK751.out 1; have hcz42_0 : w40.cell? ⟨gb750, 0, none⟩ = some (.int .i64 t740) := (blk_cell BK750.out 0).trans rfl; have hcz42_1 : w40.cell? ⟨gb750, 1, none⟩ = some (.slice Ao19 t741.length co19) := (blk_cell BK750.out 1).trans rfl; have hfz42_0 := blk_frozen BK750.out 0; have hfz42_1 := blk_frozen BK750.out 1) | ((with_reducible refine gate_callee (f := 47) rfl ?_); refine goesL_ (some 48) rfl rfl Try.func47 (by kernel_rfl) rfl #[.agg #[.int .i64 t745, .slice Ao22 t746.length co22], .agg #[.int .i64 t740, .slice Ao19 t741.length co19]] rfl (by (try simp only [List.map_toArray, List.map_cons, List.map_nil]); first | done | rfl | (simp only [List.length_drop, List.length_take]; rfl)) ?_; (with_reducible refine (manifest_Change.calls kj8 t745 _ _ t746 t740 _ _ t741 t759 t762 t765 _ ?side1 ?side2 ?side3 ?side4 A34.out).mono ?_); (case side1 => repeat (first | exact (Kd.R_reads' HO_752001.out).2.2 | (with_reducible refine Kd.C_alloc ?_ _) | (with_reducible refine Kd.C_drewN ?_ _) | (with_reducible refine Kd.C_drew ?_))); (case side2 => exact (Kd.R_reads' HO_752001.out).2.1); (case side3 => repeat (first | exact (Kd.R_reads' HO_751001.out).2.2 | (with_reducible refine Kd.C_alloc ?_ _) | (with_reducible refine Kd.C_drewN ?_ _) | (with_reducible refine Kd.C_drew ?_))); (case side4 => exact (Kd.R_reads' HO_751001.out).2.1); rintro e w43 ⟨v760, v763, rfl, ho0, ho1, hb⟩; refine ⟨_, rfl, ?_⟩; have n0_ := Aside0.mk (Kd.R_mono (Kd.R_told (Kd.R_told (Kd.R_old (by (with_reducible repeat (first | apply Kd.R_alloc | apply Kd.R_drewN | apply Kd.R_drew)); exact HO_751001.out) hb) (Kd.R_base ho0)) (Kd.R_base ho1)) (fun _ h_ => h_.1)); have n1_ := Aside0.mk (Kd.R_mono (Kd.R_told (Kd.R_told (Kd.R_old (by (with_reducible repeat (first | apply Kd.R_alloc | apply Kd.R_drewN | apply Kd.R_drew)); exact HO_752001.out) hb) (Kd.R_base ho0)) (Kd.R_base ho1)) (fun _ h_ => h_.1)); have n2_ := Aside0.mk (Kd.R_mono (Kd.R_told (Kd.R_told (Kd.R_old (by (with_reducible repeat (first | apply Kd.R_alloc | apply Kd.R_drewN | apply Kd.R_drew)); exact HO754.out) hb) (Kd.R_base ho0)) (Kd.R_base ho1)) (fun _ h_ => h_.1)); have n3_ := Aside0.mk (Kd.R_mono (Kd.R_told (Kd.R_told (Kd.R_old (by (with_reducible repeat (first | apply Kd.R_alloc | apply Kd.R_drewN | apply Kd.R_drew)); exact HO757.out) hb) (Kd.R_base ho0)) (Kd.R_base ho1)) (fun _ h_ => h_.1)); have n4_ := Aside0.mk (Kd.R_lower (Kd.R_new' (Kd.R_new' (Kd.R_new' (Kd.R_new' ho0 (Kd.R_lt (by (with_reducible repeat (first | apply Kd.R_alloc | apply Kd.R_drewN | apply Kd.R_drew)); exact HO_751001.out))) (Kd.R_lt (by (with_reducible repeat (first | apply Kd.R_alloc | apply Kd.R_drewN | apply Kd.R_drew)); exact HO_752001.out))) (Kd.R_lt (by (with_reducible repeat (first | apply Kd.R_alloc | apply Kd.R_drewN | apply Kd.R_drew)); exact HO754.out))) (Kd.R_lt (by (with_reducible repeat (first | apply Kd.R_alloc | apply Kd.R_drewN | apply Kd.R_drew)); exact HO757.out))) (below_size (by repeat (first | (with_reducible first | exact HB.out | apply below_alloc | apply pw_below_drewN | apply below_drew1 | refine below_set ?_ GE750.out | refine below_set ?_ GE751.out) | exact HB.out)))); have n5_ := Aside0.mk (Kd.R_lower (Kd.R_new' (Kd.R_new' (Kd.R_new' (Kd.R_new' ho1 (Kd.R_lt (by (with_reducible repeat (first | apply Kd.R_alloc | apply Kd.R_drewN | apply Kd.R_drew)); exact HO_751001.out))) (Kd.R_lt (by (with_reducible repeat (first | apply Kd.R_alloc | apply Kd.R_drewN | apply Kd.R_drew)); exact HO_752001.out))) (Kd.R_lt (by (with_reducible repeat (first | apply Kd.R_alloc | apply Kd.R_drewN | apply Kd.R_drew)); exact HO754.out))) (Kd.R_lt (by (with_reducible repeat (first | apply Kd.R_alloc | apply Kd.R_drewN | apply Kd.R_drew)); exact HO757.out))) (below_size (by repeat (first | (with_reducible first | exact HB.out | apply below_alloc | apply pw_below_drewN | apply below_drew1 | refine below_set ?_ GE750.out | refine below_set ?_ GE751.out) | exact HB.out)))); have n6_ := Aside0.mk (blk_below (g := gb750) (o := .cells #[.int .i64 t740, .slice Ao19 t741.length co19] 32 (0, 0)) (by (with_reducible repeat (first | refine blk_drewN ?_ _ | refine blk_drew ?_ | refine blk_alloc ?_ _)); exact BK750.out) hb); have n7_ := Aside0.mk (blk_below (g := gb751) (o := .cells #[.int .i64 t745, .slice Ao22 t746.length co22] 32 (0, 0)) (by (with_reducible repeat (first | refine blk_drewN ?_ _ | refine blk_drew ?_ | refine blk_alloc ?_ _)); exact BK751.out) hb); have n8_ := Aside0.mk (below_step (by repeat (first | (with_reducible first | exact HB.out | apply below_alloc | apply pw_below_drewN | apply below_drew1 | refine below_set ?_ GE750.out | refine below_set ?_ GE751.out) | exact HB.out)) hb); clear HO_751001; clear HO_752001; clear HO754; clear HO757; clear BK750; clear BK751; clear HB; have HO_751001 := n0_; have HO_752001 := n1_; have HO754 := n2_; have HO757 := n3_; have HO761 := n4_; have HO764 := n5_; have BK750 := n6_; have BK751 := n7_; have HB := n8_; clear n0_ n1_ n2_ n3_ n4_ n5_ n6_ n7_ n8_; (try clear hb); (try clear hb2); (try clear hk); (try clear hi); (try clear ho0); (try clear ho1); have hcz44_0 : w43.cell? ⟨gb750, 0, none⟩ = some (.int .i64 t740) := (blk_cell BK750.out 0).trans rfl; have hcz44_1 : w43.cell? ⟨gb750, 1, none⟩ = some (.slice Ao19 t741.length co19) := (blk_cell BK750.out 1).trans rfl; have hfz44_0 := blk_frozen BK750.out 0; have hfz44_1 := blk_frozen BK750.out 1) | ((with_reducible refine gate_callee (f := 47) rfl ?_); refine goesL_ (some 55) rfl rfl Try.func47 (by kernel_rfl) rfl #[.agg #[.int .i64 t740, .slice Ao19 t741.length co19], .agg #[.int .i64 t740, .slice Ao19 t741.length co19]] rfl (by (try simp only [List.map_toArray, List.map_cons, List.map_nil]); first | done | rfl | (simp only [List.length_drop, List.length_take]; rfl)) ?_; (with_reducible refine (manifest_Change.calls kj8 t740 _ _ t741 t740 _ _ t741 t766 t769 t772 _ ?side1 ?side2 ?side3 ?side4 A35.out).mono ?_); (case side1 => repeat (first | exact (Kd.R_reads' HO_751001.out).2.2 | (with_reducible refine Kd.C_alloc ?_ _) | (with_reducible refine Kd.C_drewN ?_ _) | (with_reducible refine Kd.C_drew ?_))); (case side2 => exact (Kd.R_reads' HO_751001.out).2.1); (case side3 => repeat (first | exact (Kd.R_reads' HO_751001.out).2.2 | (with_reducible refine Kd.C_alloc ?_ _) | (with_reducible refine Kd.C_drewN ?_ _) | (with_reducible refine Kd.C_drew ?_))); (case side4 => exact (Kd.R_reads' HO_751001.out).2.1); rintro e w45 ⟨v767, v770, rfl, ho0, ho1, hb⟩; refine ⟨_, rfl, ?_⟩; have n0_ := Aside0.mk (Kd.R_mono (Kd.R_told (Kd.R_told (Kd.R_old (by (with_reducible repeat (first | apply Kd.R_alloc | apply Kd.R_drewN | apply Kd.R_drew)); exact HO_751001.out) hb) (Kd.R_base ho0)) (Kd.R_base ho1)) (fun _ h_ => h_.1)); have n1_ := Aside0.mk (Kd.R_mono (Kd.R_told (Kd.R_told (Kd.R_old (by (with_reducible repeat (first | apply Kd.R_alloc | apply Kd.R_drewN | apply Kd.R_drew)); exact HO_752001.out) hb) (Kd.R_base ho0)) (Kd.R_base ho1)) (fun _ h_ => h_.1)); have n2_ := Aside0.mk (Kd.R_mono (Kd.R_told (Kd.R_told (Kd.R_old (by (with_reducible repeat (first | apply Kd.R_alloc | apply Kd.R_drewN | apply Kd.R_drew)); exact HO754.out) hb) (Kd.R_base ho0)) (Kd.R_base ho1)) (fun _ h_ => h_.1)); have n3_ := Aside0.mk (Kd.R_mono (Kd.R_told (Kd.R_told (Kd.R_old (by (with_reducible repeat (first | apply Kd.R_alloc | apply Kd.R_drewN | apply Kd.R_drew)); exact HO757.out) hb) (Kd.R_base ho0)) (Kd.R_base ho1)) (fun _ h_ => h_.1)); have n4_ := Aside0.mk (Kd.R_mono (Kd.R_told (Kd.R_told (Kd.R_old (by (with_reducible repeat (first | apply Kd.R_alloc | apply Kd.R_drewN | apply Kd.R_drew)); exact HO761.out) hb) (Kd.R_base ho0)) (Kd.R_base ho1)) (fun _ h_ => h_.1)); have n5_ := Aside0.mk (Kd.R_mono (Kd.R_told (Kd.R_told (Kd.R_old (by (with_reducible repeat (first | apply Kd.R_alloc | apply Kd.R_drewN | apply Kd.R_drew)); exact HO764.out) hb) (Kd.R_base ho0)) (Kd.R_base ho1)) (fun _ h_ => h_.1)); have n6_ := Aside0.mk (Kd.R_lower (Kd.R_new' (Kd.R_new' (Kd.R_new' (Kd.R_new' (Kd.R_new' (Kd.R_new' ho0 (Kd.R_lt (by (with_reducible repeat (first | apply Kd.R_alloc | apply Kd.R_drewN | apply Kd.R_drew)); exact HO_751001.out))) (Kd.R_lt (by (with_reducible repeat (first | apply Kd.R_alloc | apply Kd.R_drewN | apply Kd.R_drew)); exact HO_752001.out))) (Kd.R_lt (by (with_reducible repeat (first | apply Kd.R_alloc | apply Kd.R_drewN | apply Kd.R_drew)); exact HO754.out))) (Kd.R_lt (by (with_reducible repeat (first | apply Kd.R_alloc | apply Kd.R_drewN | apply Kd.R_drew)); exact HO757.out))) (Kd.R_lt (by (with_reducible repeat (first | apply Kd.R_alloc | apply Kd.R_drewN | apply Kd.R_drew)); exact HO761.out))) (Kd.R_lt (by (with_reducible repeat (first | apply Kd.R_alloc | apply Kd.R_drewN | apply Kd.R_drew)); exact HO764.out))) (below_size (by repeat (first | (with_reducible first | exact HB.out | apply below_alloc | apply pw_below_drewN | apply below_drew1 | refine below_set ?_ GE750.out | refine below_set ?_ GE751.out) | exact HB.out)))); have n7_ := Aside0.mk (Kd.R_lower (Kd.R_new' (Kd.R_new' (Kd.R_new' (Kd.R_new' (Kd.R_new' (Kd.R_new' ho1 (Kd.R_lt (by (with_reducible repeat (first | apply Kd.R_alloc | apply Kd.R_drewN | apply Kd.R_drew)); exact HO_751001.out))) (Kd.R_lt (by (with_reducible repeat (first | apply Kd.R_alloc | apply Kd.R_drewN | apply Kd.R_drew)); exact HO_752001.out))) (Kd.R_lt (by (with_reducible repeat (first | apply Kd.R_alloc | apply Kd.R_drewN | apply Kd.R_drew)); exact HO754.out))) (Kd.R_lt (by (with_reducible repeat (first | apply Kd.R_alloc | apply Kd.R_drewN | apply Kd.R_drew)); exact HO757.out))) (Kd.R_lt (by (with_reducible repeat (first | apply Kd.R_alloc | apply Kd.R_drewN | apply Kd.R_drew)); exact HO761.out))) (Kd.R_lt (by (with_reducible repeat (first | apply Kd.R_alloc | apply Kd.R_drewN | apply Kd.R_drew)); exact HO764.out))) (below_size (by repeat (first | (with_reducible first | exact HB.out | apply below_alloc | apply pw_below_drewN | apply below_drew1 | refine below_set ?_ GE750.out | refine below_set ?_ GE751.out) | exact HB.out)))); have n8_ := Aside0.mk (blk_below (g := gb750) (o := .cells #[.int .i64 t740, .slice Ao19 t741.length co19] 32 (0, 0)) (by (with_reducible repeat (first | refine blk_drewN ?_ _ | refine blk_drew ?_ | refine blk_alloc ?_ _)); exact BK750.out) hb); have n9_ := Aside0.mk (blk_below (g := gb751) (o := .cells #[.int .i64 t745, .slice Ao22 t746.length co22] 32 (0, 0)) (by (with_reducible repeat (first | refine blk_drewN ?_ _ | refine blk_drew ?_ | refine blk_alloc ?_ _)); exact BK751.out) hb); have n10_ := Aside0.mk (below_step (by repeat (first | (with_reducible first | exact HB.out | apply below_alloc | apply pw_below_drewN | apply below_drew1 | refine below_set ?_ GE750.out | refine below_set ?_ GE751.out) | exact HB.out)) hb); clear HO_751001; clear HO_752001; clear HO754; clear HO757; clear HO761; clear HO764; clear BK750; clear BK751; clear HB; have HO_751001 := n0_; have HO_752001 := n1_; have HO754 := n2_; have HO757 := n3_; have HO761 := n4_; have HO764 := n5_; have HO768 := n6_; have HO771 := n7_; have BK750 := n8_; have BK751 := n9_; have HB := n10_; clear n0_ n1_ n2_ n3_ n4_ n5_ n6_ n7_ n8_ n9_ n10_; (try clear hb); (try clear hb2); (try clear hk); (try clear hi); (try clear ho0); (try clear ho1)))
      (try simp only [Act.put, Sa, Sz, Ss])
      go_cut [88] (fun v88 wc => ∃ (kq : Nat) (x88_35 : Bool), v88 = .bool x88_35 ∧ Aside0 (storagebarterlaw08_ManifestChanges.j1 kq t752 x88_35 t740 t741 t745 t746 = some r) ∧ Aside0 (kq ≤ kj8) ∧ Aside0 (Kd.R k78 78 wc w.heap.size (fun k_ => some k_ ≠ ((.slice Ao19 t741.length co19) : Value).ownBlock ∧ some k_ ≠ ((.slice Ao22 t746.length co22) : Value).ownBlock) v753 t752) ∧ Aside0 (Kd.R k78 78 wc w.heap.size (fun k_ => some k_ ≠ (v753 : Value).ownBlock ∧ some k_ ≠ ((.slice Ao22 t746.length co22) : Value).ownBlock) (.slice Ao19 t741.length co19) t741) ∧ Aside0 (Kd.R k78 78 wc w.heap.size (fun k_ => some k_ ≠ (v753 : Value).ownBlock ∧ some k_ ≠ ((.slice Ao19 t741.length co19) : Value).ownBlock) (.slice Ao22 t746.length co22) t746) ∧ Aside0 (wc.heap[gb750]? = some (.cells #[.int .i64 t740, (.slice Ao19 t741.length co19)] 32 (0, 0))) ∧ Aside0 (wc.heap[gb751]? = some (.cells #[.int .i64 t745, (.slice Ao22 t746.length co22)] 32 (0, 0))) ∧ Aside0 (Below w.heap.size w wc))
      case first =>
       have H := HC36.out
       clear HC36
       by_cases c46 : t758 = 0
       ·rw [if_pos c46] at H
        have c46b0 : (t758 == 0) = true := beq_iff_eq.mpr c46
        have c46b1 : (t758 != 0) = false := bne_eq_false_iff_eq.mpr c46
        clear c46
        (first | rw [c46b0] | (simp only [i64_w, i32_w]; rw [c46b0]) | skip)
        by_cases c47 : t765 = 0
        ·rw [if_pos c47] at H
         have c47b0 : (t765 == 0) = true := beq_iff_eq.mpr c47
         have c47b1 : (t765 != 0) = false := bne_eq_false_iff_eq.mpr c47
         clear c47
         by_cases c48 : t772 = 0
         ·rw [if_pos c48] at H
          have c48b0 : (t772 == 0) = true := beq_iff_eq.mpr c48
          have c48b1 : (t772 != 0) = false := bne_eq_false_iff_eq.mpr c48
          clear c48
          replace H := Option.bind_eq_some_iff.mp H
          obtain ⟨t773, A490, H⟩ := H
          try dsimp only at H
          have A49 := Aside0.mk A490
          clear A490
          by_cases c50 : t773 = true
          ·subst c50
           rw [if_pos rfl] at H
           replace H := Option.bind_eq_some_iff.mp H
           obtain ⟨t774, A510, H⟩ := H
           try dsimp only at H
           have A51 := Aside0.mk A510
           clear A510
           by_cases c52 : t774 = true
           ·subst c52
            rw [if_pos rfl] at H
            have H' := Aside0.mk H
            clear H
            obtain ⟨Ao53, co53, eo53⟩ := Kd.R_slice HO754.out
            subst eo53
            obtain ⟨Ao54, co54, eo54⟩ := Kd.R_slice HO764.out
            subst eo54
            go_wp2_with (first | (go_at_call 48; (with_reducible refine (storagebarterref08_SameNames.calls kj8 _ _ t752 _ _ t762 true _ ?side1 ?side2 ?side3 ?side4 A49.out).mono ?_); (case side1 => repeat (first | exact (Kd.R_reads' HO754.out).2.2 | (with_reducible refine Kd.C_alloc ?_ _) | (with_reducible refine Kd.C_drewN ?_ _) | (with_reducible refine Kd.C_drew ?_))); (case side2 => exact (Kd.R_reads' HO754.out).2.1); (case side3 => repeat (first | exact (Kd.R_reads' HO764.out).2.2 | (with_reducible refine Kd.C_alloc ?_ _) | (with_reducible refine Kd.C_drewN ?_ _) | (with_reducible refine Kd.C_drew ?_))); (case side4 => exact (Kd.R_reads' HO764.out).2.1); rintro e w' ⟨rfl, ⟨nd, rfl⟩⟩; (try (rw [drewN_self w45]; generalize hq_ : World.drewN w45 _ = w45; have n0_ : Aside0 (Kd.R k78 78 w45 w.heap.size (fun k_ => some k_ ≠ (v756 : Value).ownBlock ∧ some k_ ≠ (v760 : Value).ownBlock ∧ some k_ ≠ (.slice Ao54 t762.length co54 : Value).ownBlock ∧ some k_ ≠ (v767 : Value).ownBlock ∧ some k_ ≠ (v770 : Value).ownBlock ∧ some k_ ≠ (.slice Ao19 t741.length co19 : Value).ownBlock ∧ some k_ ≠ (.slice Ao22 t746.length co22 : Value).ownBlock) (.slice Ao53 t752.length co53) t752) := ⟨by rw [← hq_]; exact (by (with_reducible repeat (first | apply Kd.R_alloc | apply Kd.R_drewN | apply Kd.R_drew)); exact Kd.R_mono HO754.out (fun _ hk => ⟨hk.1.1.1.1.1.1, ⟨hk.1.1.1.2, ⟨hk.1.1.2, ⟨hk.1.2, ⟨hk.2, ⟨hk.1.1.1.1.1.2, hk.1.1.1.1.2⟩⟩⟩⟩⟩⟩))⟩; have n1_ : Aside0 (Kd.R k78 78 w45 w.heap.size (fun k_ => some k_ ≠ (.slice Ao53 t752.length co53 : Value).ownBlock ∧ some k_ ≠ (v760 : Value).ownBlock ∧ some k_ ≠ (.slice Ao54 t762.length co54 : Value).ownBlock ∧ some k_ ≠ (v767 : Value).ownBlock ∧ some k_ ≠ (v770 : Value).ownBlock ∧ some k_ ≠ (.slice Ao19 t741.length co19 : Value).ownBlock ∧ some k_ ≠ (.slice Ao22 t746.length co22 : Value).ownBlock) v756 t755) := ⟨by rw [← hq_]; exact (by (with_reducible repeat (first | apply Kd.R_alloc | apply Kd.R_drewN | apply Kd.R_drew)); exact Kd.R_mono HO757.out (fun _ hk => ⟨hk.1.1.1.1.1.1, ⟨hk.1.1.1.2, ⟨hk.1.1.2, ⟨hk.1.2, ⟨hk.2, ⟨hk.1.1.1.1.1.2, hk.1.1.1.1.2⟩⟩⟩⟩⟩⟩))⟩; have n2_ : Aside0 (Kd.R k78 78 w45 w.heap.size (fun k_ => some k_ ≠ (.slice Ao53 t752.length co53 : Value).ownBlock ∧ some k_ ≠ (v756 : Value).ownBlock ∧ some k_ ≠ (.slice Ao54 t762.length co54 : Value).ownBlock ∧ some k_ ≠ (v767 : Value).ownBlock ∧ some k_ ≠ (v770 : Value).ownBlock ∧ some k_ ≠ (.slice Ao19 t741.length co19 : Value).ownBlock ∧ some k_ ≠ (.slice Ao22 t746.length co22 : Value).ownBlock) v760 t759) := ⟨by rw [← hq_]; exact (by (with_reducible repeat (first | apply Kd.R_alloc | apply Kd.R_drewN | apply Kd.R_drew)); exact Kd.R_mono HO761.out (fun _ hk => ⟨hk.1.1.1.2, ⟨hk.1.1.2, ⟨hk.1.1.1.1.1.1, ⟨hk.1.2, ⟨hk.2, ⟨hk.1.1.1.1.1.2, hk.1.1.1.1.2⟩⟩⟩⟩⟩⟩))⟩; have n3_ : Aside0 (Kd.R k78 78 w45 w.heap.size (fun k_ => some k_ ≠ (.slice Ao53 t752.length co53 : Value).ownBlock ∧ some k_ ≠ (v756 : Value).ownBlock ∧ some k_ ≠ (v760 : Value).ownBlock ∧ some k_ ≠ (v767 : Value).ownBlock ∧ some k_ ≠ (v770 : Value).ownBlock ∧ some k_ ≠ (.slice Ao19 t741.length co19 : Value).ownBlock ∧ some k_ ≠ (.slice Ao22 t746.length co22 : Value).ownBlock) (.slice Ao54 t762.length co54) t762) := ⟨by rw [← hq_]; exact (by (with_reducible repeat (first | apply Kd.R_alloc | apply Kd.R_drewN | apply Kd.R_drew)); exact Kd.R_mono HO764.out (fun _ hk => ⟨hk.1.1.1.2, ⟨hk.1.1.2, ⟨hk.1.1.1.1.1.1, ⟨hk.1.2, ⟨hk.2, ⟨hk.1.1.1.1.1.2, hk.1.1.1.1.2⟩⟩⟩⟩⟩⟩))⟩; have n4_ : Aside0 (Kd.R k78 78 w45 w.heap.size (fun k_ => some k_ ≠ (.slice Ao53 t752.length co53 : Value).ownBlock ∧ some k_ ≠ (v756 : Value).ownBlock ∧ some k_ ≠ (v760 : Value).ownBlock ∧ some k_ ≠ (.slice Ao54 t762.length co54 : Value).ownBlock ∧ some k_ ≠ (v770 : Value).ownBlock ∧ some k_ ≠ (.slice Ao19 t741.length co19 : Value).ownBlock ∧ some k_ ≠ (.slice Ao22 t746.length co22 : Value).ownBlock) v767 t766) := ⟨by rw [← hq_]; exact (by (with_reducible repeat (first | apply Kd.R_alloc | apply Kd.R_drewN | apply Kd.R_drew)); exact Kd.R_mono HO768.out (fun _ hk => ⟨hk.1.1.1.2, ⟨hk.1.1.2, ⟨hk.1.2, ⟨hk.2, ⟨hk.1.1.1.1.1.1, ⟨hk.1.1.1.1.1.2, hk.1.1.1.1.2⟩⟩⟩⟩⟩⟩))⟩; have n5_ : Aside0 (Kd.R k78 78 w45 w.heap.size (fun k_ => some k_ ≠ (.slice Ao53 t752.length co53 : Value).ownBlock ∧ some k_ ≠ (v756 : Value).ownBlock ∧ some k_ ≠ (v760 : Value).ownBlock ∧ some k_ ≠ (.slice Ao54 t762.length co54 : Value).ownBlock ∧ some k_ ≠ (v767 : Value).ownBlock ∧ some k_ ≠ (.slice Ao19 t741.length co19 : Value).ownBlock ∧ some k_ ≠ (.slice Ao22 t746.length co22 : Value).ownBlock) v770 t769) := ⟨by rw [← hq_]; exact (by (with_reducible repeat (first | apply Kd.R_alloc | apply Kd.R_drewN | apply Kd.R_drew)); exact Kd.R_mono HO771.out (fun _ hk => ⟨hk.1.1.1.2, ⟨hk.1.1.2, ⟨hk.1.2, ⟨hk.2, ⟨hk.1.1.1.1.1.1, ⟨hk.1.1.1.1.1.2, hk.1.1.1.1.2⟩⟩⟩⟩⟩⟩))⟩; have n6_ : Aside0 (Kd.R k78 78 w45 w.heap.size (fun k_ => some k_ ≠ (.slice Ao53 t752.length co53 : Value).ownBlock ∧ some k_ ≠ (v756 : Value).ownBlock ∧ some k_ ≠ (v760 : Value).ownBlock ∧ some k_ ≠ (.slice Ao54 t762.length co54 : Value).ownBlock ∧ some k_ ≠ (v767 : Value).ownBlock ∧ some k_ ≠ (v770 : Value).ownBlock ∧ some k_ ≠ (.slice Ao22 t746.length co22 : Value).ownBlock) (.slice Ao19 t741.length co19) t741) := ⟨by rw [← hq_]; exact (by (with_reducible repeat (first | apply Kd.R_alloc | apply Kd.R_drewN | apply Kd.R_drew)); exact Kd.R_mono HO_751001.out (fun _ hk => ⟨hk.1.1.1.1.1.2, ⟨hk.1.1.1.1.2, ⟨hk.1.1.1.2, ⟨hk.1.1.2, ⟨hk.1.2, ⟨hk.2, hk.1.1.1.1.1.1⟩⟩⟩⟩⟩⟩))⟩; have n7_ : Aside0 (Kd.R k78 78 w45 w.heap.size (fun k_ => some k_ ≠ (.slice Ao53 t752.length co53 : Value).ownBlock ∧ some k_ ≠ (v756 : Value).ownBlock ∧ some k_ ≠ (v760 : Value).ownBlock ∧ some k_ ≠ (.slice Ao54 t762.length co54 : Value).ownBlock ∧ some k_ ≠ (v767 : Value).ownBlock ∧ some k_ ≠ (v770 : Value).ownBlock ∧ some k_ ≠ (.slice Ao19 t741.length co19 : Value).ownBlock) (.slice Ao22 t746.length co22) t746) := ⟨by rw [← hq_]; exact (by (with_reducible repeat (first | apply Kd.R_alloc | apply Kd.R_drewN | apply Kd.R_drew)); exact Kd.R_mono HO_752001.out (fun _ hk => ⟨hk.1.1.1.1.1.2, ⟨hk.1.1.1.1.2, ⟨hk.1.1.1.2, ⟨hk.1.1.2, ⟨hk.1.2, ⟨hk.2, hk.1.1.1.1.1.1⟩⟩⟩⟩⟩⟩))⟩; have n8_ : Aside0 (w45.heap[gb750]? = some (.cells #[.int .i64 t740, .slice Ao19 t741.length co19] 32 (0, 0))) := ⟨by rw [← hq_]; exact (by (with_reducible repeat (first | refine blk_drewN ?_ _ | refine blk_drew ?_ | refine blk_alloc ?_ _)); exact BK750.out)⟩; have n9_ : Aside0 (w45.heap[gb751]? = some (.cells #[.int .i64 t745, .slice Ao22 t746.length co22] 32 (0, 0))) := ⟨by rw [← hq_]; exact (by (with_reducible repeat (first | refine blk_drewN ?_ _ | refine blk_drew ?_ | refine blk_alloc ?_ _)); exact BK751.out)⟩; have n10_ : Aside0 (Below w.heap.size w w45) := ⟨by rw [← hq_]; exact (by repeat (first | (with_reducible first | exact HB.out | apply below_alloc | apply pw_below_drewN | apply below_drew1 | refine below_set ?_ GE750.out | refine below_set ?_ GE751.out) | exact HB.out))⟩; clear HO754 HO757 HO761 HO764 HO768 HO771 HO_751001 HO_752001 BK750 BK751 HB hq_; have HO754 := n0_; have HO757 := n1_; have HO761 := n2_; have HO764 := n3_; have HO768 := n4_; have HO771 := n5_; have HO_751001 := n6_; have HO_752001 := n7_; have BK750 := n8_; have BK751 := n9_; have HB := n10_; clear n0_ n1_ n2_ n3_ n4_ n5_ n6_ n7_ n8_ n9_ n10_)); obtain ⟨Ao55, co55, eo55⟩ := Kd.R_slice HO757.out; subst eo55; obtain ⟨Ao56, co56, eo56⟩ := Kd.R_slice HO761.out; subst eo56) | (go_at_call 48; (with_reducible refine (storagebarterref08_SameNames.calls kj8 _ _ t755 _ _ t759 true _ ?side1 ?side2 ?side3 ?side4 A51.out).mono ?_); (case side1 => repeat (first | exact (Kd.R_reads' HO757.out).2.2 | (with_reducible refine Kd.C_alloc ?_ _) | (with_reducible refine Kd.C_drewN ?_ _) | (with_reducible refine Kd.C_drew ?_))); (case side2 => exact (Kd.R_reads' HO757.out).2.1); (case side3 => repeat (first | exact (Kd.R_reads' HO761.out).2.2 | (with_reducible refine Kd.C_alloc ?_ _) | (with_reducible refine Kd.C_drewN ?_ _) | (with_reducible refine Kd.C_drew ?_))); (case side4 => exact (Kd.R_reads' HO761.out).2.1); rintro e w' ⟨rfl, ⟨nd, rfl⟩⟩; (try (rw [drewN_self w45]; generalize hq_ : World.drewN w45 _ = w45; have n0_ : Aside0 (Kd.R k78 78 w45 w.heap.size (fun k_ => some k_ ≠ (.slice Ao55 t755.length co55 : Value).ownBlock ∧ some k_ ≠ (.slice Ao56 t759.length co56 : Value).ownBlock ∧ some k_ ≠ (.slice Ao54 t762.length co54 : Value).ownBlock ∧ some k_ ≠ (v767 : Value).ownBlock ∧ some k_ ≠ (v770 : Value).ownBlock ∧ some k_ ≠ (.slice Ao19 t741.length co19 : Value).ownBlock ∧ some k_ ≠ (.slice Ao22 t746.length co22 : Value).ownBlock) (.slice Ao53 t752.length co53) t752) := ⟨by rw [← hq_]; exact (by (with_reducible repeat (first | apply Kd.R_alloc | apply Kd.R_drewN | apply Kd.R_drew)); exact Kd.R_mono HO754.out (fun _ hk => ⟨hk.1.1.1.1.1.1, ⟨hk.1.1.1.2, ⟨hk.1.1.2, ⟨hk.1.2, ⟨hk.2, ⟨hk.1.1.1.1.1.2, hk.1.1.1.1.2⟩⟩⟩⟩⟩⟩))⟩; have n1_ : Aside0 (Kd.R k78 78 w45 w.heap.size (fun k_ => some k_ ≠ (.slice Ao53 t752.length co53 : Value).ownBlock ∧ some k_ ≠ (.slice Ao56 t759.length co56 : Value).ownBlock ∧ some k_ ≠ (.slice Ao54 t762.length co54 : Value).ownBlock ∧ some k_ ≠ (v767 : Value).ownBlock ∧ some k_ ≠ (v770 : Value).ownBlock ∧ some k_ ≠ (.slice Ao19 t741.length co19 : Value).ownBlock ∧ some k_ ≠ (.slice Ao22 t746.length co22 : Value).ownBlock) (.slice Ao55 t755.length co55) t755) := ⟨by rw [← hq_]; exact (by (with_reducible repeat (first | apply Kd.R_alloc | apply Kd.R_drewN | apply Kd.R_drew)); exact Kd.R_mono HO757.out (fun _ hk => ⟨hk.1.1.1.1.1.1, ⟨hk.1.1.1.2, ⟨hk.1.1.2, ⟨hk.1.2, ⟨hk.2, ⟨hk.1.1.1.1.1.2, hk.1.1.1.1.2⟩⟩⟩⟩⟩⟩))⟩; have n2_ : Aside0 (Kd.R k78 78 w45 w.heap.size (fun k_ => some k_ ≠ (.slice Ao53 t752.length co53 : Value).ownBlock ∧ some k_ ≠ (.slice Ao55 t755.length co55 : Value).ownBlock ∧ some k_ ≠ (.slice Ao54 t762.length co54 : Value).ownBlock ∧ some k_ ≠ (v767 : Value).ownBlock ∧ some k_ ≠ (v770 : Value).ownBlock ∧ some k_ ≠ (.slice Ao19 t741.length co19 : Value).ownBlock ∧ some k_ ≠ (.slice Ao22 t746.length co22 : Value).ownBlock) (.slice Ao56 t759.length co56) t759) := ⟨by rw [← hq_]; exact (by (with_reducible repeat (first | apply Kd.R_alloc | apply Kd.R_drewN | apply Kd.R_drew)); exact Kd.R_mono HO761.out (fun _ hk => ⟨hk.1.1.1.2, ⟨hk.1.1.2, ⟨hk.1.1.1.1.1.1, ⟨hk.1.2, ⟨hk.2, ⟨hk.1.1.1.1.1.2, hk.1.1.1.1.2⟩⟩⟩⟩⟩⟩))⟩; have n3_ : Aside0 (Kd.R k78 78 w45 w.heap.size (fun k_ => some k_ ≠ (.slice Ao53 t752.length co53 : Value).ownBlock ∧ some k_ ≠ (.slice Ao55 t755.length co55 : Value).ownBlock ∧ some k_ ≠ (.slice Ao56 t759.length co56 : Value).ownBlock ∧ some k_ ≠ (v767 : Value).ownBlock ∧ some k_ ≠ (v770 : Value).ownBlock ∧ some k_ ≠ (.slice Ao19 t741.length co19 : Value).ownBlock ∧ some k_ ≠ (.slice Ao22 t746.length co22 : Value).ownBlock) (.slice Ao54 t762.length co54) t762) := ⟨by rw [← hq_]; exact (by (with_reducible repeat (first | apply Kd.R_alloc | apply Kd.R_drewN | apply Kd.R_drew)); exact Kd.R_mono HO764.out (fun _ hk => ⟨hk.1.1.1.2, ⟨hk.1.1.2, ⟨hk.1.1.1.1.1.1, ⟨hk.1.2, ⟨hk.2, ⟨hk.1.1.1.1.1.2, hk.1.1.1.1.2⟩⟩⟩⟩⟩⟩))⟩; have n4_ : Aside0 (Kd.R k78 78 w45 w.heap.size (fun k_ => some k_ ≠ (.slice Ao53 t752.length co53 : Value).ownBlock ∧ some k_ ≠ (.slice Ao55 t755.length co55 : Value).ownBlock ∧ some k_ ≠ (.slice Ao56 t759.length co56 : Value).ownBlock ∧ some k_ ≠ (.slice Ao54 t762.length co54 : Value).ownBlock ∧ some k_ ≠ (v770 : Value).ownBlock ∧ some k_ ≠ (.slice Ao19 t741.length co19 : Value).ownBlock ∧ some k_ ≠ (.slice Ao22 t746.length co22 : Value).ownBlock) v767 t766) := ⟨by rw [← hq_]; exact (by (with_reducible repeat (first | apply Kd.R_alloc | apply Kd.R_drewN | apply Kd.R_drew)); exact Kd.R_mono HO768.out (fun _ hk => ⟨hk.1.1.1.2, ⟨hk.1.1.2, ⟨hk.1.2, ⟨hk.2, ⟨hk.1.1.1.1.1.1, ⟨hk.1.1.1.1.1.2, hk.1.1.1.1.2⟩⟩⟩⟩⟩⟩))⟩; have n5_ : Aside0 (Kd.R k78 78 w45 w.heap.size (fun k_ => some k_ ≠ (.slice Ao53 t752.length co53 : Value).ownBlock ∧ some k_ ≠ (.slice Ao55 t755.length co55 : Value).ownBlock ∧ some k_ ≠ (.slice Ao56 t759.length co56 : Value).ownBlock ∧ some k_ ≠ (.slice Ao54 t762.length co54 : Value).ownBlock ∧ some k_ ≠ (v767 : Value).ownBlock ∧ some k_ ≠ (.slice Ao19 t741.length co19 : Value).ownBlock ∧ some k_ ≠ (.slice Ao22 t746.length co22 : Value).ownBlock) v770 t769) := ⟨by rw [← hq_]; exact (by (with_reducible repeat (first | apply Kd.R_alloc | apply Kd.R_drewN | apply Kd.R_drew)); exact Kd.R_mono HO771.out (fun _ hk => ⟨hk.1.1.1.2, ⟨hk.1.1.2, ⟨hk.1.2, ⟨hk.2, ⟨hk.1.1.1.1.1.1, ⟨hk.1.1.1.1.1.2, hk.1.1.1.1.2⟩⟩⟩⟩⟩⟩))⟩; have n6_ : Aside0 (Kd.R k78 78 w45 w.heap.size (fun k_ => some k_ ≠ (.slice Ao53 t752.length co53 : Value).ownBlock ∧ some k_ ≠ (.slice Ao55 t755.length co55 : Value).ownBlock ∧ some k_ ≠ (.slice Ao56 t759.length co56 : Value).ownBlock ∧ some k_ ≠ (.slice Ao54 t762.length co54 : Value).ownBlock ∧ some k_ ≠ (v767 : Value).ownBlock ∧ some k_ ≠ (v770 : Value).ownBlock ∧ some k_ ≠ (.slice Ao22 t746.length co22 : Value).ownBlock) (.slice Ao19 t741.length co19) t741) := ⟨by rw [← hq_]; exact (by (with_reducible repeat (first | apply Kd.R_alloc | apply Kd.R_drewN | apply Kd.R_drew)); exact Kd.R_mono HO_751001.out (fun _ hk => ⟨hk.1.1.1.1.1.2, ⟨hk.1.1.1.1.2, ⟨hk.1.1.1.2, ⟨hk.1.1.2, ⟨hk.1.2, ⟨hk.2, hk.1.1.1.1.1.1⟩⟩⟩⟩⟩⟩))⟩; have n7_ : Aside0 (Kd.R k78 78 w45 w.heap.size (fun k_ => some k_ ≠ (.slice Ao53 t752.length co53 : Value).ownBlock ∧ some k_ ≠ (.slice Ao55 t755.length co55 : Value).ownBlock ∧ some k_ ≠ (.slice Ao56 t759.length co56 : Value).ownBlock ∧ some k_ ≠ (.slice Ao54 t762.length co54 : Value).ownBlock ∧ some k_ ≠ (v767 : Value).ownBlock ∧ some k_ ≠ (v770 : Value).ownBlock ∧ some k_ ≠ (.slice Ao19 t741.length co19 : Value).ownBlock) (.slice Ao22 t746.length co22) t746) := ⟨by rw [← hq_]; exact (by (with_reducible repeat (first | apply Kd.R_alloc | apply Kd.R_drewN | apply Kd.R_drew)); exact Kd.R_mono HO_752001.out (fun _ hk => ⟨hk.1.1.1.1.1.2, ⟨hk.1.1.1.1.2, ⟨hk.1.1.1.2, ⟨hk.1.1.2, ⟨hk.1.2, ⟨hk.2, hk.1.1.1.1.1.1⟩⟩⟩⟩⟩⟩))⟩; have n8_ : Aside0 (w45.heap[gb750]? = some (.cells #[.int .i64 t740, .slice Ao19 t741.length co19] 32 (0, 0))) := ⟨by rw [← hq_]; exact (by (with_reducible repeat (first | refine blk_drewN ?_ _ | refine blk_drew ?_ | refine blk_alloc ?_ _)); exact BK750.out)⟩; have n9_ : Aside0 (w45.heap[gb751]? = some (.cells #[.int .i64 t745, .slice Ao22 t746.length co22] 32 (0, 0))) := ⟨by rw [← hq_]; exact (by (with_reducible repeat (first | refine blk_drewN ?_ _ | refine blk_drew ?_ | refine blk_alloc ?_ _)); exact BK751.out)⟩; have n10_ : Aside0 (Below w.heap.size w w45) := ⟨by rw [← hq_]; exact (by repeat (first | (with_reducible first | exact HB.out | apply below_alloc | apply pw_below_drewN | apply below_drew1 | refine below_set ?_ GE750.out | refine below_set ?_ GE751.out) | exact HB.out))⟩; clear HO754 HO757 HO761 HO764 HO768 HO771 HO_751001 HO_752001 BK750 BK751 HB hq_; have HO754 := n0_; have HO757 := n1_; have HO761 := n2_; have HO764 := n3_; have HO768 := n4_; have HO771 := n5_; have HO_751001 := n6_; have HO_752001 := n7_; have BK750 := n8_; have BK751 := n9_; have HB := n10_; clear n0_ n1_ n2_ n3_ n4_ n5_ n6_ n7_ n8_ n9_ n10_)); obtain ⟨Ao57, co57, eo57⟩ := Kd.R_slice HO768.out; subst eo57; obtain ⟨Ao58, co58, eo58⟩ := Kd.R_slice HO771.out; subst eo58))
            go_meet
            case rel => exact ⟨_, (decide ((wrap64 ((t766.length : Int) + (t769.length : Int))) > 0)), (by first | rfl | (simp; done) | (simp [*]; done)), H', ⟨by have := HJ8.out; first | omega | exact Nat.le_refl _⟩, ⟨by (with_reducible repeat (first | apply Kd.R_alloc | apply Kd.R_drewN | apply Kd.R_drew)); exact Kd.R_mono HO754.out (fun _ hk => ⟨by (try simp only [and_assoc] at hk); repeat (first | exact hk.1 | exact hk | replace hk := hk.2), by (try simp only [and_assoc] at hk); repeat (first | exact hk.1 | exact hk | replace hk := hk.2)⟩)⟩, ⟨by (with_reducible repeat (first | apply Kd.R_alloc | apply Kd.R_drewN | apply Kd.R_drew)); exact Kd.R_mono HO_751001.out (fun _ hk => ⟨by (try simp only [and_assoc] at hk); repeat (first | exact hk.1 | exact hk | replace hk := hk.2), by (try simp only [and_assoc] at hk); repeat (first | exact hk.1 | exact hk | replace hk := hk.2)⟩)⟩, ⟨by (with_reducible repeat (first | apply Kd.R_alloc | apply Kd.R_drewN | apply Kd.R_drew)); exact Kd.R_mono HO_752001.out (fun _ hk => ⟨by (try simp only [and_assoc] at hk); repeat (first | exact hk.1 | exact hk | replace hk := hk.2), by (try simp only [and_assoc] at hk); repeat (first | exact hk.1 | exact hk | replace hk := hk.2)⟩)⟩, ⟨by (with_reducible repeat (first | refine blk_drewN ?_ _ | refine blk_drew ?_ | refine blk_alloc ?_ _)); exact BK750.out⟩, ⟨by (with_reducible repeat (first | refine blk_drewN ?_ _ | refine blk_drew ?_ | refine blk_alloc ?_ _)); exact BK751.out⟩, ⟨by repeat (first | (with_reducible first | exact HB.out | apply below_alloc | apply pw_below_drewN | apply below_drew1 | refine below_set ?_ GE750.out | refine below_set ?_ GE751.out) | exact HB.out)⟩⟩
           ·replace c52 := Bool.eq_false_iff.mpr c52
            subst c52
            rw [if_neg (show ¬ (false = true) by decide)] at H
            have H' := Aside0.mk H
            clear H
            obtain ⟨Ao59, co59, eo59⟩ := Kd.R_slice HO754.out
            subst eo59
            obtain ⟨Ao60, co60, eo60⟩ := Kd.R_slice HO764.out
            subst eo60
            go_wp2_with (first | (go_at_call 48; (with_reducible refine (storagebarterref08_SameNames.calls kj8 _ _ t752 _ _ t762 true _ ?side1 ?side2 ?side3 ?side4 A49.out).mono ?_); (case side1 => repeat (first | exact (Kd.R_reads' HO754.out).2.2 | (with_reducible refine Kd.C_alloc ?_ _) | (with_reducible refine Kd.C_drewN ?_ _) | (with_reducible refine Kd.C_drew ?_))); (case side2 => exact (Kd.R_reads' HO754.out).2.1); (case side3 => repeat (first | exact (Kd.R_reads' HO764.out).2.2 | (with_reducible refine Kd.C_alloc ?_ _) | (with_reducible refine Kd.C_drewN ?_ _) | (with_reducible refine Kd.C_drew ?_))); (case side4 => exact (Kd.R_reads' HO764.out).2.1); rintro e w' ⟨rfl, ⟨nd, rfl⟩⟩; (try (rw [drewN_self w45]; generalize hq_ : World.drewN w45 _ = w45; have n0_ : Aside0 (Kd.R k78 78 w45 w.heap.size (fun k_ => some k_ ≠ (v756 : Value).ownBlock ∧ some k_ ≠ (v760 : Value).ownBlock ∧ some k_ ≠ (.slice Ao60 t762.length co60 : Value).ownBlock ∧ some k_ ≠ (v767 : Value).ownBlock ∧ some k_ ≠ (v770 : Value).ownBlock ∧ some k_ ≠ (.slice Ao19 t741.length co19 : Value).ownBlock ∧ some k_ ≠ (.slice Ao22 t746.length co22 : Value).ownBlock) (.slice Ao59 t752.length co59) t752) := ⟨by rw [← hq_]; exact (by (with_reducible repeat (first | apply Kd.R_alloc | apply Kd.R_drewN | apply Kd.R_drew)); exact Kd.R_mono HO754.out (fun _ hk => ⟨hk.1.1.1.1.1.1, ⟨hk.1.1.1.2, ⟨hk.1.1.2, ⟨hk.1.2, ⟨hk.2, ⟨hk.1.1.1.1.1.2, hk.1.1.1.1.2⟩⟩⟩⟩⟩⟩))⟩; have n1_ : Aside0 (Kd.R k78 78 w45 w.heap.size (fun k_ => some k_ ≠ (.slice Ao59 t752.length co59 : Value).ownBlock ∧ some k_ ≠ (v760 : Value).ownBlock ∧ some k_ ≠ (.slice Ao60 t762.length co60 : Value).ownBlock ∧ some k_ ≠ (v767 : Value).ownBlock ∧ some k_ ≠ (v770 : Value).ownBlock ∧ some k_ ≠ (.slice Ao19 t741.length co19 : Value).ownBlock ∧ some k_ ≠ (.slice Ao22 t746.length co22 : Value).ownBlock) v756 t755) := ⟨by rw [← hq_]; exact (by (with_reducible repeat (first | apply Kd.R_alloc | apply Kd.R_drewN | apply Kd.R_drew)); exact Kd.R_mono HO757.out (fun _ hk => ⟨hk.1.1.1.1.1.1, ⟨hk.1.1.1.2, ⟨hk.1.1.2, ⟨hk.1.2, ⟨hk.2, ⟨hk.1.1.1.1.1.2, hk.1.1.1.1.2⟩⟩⟩⟩⟩⟩))⟩; have n2_ : Aside0 (Kd.R k78 78 w45 w.heap.size (fun k_ => some k_ ≠ (.slice Ao59 t752.length co59 : Value).ownBlock ∧ some k_ ≠ (v756 : Value).ownBlock ∧ some k_ ≠ (.slice Ao60 t762.length co60 : Value).ownBlock ∧ some k_ ≠ (v767 : Value).ownBlock ∧ some k_ ≠ (v770 : Value).ownBlock ∧ some k_ ≠ (.slice Ao19 t741.length co19 : Value).ownBlock ∧ some k_ ≠ (.slice Ao22 t746.length co22 : Value).ownBlock) v760 t759) := ⟨by rw [← hq_]; exact (by (with_reducible repeat (first | apply Kd.R_alloc | apply Kd.R_drewN | apply Kd.R_drew)); exact Kd.R_mono HO761.out (fun _ hk => ⟨hk.1.1.1.2, ⟨hk.1.1.2, ⟨hk.1.1.1.1.1.1, ⟨hk.1.2, ⟨hk.2, ⟨hk.1.1.1.1.1.2, hk.1.1.1.1.2⟩⟩⟩⟩⟩⟩))⟩; have n3_ : Aside0 (Kd.R k78 78 w45 w.heap.size (fun k_ => some k_ ≠ (.slice Ao59 t752.length co59 : Value).ownBlock ∧ some k_ ≠ (v756 : Value).ownBlock ∧ some k_ ≠ (v760 : Value).ownBlock ∧ some k_ ≠ (v767 : Value).ownBlock ∧ some k_ ≠ (v770 : Value).ownBlock ∧ some k_ ≠ (.slice Ao19 t741.length co19 : Value).ownBlock ∧ some k_ ≠ (.slice Ao22 t746.length co22 : Value).ownBlock) (.slice Ao60 t762.length co60) t762) := ⟨by rw [← hq_]; exact (by (with_reducible repeat (first | apply Kd.R_alloc | apply Kd.R_drewN | apply Kd.R_drew)); exact Kd.R_mono HO764.out (fun _ hk => ⟨hk.1.1.1.2, ⟨hk.1.1.2, ⟨hk.1.1.1.1.1.1, ⟨hk.1.2, ⟨hk.2, ⟨hk.1.1.1.1.1.2, hk.1.1.1.1.2⟩⟩⟩⟩⟩⟩))⟩; have n4_ : Aside0 (Kd.R k78 78 w45 w.heap.size (fun k_ => some k_ ≠ (.slice Ao59 t752.length co59 : Value).ownBlock ∧ some k_ ≠ (v756 : Value).ownBlock ∧ some k_ ≠ (v760 : Value).ownBlock ∧ some k_ ≠ (.slice Ao60 t762.length co60 : Value).ownBlock ∧ some k_ ≠ (v770 : Value).ownBlock ∧ some k_ ≠ (.slice Ao19 t741.length co19 : Value).ownBlock ∧ some k_ ≠ (.slice Ao22 t746.length co22 : Value).ownBlock) v767 t766) := ⟨by rw [← hq_]; exact (by (with_reducible repeat (first | apply Kd.R_alloc | apply Kd.R_drewN | apply Kd.R_drew)); exact Kd.R_mono HO768.out (fun _ hk => ⟨hk.1.1.1.2, ⟨hk.1.1.2, ⟨hk.1.2, ⟨hk.2, ⟨hk.1.1.1.1.1.1, ⟨hk.1.1.1.1.1.2, hk.1.1.1.1.2⟩⟩⟩⟩⟩⟩))⟩; have n5_ : Aside0 (Kd.R k78 78 w45 w.heap.size (fun k_ => some k_ ≠ (.slice Ao59 t752.length co59 : Value).ownBlock ∧ some k_ ≠ (v756 : Value).ownBlock ∧ some k_ ≠ (v760 : Value).ownBlock ∧ some k_ ≠ (.slice Ao60 t762.length co60 : Value).ownBlock ∧ some k_ ≠ (v767 : Value).ownBlock ∧ some k_ ≠ (.slice Ao19 t741.length co19 : Value).ownBlock ∧ some k_ ≠ (.slice Ao22 t746.length co22 : Value).ownBlock) v770 t769) := ⟨by rw [← hq_]; exact (by (with_reducible repeat (first | apply Kd.R_alloc | apply Kd.R_drewN | apply Kd.R_drew)); exact Kd.R_mono HO771.out (fun _ hk => ⟨hk.1.1.1.2, ⟨hk.1.1.2, ⟨hk.1.2, ⟨hk.2, ⟨hk.1.1.1.1.1.1, ⟨hk.1.1.1.1.1.2, hk.1.1.1.1.2⟩⟩⟩⟩⟩⟩))⟩; have n6_ : Aside0 (Kd.R k78 78 w45 w.heap.size (fun k_ => some k_ ≠ (.slice Ao59 t752.length co59 : Value).ownBlock ∧ some k_ ≠ (v756 : Value).ownBlock ∧ some k_ ≠ (v760 : Value).ownBlock ∧ some k_ ≠ (.slice Ao60 t762.length co60 : Value).ownBlock ∧ some k_ ≠ (v767 : Value).ownBlock ∧ some k_ ≠ (v770 : Value).ownBlock ∧ some k_ ≠ (.slice Ao22 t746.length co22 : Value).ownBlock) (.slice Ao19 t741.length co19) t741) := ⟨by rw [← hq_]; exact (by (with_reducible repeat (first | apply Kd.R_alloc | apply Kd.R_drewN | apply Kd.R_drew)); exact Kd.R_mono HO_751001.out (fun _ hk => ⟨hk.1.1.1.1.1.2, ⟨hk.1.1.1.1.2, ⟨hk.1.1.1.2, ⟨hk.1.1.2, ⟨hk.1.2, ⟨hk.2, hk.1.1.1.1.1.1⟩⟩⟩⟩⟩⟩))⟩; have n7_ : Aside0 (Kd.R k78 78 w45 w.heap.size (fun k_ => some k_ ≠ (.slice Ao59 t752.length co59 : Value).ownBlock ∧ some k_ ≠ (v756 : Value).ownBlock ∧ some k_ ≠ (v760 : Value).ownBlock ∧ some k_ ≠ (.slice Ao60 t762.length co60 : Value).ownBlock ∧ some k_ ≠ (v767 : Value).ownBlock ∧ some k_ ≠ (v770 : Value).ownBlock ∧ some k_ ≠ (.slice Ao19 t741.length co19 : Value).ownBlock) (.slice Ao22 t746.length co22) t746) := ⟨by rw [← hq_]; exact (by (with_reducible repeat (first | apply Kd.R_alloc | apply Kd.R_drewN | apply Kd.R_drew)); exact Kd.R_mono HO_752001.out (fun _ hk => ⟨hk.1.1.1.1.1.2, ⟨hk.1.1.1.1.2, ⟨hk.1.1.1.2, ⟨hk.1.1.2, ⟨hk.1.2, ⟨hk.2, hk.1.1.1.1.1.1⟩⟩⟩⟩⟩⟩))⟩; have n8_ : Aside0 (w45.heap[gb750]? = some (.cells #[.int .i64 t740, .slice Ao19 t741.length co19] 32 (0, 0))) := ⟨by rw [← hq_]; exact (by (with_reducible repeat (first | refine blk_drewN ?_ _ | refine blk_drew ?_ | refine blk_alloc ?_ _)); exact BK750.out)⟩; have n9_ : Aside0 (w45.heap[gb751]? = some (.cells #[.int .i64 t745, .slice Ao22 t746.length co22] 32 (0, 0))) := ⟨by rw [← hq_]; exact (by (with_reducible repeat (first | refine blk_drewN ?_ _ | refine blk_drew ?_ | refine blk_alloc ?_ _)); exact BK751.out)⟩; have n10_ : Aside0 (Below w.heap.size w w45) := ⟨by rw [← hq_]; exact (by repeat (first | (with_reducible first | exact HB.out | apply below_alloc | apply pw_below_drewN | apply below_drew1 | refine below_set ?_ GE750.out | refine below_set ?_ GE751.out) | exact HB.out))⟩; clear HO754 HO757 HO761 HO764 HO768 HO771 HO_751001 HO_752001 BK750 BK751 HB hq_; have HO754 := n0_; have HO757 := n1_; have HO761 := n2_; have HO764 := n3_; have HO768 := n4_; have HO771 := n5_; have HO_751001 := n6_; have HO_752001 := n7_; have BK750 := n8_; have BK751 := n9_; have HB := n10_; clear n0_ n1_ n2_ n3_ n4_ n5_ n6_ n7_ n8_ n9_ n10_)); obtain ⟨Ao61, co61, eo61⟩ := Kd.R_slice HO757.out; subst eo61; obtain ⟨Ao62, co62, eo62⟩ := Kd.R_slice HO761.out; subst eo62) | (go_at_call 48; (with_reducible refine (storagebarterref08_SameNames.calls kj8 _ _ t755 _ _ t759 false _ ?side1 ?side2 ?side3 ?side4 A51.out).mono ?_); (case side1 => repeat (first | exact (Kd.R_reads' HO757.out).2.2 | (with_reducible refine Kd.C_alloc ?_ _) | (with_reducible refine Kd.C_drewN ?_ _) | (with_reducible refine Kd.C_drew ?_))); (case side2 => exact (Kd.R_reads' HO757.out).2.1); (case side3 => repeat (first | exact (Kd.R_reads' HO761.out).2.2 | (with_reducible refine Kd.C_alloc ?_ _) | (with_reducible refine Kd.C_drewN ?_ _) | (with_reducible refine Kd.C_drew ?_))); (case side4 => exact (Kd.R_reads' HO761.out).2.1); rintro e w' ⟨rfl, ⟨nd, rfl⟩⟩; (try (rw [drewN_self w45]; generalize hq_ : World.drewN w45 _ = w45; have n0_ : Aside0 (Kd.R k78 78 w45 w.heap.size (fun k_ => some k_ ≠ (.slice Ao61 t755.length co61 : Value).ownBlock ∧ some k_ ≠ (.slice Ao62 t759.length co62 : Value).ownBlock ∧ some k_ ≠ (.slice Ao60 t762.length co60 : Value).ownBlock ∧ some k_ ≠ (v767 : Value).ownBlock ∧ some k_ ≠ (v770 : Value).ownBlock ∧ some k_ ≠ (.slice Ao19 t741.length co19 : Value).ownBlock ∧ some k_ ≠ (.slice Ao22 t746.length co22 : Value).ownBlock) (.slice Ao59 t752.length co59) t752) := ⟨by rw [← hq_]; exact (by (with_reducible repeat (first | apply Kd.R_alloc | apply Kd.R_drewN | apply Kd.R_drew)); exact Kd.R_mono HO754.out (fun _ hk => ⟨hk.1.1.1.1.1.1, ⟨hk.1.1.1.2, ⟨hk.1.1.2, ⟨hk.1.2, ⟨hk.2, ⟨hk.1.1.1.1.1.2, hk.1.1.1.1.2⟩⟩⟩⟩⟩⟩))⟩; have n1_ : Aside0 (Kd.R k78 78 w45 w.heap.size (fun k_ => some k_ ≠ (.slice Ao59 t752.length co59 : Value).ownBlock ∧ some k_ ≠ (.slice Ao62 t759.length co62 : Value).ownBlock ∧ some k_ ≠ (.slice Ao60 t762.length co60 : Value).ownBlock ∧ some k_ ≠ (v767 : Value).ownBlock ∧ some k_ ≠ (v770 : Value).ownBlock ∧ some k_ ≠ (.slice Ao19 t741.length co19 : Value).ownBlock ∧ some k_ ≠ (.slice Ao22 t746.length co22 : Value).ownBlock) (.slice Ao61 t755.length co61) t755) := ⟨by rw [← hq_]; exact (by (with_reducible repeat (first | apply Kd.R_alloc | apply Kd.R_drewN | apply Kd.R_drew)); exact Kd.R_mono HO757.out (fun _ hk => ⟨hk.1.1.1.1.1.1, ⟨hk.1.1.1.2, ⟨hk.1.1.2, ⟨hk.1.2, ⟨hk.2, ⟨hk.1.1.1.1.1.2, hk.1.1.1.1.2⟩⟩⟩⟩⟩⟩))⟩; have n2_ : Aside0 (Kd.R k78 78 w45 w.heap.size (fun k_ => some k_ ≠ (.slice Ao59 t752.length co59 : Value).ownBlock ∧ some k_ ≠ (.slice Ao61 t755.length co61 : Value).ownBlock ∧ some k_ ≠ (.slice Ao60 t762.length co60 : Value).ownBlock ∧ some k_ ≠ (v767 : Value).ownBlock ∧ some k_ ≠ (v770 : Value).ownBlock ∧ some k_ ≠ (.slice Ao19 t741.length co19 : Value).ownBlock ∧ some k_ ≠ (.slice Ao22 t746.length co22 : Value).ownBlock) (.slice Ao62 t759.length co62) t759) := ⟨by rw [← hq_]; exact (by (with_reducible repeat (first | apply Kd.R_alloc | apply Kd.R_drewN | apply Kd.R_drew)); exact Kd.R_mono HO761.out (fun _ hk => ⟨hk.1.1.1.2, ⟨hk.1.1.2, ⟨hk.1.1.1.1.1.1, ⟨hk.1.2, ⟨hk.2, ⟨hk.1.1.1.1.1.2, hk.1.1.1.1.2⟩⟩⟩⟩⟩⟩))⟩; have n3_ : Aside0 (Kd.R k78 78 w45 w.heap.size (fun k_ => some k_ ≠ (.slice Ao59 t752.length co59 : Value).ownBlock ∧ some k_ ≠ (.slice Ao61 t755.length co61 : Value).ownBlock ∧ some k_ ≠ (.slice Ao62 t759.length co62 : Value).ownBlock ∧ some k_ ≠ (v767 : Value).ownBlock ∧ some k_ ≠ (v770 : Value).ownBlock ∧ some k_ ≠ (.slice Ao19 t741.length co19 : Value).ownBlock ∧ some k_ ≠ (.slice Ao22 t746.length co22 : Value).ownBlock) (.slice Ao60 t762.length co60) t762) := ⟨by rw [← hq_]; exact (by (with_reducible repeat (first | apply Kd.R_alloc | apply Kd.R_drewN | apply Kd.R_drew)); exact Kd.R_mono HO764.out (fun _ hk => ⟨hk.1.1.1.2, ⟨hk.1.1.2, ⟨hk.1.1.1.1.1.1, ⟨hk.1.2, ⟨hk.2, ⟨hk.1.1.1.1.1.2, hk.1.1.1.1.2⟩⟩⟩⟩⟩⟩))⟩; have n4_ : Aside0 (Kd.R k78 78 w45 w.heap.size (fun k_ => some k_ ≠ (.slice Ao59 t752.length co59 : Value).ownBlock ∧ some k_ ≠ (.slice Ao61 t755.length co61 : Value).ownBlock ∧ some k_ ≠ (.slice Ao62 t759.length co62 : Value).ownBlock ∧ some k_ ≠ (.slice Ao60 t762.length co60 : Value).ownBlock ∧ some k_ ≠ (v770 : Value).ownBlock ∧ some k_ ≠ (.slice Ao19 t741.length co19 : Value).ownBlock ∧ some k_ ≠ (.slice Ao22 t746.length co22 : Value).ownBlock) v767 t766) := ⟨by rw [← hq_]; exact (by (with_reducible repeat (first | apply Kd.R_alloc | apply Kd.R_drewN | apply Kd.R_drew)); exact Kd.R_mono HO768.out (fun _ hk => ⟨hk.1.1.1.2, ⟨hk.1.1.2, ⟨hk.1.2, ⟨hk.2, ⟨hk.1.1.1.1.1.1, ⟨hk.1.1.1.1.1.2, hk.1.1.1.1.2⟩⟩⟩⟩⟩⟩))⟩; have n5_ : Aside0 (Kd.R k78 78 w45 w.heap.size (fun k_ => some k_ ≠ (.slice Ao59 t752.length co59 : Value).ownBlock ∧ some k_ ≠ (.slice Ao61 t755.length co61 : Value).ownBlock ∧ some k_ ≠ (.slice Ao62 t759.length co62 : Value).ownBlock ∧ some k_ ≠ (.slice Ao60 t762.length co60 : Value).ownBlock ∧ some k_ ≠ (v767 : Value).ownBlock ∧ some k_ ≠ (.slice Ao19 t741.length co19 : Value).ownBlock ∧ some k_ ≠ (.slice Ao22 t746.length co22 : Value).ownBlock) v770 t769) := ⟨by rw [← hq_]; exact (by (with_reducible repeat (first | apply Kd.R_alloc | apply Kd.R_drewN | apply Kd.R_drew)); exact Kd.R_mono HO771.out (fun _ hk => ⟨hk.1.1.1.2, ⟨hk.1.1.2, ⟨hk.1.2, ⟨hk.2, ⟨hk.1.1.1.1.1.1, ⟨hk.1.1.1.1.1.2, hk.1.1.1.1.2⟩⟩⟩⟩⟩⟩))⟩; have n6_ : Aside0 (Kd.R k78 78 w45 w.heap.size (fun k_ => some k_ ≠ (.slice Ao59 t752.length co59 : Value).ownBlock ∧ some k_ ≠ (.slice Ao61 t755.length co61 : Value).ownBlock ∧ some k_ ≠ (.slice Ao62 t759.length co62 : Value).ownBlock ∧ some k_ ≠ (.slice Ao60 t762.length co60 : Value).ownBlock ∧ some k_ ≠ (v767 : Value).ownBlock ∧ some k_ ≠ (v770 : Value).ownBlock ∧ some k_ ≠ (.slice Ao22 t746.length co22 : Value).ownBlock) (.slice Ao19 t741.length co19) t741) := ⟨by rw [← hq_]; exact (by (with_reducible repeat (first | apply Kd.R_alloc | apply Kd.R_drewN | apply Kd.R_drew)); exact Kd.R_mono HO_751001.out (fun _ hk => ⟨hk.1.1.1.1.1.2, ⟨hk.1.1.1.1.2, ⟨hk.1.1.1.2, ⟨hk.1.1.2, ⟨hk.1.2, ⟨hk.2, hk.1.1.1.1.1.1⟩⟩⟩⟩⟩⟩))⟩; have n7_ : Aside0 (Kd.R k78 78 w45 w.heap.size (fun k_ => some k_ ≠ (.slice Ao59 t752.length co59 : Value).ownBlock ∧ some k_ ≠ (.slice Ao61 t755.length co61 : Value).ownBlock ∧ some k_ ≠ (.slice Ao62 t759.length co62 : Value).ownBlock ∧ some k_ ≠ (.slice Ao60 t762.length co60 : Value).ownBlock ∧ some k_ ≠ (v767 : Value).ownBlock ∧ some k_ ≠ (v770 : Value).ownBlock ∧ some k_ ≠ (.slice Ao19 t741.length co19 : Value).ownBlock) (.slice Ao22 t746.length co22) t746) := ⟨by rw [← hq_]; exact (by (with_reducible repeat (first | apply Kd.R_alloc | apply Kd.R_drewN | apply Kd.R_drew)); exact Kd.R_mono HO_752001.out (fun _ hk => ⟨hk.1.1.1.1.1.2, ⟨hk.1.1.1.1.2, ⟨hk.1.1.1.2, ⟨hk.1.1.2, ⟨hk.1.2, ⟨hk.2, hk.1.1.1.1.1.1⟩⟩⟩⟩⟩⟩))⟩; have n8_ : Aside0 (w45.heap[gb750]? = some (.cells #[.int .i64 t740, .slice Ao19 t741.length co19] 32 (0, 0))) := ⟨by rw [← hq_]; exact (by (with_reducible repeat (first | refine blk_drewN ?_ _ | refine blk_drew ?_ | refine blk_alloc ?_ _)); exact BK750.out)⟩; have n9_ : Aside0 (w45.heap[gb751]? = some (.cells #[.int .i64 t745, .slice Ao22 t746.length co22] 32 (0, 0))) := ⟨by rw [← hq_]; exact (by (with_reducible repeat (first | refine blk_drewN ?_ _ | refine blk_drew ?_ | refine blk_alloc ?_ _)); exact BK751.out)⟩; have n10_ : Aside0 (Below w.heap.size w w45) := ⟨by rw [← hq_]; exact (by repeat (first | (with_reducible first | exact HB.out | apply below_alloc | apply pw_below_drewN | apply below_drew1 | refine below_set ?_ GE750.out | refine below_set ?_ GE751.out) | exact HB.out))⟩; clear HO754 HO757 HO761 HO764 HO768 HO771 HO_751001 HO_752001 BK750 BK751 HB hq_; have HO754 := n0_; have HO757 := n1_; have HO761 := n2_; have HO764 := n3_; have HO768 := n4_; have HO771 := n5_; have HO_751001 := n6_; have HO_752001 := n7_; have BK750 := n8_; have BK751 := n9_; have HB := n10_; clear n0_ n1_ n2_ n3_ n4_ n5_ n6_ n7_ n8_ n9_ n10_))))
            go_meet
            case rel => exact ⟨_, (true), (by first | rfl | (simp; done) | (simp [*]; done)), H', ⟨by have := HJ8.out; first | omega | exact Nat.le_refl _⟩, ⟨by (with_reducible repeat (first | apply Kd.R_alloc | apply Kd.R_drewN | apply Kd.R_drew)); exact Kd.R_mono HO754.out (fun _ hk => ⟨by (try simp only [and_assoc] at hk); repeat (first | exact hk.1 | exact hk | replace hk := hk.2), by (try simp only [and_assoc] at hk); repeat (first | exact hk.1 | exact hk | replace hk := hk.2)⟩)⟩, ⟨by (with_reducible repeat (first | apply Kd.R_alloc | apply Kd.R_drewN | apply Kd.R_drew)); exact Kd.R_mono HO_751001.out (fun _ hk => ⟨by (try simp only [and_assoc] at hk); repeat (first | exact hk.1 | exact hk | replace hk := hk.2), by (try simp only [and_assoc] at hk); repeat (first | exact hk.1 | exact hk | replace hk := hk.2)⟩)⟩, ⟨by (with_reducible repeat (first | apply Kd.R_alloc | apply Kd.R_drewN | apply Kd.R_drew)); exact Kd.R_mono HO_752001.out (fun _ hk => ⟨by (try simp only [and_assoc] at hk); repeat (first | exact hk.1 | exact hk | replace hk := hk.2), by (try simp only [and_assoc] at hk); repeat (first | exact hk.1 | exact hk | replace hk := hk.2)⟩)⟩, ⟨by (with_reducible repeat (first | refine blk_drewN ?_ _ | refine blk_drew ?_ | refine blk_alloc ?_ _)); exact BK750.out⟩, ⟨by (with_reducible repeat (first | refine blk_drewN ?_ _ | refine blk_drew ?_ | refine blk_alloc ?_ _)); exact BK751.out⟩, ⟨by repeat (first | (with_reducible first | exact HB.out | apply below_alloc | apply pw_below_drewN | apply below_drew1 | refine below_set ?_ GE750.out | refine below_set ?_ GE751.out) | exact HB.out)⟩⟩
          ·replace c50 := Bool.eq_false_iff.mpr c50
           subst c50
           rw [if_neg (show ¬ (false = true) by decide)] at H
           have H' := Aside0.mk H
           clear H
           obtain ⟨Ao63, co63, eo63⟩ := Kd.R_slice HO754.out
           subst eo63
           obtain ⟨Ao64, co64, eo64⟩ := Kd.R_slice HO764.out
           subst eo64
           go_wp2_with (first | (go_at_call 48; (with_reducible refine (storagebarterref08_SameNames.calls kj8 _ _ t752 _ _ t762 false _ ?side1 ?side2 ?side3 ?side4 A49.out).mono ?_); (case side1 => repeat (first | exact (Kd.R_reads' HO754.out).2.2 | (with_reducible refine Kd.C_alloc ?_ _) | (with_reducible refine Kd.C_drewN ?_ _) | (with_reducible refine Kd.C_drew ?_))); (case side2 => exact (Kd.R_reads' HO754.out).2.1); (case side3 => repeat (first | exact (Kd.R_reads' HO764.out).2.2 | (with_reducible refine Kd.C_alloc ?_ _) | (with_reducible refine Kd.C_drewN ?_ _) | (with_reducible refine Kd.C_drew ?_))); (case side4 => exact (Kd.R_reads' HO764.out).2.1); rintro e w' ⟨rfl, ⟨nd, rfl⟩⟩; (try (rw [drewN_self w45]; generalize hq_ : World.drewN w45 _ = w45; have n0_ : Aside0 (Kd.R k78 78 w45 w.heap.size (fun k_ => some k_ ≠ (v756 : Value).ownBlock ∧ some k_ ≠ (v760 : Value).ownBlock ∧ some k_ ≠ (.slice Ao64 t762.length co64 : Value).ownBlock ∧ some k_ ≠ (v767 : Value).ownBlock ∧ some k_ ≠ (v770 : Value).ownBlock ∧ some k_ ≠ (.slice Ao19 t741.length co19 : Value).ownBlock ∧ some k_ ≠ (.slice Ao22 t746.length co22 : Value).ownBlock) (.slice Ao63 t752.length co63) t752) := ⟨by rw [← hq_]; exact (by (with_reducible repeat (first | apply Kd.R_alloc | apply Kd.R_drewN | apply Kd.R_drew)); exact Kd.R_mono HO754.out (fun _ hk => ⟨hk.1.1.1.1.1.1, ⟨hk.1.1.1.2, ⟨hk.1.1.2, ⟨hk.1.2, ⟨hk.2, ⟨hk.1.1.1.1.1.2, hk.1.1.1.1.2⟩⟩⟩⟩⟩⟩))⟩; have n1_ : Aside0 (Kd.R k78 78 w45 w.heap.size (fun k_ => some k_ ≠ (.slice Ao63 t752.length co63 : Value).ownBlock ∧ some k_ ≠ (v760 : Value).ownBlock ∧ some k_ ≠ (.slice Ao64 t762.length co64 : Value).ownBlock ∧ some k_ ≠ (v767 : Value).ownBlock ∧ some k_ ≠ (v770 : Value).ownBlock ∧ some k_ ≠ (.slice Ao19 t741.length co19 : Value).ownBlock ∧ some k_ ≠ (.slice Ao22 t746.length co22 : Value).ownBlock) v756 t755) := ⟨by rw [← hq_]; exact (by (with_reducible repeat (first | apply Kd.R_alloc | apply Kd.R_drewN | apply Kd.R_drew)); exact Kd.R_mono HO757.out (fun _ hk => ⟨hk.1.1.1.1.1.1, ⟨hk.1.1.1.2, ⟨hk.1.1.2, ⟨hk.1.2, ⟨hk.2, ⟨hk.1.1.1.1.1.2, hk.1.1.1.1.2⟩⟩⟩⟩⟩⟩))⟩; have n2_ : Aside0 (Kd.R k78 78 w45 w.heap.size (fun k_ => some k_ ≠ (.slice Ao63 t752.length co63 : Value).ownBlock ∧ some k_ ≠ (v756 : Value).ownBlock ∧ some k_ ≠ (.slice Ao64 t762.length co64 : Value).ownBlock ∧ some k_ ≠ (v767 : Value).ownBlock ∧ some k_ ≠ (v770 : Value).ownBlock ∧ some k_ ≠ (.slice Ao19 t741.length co19 : Value).ownBlock ∧ some k_ ≠ (.slice Ao22 t746.length co22 : Value).ownBlock) v760 t759) := ⟨by rw [← hq_]; exact (by (with_reducible repeat (first | apply Kd.R_alloc | apply Kd.R_drewN | apply Kd.R_drew)); exact Kd.R_mono HO761.out (fun _ hk => ⟨hk.1.1.1.2, ⟨hk.1.1.2, ⟨hk.1.1.1.1.1.1, ⟨hk.1.2, ⟨hk.2, ⟨hk.1.1.1.1.1.2, hk.1.1.1.1.2⟩⟩⟩⟩⟩⟩))⟩; have n3_ : Aside0 (Kd.R k78 78 w45 w.heap.size (fun k_ => some k_ ≠ (.slice Ao63 t752.length co63 : Value).ownBlock ∧ some k_ ≠ (v756 : Value).ownBlock ∧ some k_ ≠ (v760 : Value).ownBlock ∧ some k_ ≠ (v767 : Value).ownBlock ∧ some k_ ≠ (v770 : Value).ownBlock ∧ some k_ ≠ (.slice Ao19 t741.length co19 : Value).ownBlock ∧ some k_ ≠ (.slice Ao22 t746.length co22 : Value).ownBlock) (.slice Ao64 t762.length co64) t762) := ⟨by rw [← hq_]; exact (by (with_reducible repeat (first | apply Kd.R_alloc | apply Kd.R_drewN | apply Kd.R_drew)); exact Kd.R_mono HO764.out (fun _ hk => ⟨hk.1.1.1.2, ⟨hk.1.1.2, ⟨hk.1.1.1.1.1.1, ⟨hk.1.2, ⟨hk.2, ⟨hk.1.1.1.1.1.2, hk.1.1.1.1.2⟩⟩⟩⟩⟩⟩))⟩; have n4_ : Aside0 (Kd.R k78 78 w45 w.heap.size (fun k_ => some k_ ≠ (.slice Ao63 t752.length co63 : Value).ownBlock ∧ some k_ ≠ (v756 : Value).ownBlock ∧ some k_ ≠ (v760 : Value).ownBlock ∧ some k_ ≠ (.slice Ao64 t762.length co64 : Value).ownBlock ∧ some k_ ≠ (v770 : Value).ownBlock ∧ some k_ ≠ (.slice Ao19 t741.length co19 : Value).ownBlock ∧ some k_ ≠ (.slice Ao22 t746.length co22 : Value).ownBlock) v767 t766) := ⟨by rw [← hq_]; exact (by (with_reducible repeat (first | apply Kd.R_alloc | apply Kd.R_drewN | apply Kd.R_drew)); exact Kd.R_mono HO768.out (fun _ hk => ⟨hk.1.1.1.2, ⟨hk.1.1.2, ⟨hk.1.2, ⟨hk.2, ⟨hk.1.1.1.1.1.1, ⟨hk.1.1.1.1.1.2, hk.1.1.1.1.2⟩⟩⟩⟩⟩⟩))⟩; have n5_ : Aside0 (Kd.R k78 78 w45 w.heap.size (fun k_ => some k_ ≠ (.slice Ao63 t752.length co63 : Value).ownBlock ∧ some k_ ≠ (v756 : Value).ownBlock ∧ some k_ ≠ (v760 : Value).ownBlock ∧ some k_ ≠ (.slice Ao64 t762.length co64 : Value).ownBlock ∧ some k_ ≠ (v767 : Value).ownBlock ∧ some k_ ≠ (.slice Ao19 t741.length co19 : Value).ownBlock ∧ some k_ ≠ (.slice Ao22 t746.length co22 : Value).ownBlock) v770 t769) := ⟨by rw [← hq_]; exact (by (with_reducible repeat (first | apply Kd.R_alloc | apply Kd.R_drewN | apply Kd.R_drew)); exact Kd.R_mono HO771.out (fun _ hk => ⟨hk.1.1.1.2, ⟨hk.1.1.2, ⟨hk.1.2, ⟨hk.2, ⟨hk.1.1.1.1.1.1, ⟨hk.1.1.1.1.1.2, hk.1.1.1.1.2⟩⟩⟩⟩⟩⟩))⟩; have n6_ : Aside0 (Kd.R k78 78 w45 w.heap.size (fun k_ => some k_ ≠ (.slice Ao63 t752.length co63 : Value).ownBlock ∧ some k_ ≠ (v756 : Value).ownBlock ∧ some k_ ≠ (v760 : Value).ownBlock ∧ some k_ ≠ (.slice Ao64 t762.length co64 : Value).ownBlock ∧ some k_ ≠ (v767 : Value).ownBlock ∧ some k_ ≠ (v770 : Value).ownBlock ∧ some k_ ≠ (.slice Ao22 t746.length co22 : Value).ownBlock) (.slice Ao19 t741.length co19) t741) := ⟨by rw [← hq_]; exact (by (with_reducible repeat (first | apply Kd.R_alloc | apply Kd.R_drewN | apply Kd.R_drew)); exact Kd.R_mono HO_751001.out (fun _ hk => ⟨hk.1.1.1.1.1.2, ⟨hk.1.1.1.1.2, ⟨hk.1.1.1.2, ⟨hk.1.1.2, ⟨hk.1.2, ⟨hk.2, hk.1.1.1.1.1.1⟩⟩⟩⟩⟩⟩))⟩; have n7_ : Aside0 (Kd.R k78 78 w45 w.heap.size (fun k_ => some k_ ≠ (.slice Ao63 t752.length co63 : Value).ownBlock ∧ some k_ ≠ (v756 : Value).ownBlock ∧ some k_ ≠ (v760 : Value).ownBlock ∧ some k_ ≠ (.slice Ao64 t762.length co64 : Value).ownBlock ∧ some k_ ≠ (v767 : Value).ownBlock ∧ some k_ ≠ (v770 : Value).ownBlock ∧ some k_ ≠ (.slice Ao19 t741.length co19 : Value).ownBlock) (.slice Ao22 t746.length co22) t746) := ⟨by rw [← hq_]; exact (by (with_reducible repeat (first | apply Kd.R_alloc | apply Kd.R_drewN | apply Kd.R_drew)); exact Kd.R_mono HO_752001.out (fun _ hk => ⟨hk.1.1.1.1.1.2, ⟨hk.1.1.1.1.2, ⟨hk.1.1.1.2, ⟨hk.1.1.2, ⟨hk.1.2, ⟨hk.2, hk.1.1.1.1.1.1⟩⟩⟩⟩⟩⟩))⟩; have n8_ : Aside0 (w45.heap[gb750]? = some (.cells #[.int .i64 t740, .slice Ao19 t741.length co19] 32 (0, 0))) := ⟨by rw [← hq_]; exact (by (with_reducible repeat (first | refine blk_drewN ?_ _ | refine blk_drew ?_ | refine blk_alloc ?_ _)); exact BK750.out)⟩; have n9_ : Aside0 (w45.heap[gb751]? = some (.cells #[.int .i64 t745, .slice Ao22 t746.length co22] 32 (0, 0))) := ⟨by rw [← hq_]; exact (by (with_reducible repeat (first | refine blk_drewN ?_ _ | refine blk_drew ?_ | refine blk_alloc ?_ _)); exact BK751.out)⟩; have n10_ : Aside0 (Below w.heap.size w w45) := ⟨by rw [← hq_]; exact (by repeat (first | (with_reducible first | exact HB.out | apply below_alloc | apply pw_below_drewN | apply below_drew1 | refine below_set ?_ GE750.out | refine below_set ?_ GE751.out) | exact HB.out))⟩; clear HO754 HO757 HO761 HO764 HO768 HO771 HO_751001 HO_752001 BK750 BK751 HB hq_; have HO754 := n0_; have HO757 := n1_; have HO761 := n2_; have HO764 := n3_; have HO768 := n4_; have HO771 := n5_; have HO_751001 := n6_; have HO_752001 := n7_; have BK750 := n8_; have BK751 := n9_; have HB := n10_; clear n0_ n1_ n2_ n3_ n4_ n5_ n6_ n7_ n8_ n9_ n10_))))
           go_meet
           case rel => exact ⟨_, (true), (by first | rfl | (simp; done) | (simp [*]; done)), H', ⟨by have := HJ8.out; first | omega | exact Nat.le_refl _⟩, ⟨by (with_reducible repeat (first | apply Kd.R_alloc | apply Kd.R_drewN | apply Kd.R_drew)); exact Kd.R_mono HO754.out (fun _ hk => ⟨by (try simp only [and_assoc] at hk); repeat (first | exact hk.1 | exact hk | replace hk := hk.2), by (try simp only [and_assoc] at hk); repeat (first | exact hk.1 | exact hk | replace hk := hk.2)⟩)⟩, ⟨by (with_reducible repeat (first | apply Kd.R_alloc | apply Kd.R_drewN | apply Kd.R_drew)); exact Kd.R_mono HO_751001.out (fun _ hk => ⟨by (try simp only [and_assoc] at hk); repeat (first | exact hk.1 | exact hk | replace hk := hk.2), by (try simp only [and_assoc] at hk); repeat (first | exact hk.1 | exact hk | replace hk := hk.2)⟩)⟩, ⟨by (with_reducible repeat (first | apply Kd.R_alloc | apply Kd.R_drewN | apply Kd.R_drew)); exact Kd.R_mono HO_752001.out (fun _ hk => ⟨by (try simp only [and_assoc] at hk); repeat (first | exact hk.1 | exact hk | replace hk := hk.2), by (try simp only [and_assoc] at hk); repeat (first | exact hk.1 | exact hk | replace hk := hk.2)⟩)⟩, ⟨by (with_reducible repeat (first | refine blk_drewN ?_ _ | refine blk_drew ?_ | refine blk_alloc ?_ _)); exact BK750.out⟩, ⟨by (with_reducible repeat (first | refine blk_drewN ?_ _ | refine blk_drew ?_ | refine blk_alloc ?_ _)); exact BK751.out⟩, ⟨by repeat (first | (with_reducible first | exact HB.out | apply below_alloc | apply pw_below_drewN | apply below_drew1 | refine below_set ?_ GE750.out | refine below_set ?_ GE751.out) | exact HB.out)⟩⟩
         ·rw [if_neg c48] at H
          have c48b0 : (t772 == 0) = false := beq_eq_false_iff_ne.mpr c48
          have c48b1 : (t772 != 0) = true := bne_iff_ne.mpr c48
          have H' := Aside0.mk H
          clear H
          go_wp2
          go_meet
          case rel => exact ⟨_, (true), (by first | rfl | (simp; done) | (simp [*]; done)), H', ⟨by have := HJ8.out; first | omega | exact Nat.le_refl _⟩, ⟨by (with_reducible repeat (first | apply Kd.R_alloc | apply Kd.R_drewN | apply Kd.R_drew)); exact Kd.R_mono HO754.out (fun _ hk => ⟨hk.1.1.1.1.1.2, hk.1.1.1.1.2⟩)⟩, ⟨by (with_reducible repeat (first | apply Kd.R_alloc | apply Kd.R_drewN | apply Kd.R_drew)); exact Kd.R_mono HO_751001.out (fun _ hk => ⟨hk.1.1.1.1.1.2, hk.1.1.1.1.1.1⟩)⟩, ⟨by (with_reducible repeat (first | apply Kd.R_alloc | apply Kd.R_drewN | apply Kd.R_drew)); exact Kd.R_mono HO_752001.out (fun _ hk => ⟨hk.1.1.1.1.1.2, hk.1.1.1.1.1.1⟩)⟩, ⟨by (with_reducible repeat (first | refine blk_drewN ?_ _ | refine blk_drew ?_ | refine blk_alloc ?_ _)); exact BK750.out⟩, ⟨by (with_reducible repeat (first | refine blk_drewN ?_ _ | refine blk_drew ?_ | refine blk_alloc ?_ _)); exact BK751.out⟩, ⟨by repeat (first | (with_reducible first | exact HB.out | apply below_alloc | apply pw_below_drewN | apply below_drew1 | refine below_set ?_ GE750.out | refine below_set ?_ GE751.out) | exact HB.out)⟩⟩
        ·rw [if_neg c47] at H
         have c47b0 : (t765 == 0) = false := beq_eq_false_iff_ne.mpr c47
         have c47b1 : (t765 != 0) = true := bne_iff_ne.mpr c47
         have H' := Aside0.mk H
         clear H
         go_wp2
         go_meet
         case rel => exact ⟨_, (true), (by first | rfl | (simp; done) | (simp [*]; done)), H', ⟨by have := HJ8.out; first | omega | exact Nat.le_refl _⟩, ⟨by (with_reducible repeat (first | apply Kd.R_alloc | apply Kd.R_drewN | apply Kd.R_drew)); exact Kd.R_mono HO754.out (fun _ hk => ⟨hk.1.1.1.1.1.2, hk.1.1.1.1.2⟩)⟩, ⟨by (with_reducible repeat (first | apply Kd.R_alloc | apply Kd.R_drewN | apply Kd.R_drew)); exact Kd.R_mono HO_751001.out (fun _ hk => ⟨hk.1.1.1.1.1.2, hk.1.1.1.1.1.1⟩)⟩, ⟨by (with_reducible repeat (first | apply Kd.R_alloc | apply Kd.R_drewN | apply Kd.R_drew)); exact Kd.R_mono HO_752001.out (fun _ hk => ⟨hk.1.1.1.1.1.2, hk.1.1.1.1.1.1⟩)⟩, ⟨by (with_reducible repeat (first | refine blk_drewN ?_ _ | refine blk_drew ?_ | refine blk_alloc ?_ _)); exact BK750.out⟩, ⟨by (with_reducible repeat (first | refine blk_drewN ?_ _ | refine blk_drew ?_ | refine blk_alloc ?_ _)); exact BK751.out⟩, ⟨by repeat (first | (with_reducible first | exact HB.out | apply below_alloc | apply pw_below_drewN | apply below_drew1 | refine below_set ?_ GE750.out | refine below_set ?_ GE751.out) | exact HB.out)⟩⟩
       ·rw [if_neg c46] at H
        have c46b0 : (t758 == 0) = false := beq_eq_false_iff_ne.mpr c46
        have c46b1 : (t758 != 0) = true := bne_iff_ne.mpr c46
        (first | rw [c46b0] | (simp only [i64_w, i32_w]; rw [c46b0]) | skip)
        have H' := Aside0.mk H
        clear H
        go_wp2
        go_meet
        case rel => exact ⟨_, (true), (by first | rfl | (simp; done) | (simp [*]; done)), H', ⟨by have := HJ8.out; first | omega | exact Nat.le_refl _⟩, ⟨by (with_reducible repeat (first | apply Kd.R_alloc | apply Kd.R_drewN | apply Kd.R_drew)); exact Kd.R_mono HO754.out (fun _ hk => ⟨hk.1.1.1.1.1.2, hk.1.1.1.1.2⟩)⟩, ⟨by (with_reducible repeat (first | apply Kd.R_alloc | apply Kd.R_drewN | apply Kd.R_drew)); exact Kd.R_mono HO_751001.out (fun _ hk => ⟨hk.1.1.1.1.1.2, hk.1.1.1.1.1.1⟩)⟩, ⟨by (with_reducible repeat (first | apply Kd.R_alloc | apply Kd.R_drewN | apply Kd.R_drew)); exact Kd.R_mono HO_752001.out (fun _ hk => ⟨hk.1.1.1.1.1.2, hk.1.1.1.1.1.1⟩)⟩, ⟨by (with_reducible repeat (first | refine blk_drewN ?_ _ | refine blk_drew ?_ | refine blk_alloc ?_ _)); exact BK750.out⟩, ⟨by (with_reducible repeat (first | refine blk_drewN ?_ _ | refine blk_drew ?_ | refine blk_alloc ?_ _)); exact BK751.out⟩, ⟨by repeat (first | (with_reducible first | exact HB.out | apply below_alloc | apply pw_below_drewN | apply below_drew1 | refine below_set ?_ GE750.out | refine below_set ?_ GE751.out) | exact HB.out)⟩⟩
      case rest =>
       clear HC36
       try clear c1
       try clear c2
       try clear p2
       try clear c3
       try clear c4
       try clear c5
       try clear p6
       try clear c10
       try clear c13
       try clear c14
       try clear c16
       try clear c17
       try clear c20
       try clear c23
       try clear c23b0
       try clear c23b1
       try clear c24
       try clear c25
       try clear c27
       try clear c28
       try clear c30
       try clear c32
       try clear c33
       try clear c37
       try clear c46
       try clear c46b0
       try clear c46b1
       try clear c47
       try clear c47b0
       try clear c47b1
       try clear c48
       try clear c48b0
       try clear c48b1
       try clear c50
       try clear c52
       try clear p64
       try clear hcz18_0
       try clear hcz18_1
       try clear hcz21_0
       try clear hcz21_1
       try clear hcz26_0
       try clear hcz26_1
       try clear hcz29_0
       try clear hcz29_1
       try clear hcz31_0
       try clear hcz31_1
       try clear hcz38_0
       try clear hcz38_1
       try clear hcz39_0
       try clear hcz39_1
       try clear hcz41_0
       try clear hcz41_1
       try clear hcz42_0
       try clear hcz42_1
       try clear hcz44_0
       try clear hcz44_1
       try clear hfz18_0
       try clear hfz18_1
       try clear hfz21_0
       try clear hfz21_1
       try clear hfz26_0
       try clear hfz26_1
       try clear hfz29_0
       try clear hfz29_1
       try clear hfz31_0
       try clear hfz31_1
       try clear hfz38_0
       try clear hfz38_1
       try clear hfz39_0
       try clear hfz39_1
       try clear hfz41_0
       try clear hfz41_1
       try clear hfz42_0
       try clear hfz42_1
       try clear hfz44_0
       try clear hfz44_1
       try clear p2
       obtain ⟨kq, x88_35, rfl, HA, HJ35, HO_6, HO_751001, HO_752001, BK750, BK751, HB⟩ := hcut
       cases kq with
       | zero => exact absurd HA.out (by simp [storagebarterlaw08_ManifestChanges.j1])
       | succ kj35 =>
        have H := HA.out
        clear HA
        simp only [storagebarterlaw08_ManifestChanges.j1] at H
        by_cases c65 : x88_35 = true
        ·subst c65
         rw [if_pos rfl] at H
         exact absurd (H.trans (congrArg some RT_.out)) (by simp)
        ·replace c65 := Bool.eq_false_iff.mpr c65
         subst c65
         rw [if_neg (show ¬ (false = true) by decide)] at H
         have H' := Aside0.mk H
         clear H
         obtain ⟨Ao66, co66, eo66⟩ := Kd.R_slice HO_6.out
         subst eo66
         go_wp2
         go_loopg [91] kj35 (fun kq v91 w' => ∃ (x91_3 : Int), v91 = .int .i64 x91_3 ∧ Aside0 (storagebarterlaw08_ManifestChanges.l0 kq t752 t752 (t752.length : Int) x91_3 t740 t741 t745 t746 = some r) ∧ Aside0 (kq ≤ kj35) ∧ Aside0 (Kd.R k78 78 w' w.heap.size (fun k_ => some k_ ≠ ((.slice Ao19 t741.length co19) : Value).ownBlock ∧ some k_ ≠ ((.slice Ao22 t746.length co22) : Value).ownBlock) (.slice Ao66 t752.length co66) t752) ∧ Aside0 (Kd.R k78 78 w' w.heap.size (fun k_ => some k_ ≠ ((.slice Ao19 t741.length co19) : Value).ownBlock ∧ some k_ ≠ ((.slice Ao22 t746.length co22) : Value).ownBlock) (.slice Ao66 t752.length co66) t752) ∧ Aside0 (Kd.R k78 78 w' w.heap.size (fun k_ => some k_ ≠ ((.slice Ao66 t752.length co66) : Value).ownBlock ∧ some k_ ≠ ((.slice Ao66 t752.length co66) : Value).ownBlock ∧ some k_ ≠ ((.slice Ao22 t746.length co22) : Value).ownBlock) (.slice Ao19 t741.length co19) t741) ∧ Aside0 (Kd.R k78 78 w' w.heap.size (fun k_ => some k_ ≠ ((.slice Ao66 t752.length co66) : Value).ownBlock ∧ some k_ ≠ ((.slice Ao66 t752.length co66) : Value).ownBlock ∧ some k_ ≠ ((.slice Ao19 t741.length co19) : Value).ownBlock) (.slice Ao22 t746.length co22) t746) ∧ Aside0 (w'.heap[gb750]? = some (.cells #[.int .i64 t740, (.slice Ao19 t741.length co19)] 32 (0, 0))) ∧ Aside0 (w'.heap[gb751]? = some (.cells #[.int .i64 t745, (.slice Ao22 t746.length co22)] 32 (0, 0))) ∧ Aside0 (Below w.heap.size w w'))
         case atStart => exact ⟨(0), (by first | rfl | (simp; done) | (simp [*]; done)), H', ⟨Nat.le_refl _⟩, ⟨by (with_reducible repeat (first | apply Kd.R_alloc | apply Kd.R_drewN | apply Kd.R_drew)); exact HO_6.out⟩, ⟨by (with_reducible repeat (first | apply Kd.R_alloc | apply Kd.R_drewN | apply Kd.R_drew)); exact HO_6.out⟩, ⟨by (with_reducible repeat (first | apply Kd.R_alloc | apply Kd.R_drewN | apply Kd.R_drew)); exact Kd.R_mono HO_751001.out (fun _ hk => ⟨hk.1, ⟨hk.1, hk.2⟩⟩)⟩, ⟨by (with_reducible repeat (first | apply Kd.R_alloc | apply Kd.R_drewN | apply Kd.R_drew)); exact Kd.R_mono HO_752001.out (fun _ hk => ⟨hk.1, ⟨hk.1, hk.2⟩⟩)⟩, ⟨by (with_reducible repeat (first | refine blk_drewN ?_ _ | refine blk_drew ?_ | refine blk_alloc ?_ _)); exact BK750.out⟩, ⟨by (with_reducible repeat (first | refine blk_drewN ?_ _ | refine blk_drew ?_ | refine blk_alloc ?_ _)); exact BK751.out⟩, ⟨by repeat (first | (with_reducible first | exact HB.out | apply below_alloc | apply pw_below_drewN | apply below_drew1 | refine below_set ?_ GE750.out | refine below_set ?_ GE751.out) | exact HB.out)⟩⟩
         case round =>
          clear H'
          try clear c1
          try clear c2
          try clear p2
          try clear c3
          try clear c4
          try clear c5
          try clear c6
          try clear p6
          try clear c10
          try clear c13
          try clear c14
          try clear c16
          try clear c17
          try clear c20
          try clear c23
          try clear c23b0
          try clear c23b1
          try clear c24
          try clear c25
          try clear c27
          try clear c28
          try clear c30
          try clear c32
          try clear c33
          try clear c37
          try clear c46
          try clear c46b0
          try clear c46b1
          try clear c47
          try clear c47b0
          try clear c47b1
          try clear c48
          try clear c48b0
          try clear c48b1
          try clear c50
          try clear c52
          try clear p64
          try clear c65
          try clear hcz18_0
          try clear hcz18_1
          try clear hcz21_0
          try clear hcz21_1
          try clear hcz26_0
          try clear hcz26_1
          try clear hcz29_0
          try clear hcz29_1
          try clear hcz31_0
          try clear hcz31_1
          try clear hcz38_0
          try clear hcz38_1
          try clear hcz39_0
          try clear hcz39_1
          try clear hcz41_0
          try clear hcz41_1
          try clear hcz42_0
          try clear hcz42_1
          try clear hcz44_0
          try clear hcz44_1
          try clear hfz18_0
          try clear hfz18_1
          try clear hfz21_0
          try clear hfz21_1
          try clear hfz26_0
          try clear hfz26_1
          try clear hfz29_0
          try clear hfz29_1
          try clear hfz31_0
          try clear hfz31_1
          try clear hfz38_0
          try clear hfz38_1
          try clear hfz39_0
          try clear hfz39_1
          try clear hfz41_0
          try clear hfz41_1
          try clear hfz42_0
          try clear hfz42_1
          try clear hfz44_0
          try clear hfz44_1
          try clear p2
          try clear p6
          try clear p64
          obtain ⟨x91_3, rfl, HA, HK3, HO_6, HO_89, HO_751001, HO_752001, BK750, BK751, HB⟩ := hrel
          cases gk with
          | zero => exact absurd HA.out (by simp [storagebarterlaw08_ManifestChanges.l0])
          | succ k3 =>
           have H := HA.out
           clear HA
           simp only [storagebarterlaw08_ManifestChanges.l0] at H
           by_cases c67 : x91_3 < (t752.length : Int)
           ·rw [if_pos c67] at H
            have c67b0 : decide (x91_3 < (t752.length : Int)) = true := decide_eq_true c67
            clear c67
            by_cases c68 : 0 ≤ x91_3
            ·rw [if_pos c68] at H
             have c68b0 : decide (0 ≤ x91_3) = true := decide_eq_true c68
             clear c68
             by_cases c69 : x91_3 < (t752.length : Int)
             ·rw [if_pos c69] at H
              have c69b0 : decide (x91_3 < (t752.length : Int)) = true := decide_eq_true c69
              clear c69
              replace H := Option.bind_eq_some_iff.mp H
              obtain ⟨t777, A700, H⟩ := H
              try dsimp only at H
              have A70 := Aside0.mk A700
              clear A700
              by_cases c71 : t777 = true
              ·subst c71
               rw [if_pos rfl] at H
               replace H := Option.bind_eq_some_iff.mp H
               obtain ⟨t778, A720, H⟩ := H
               try dsimp only at H
               have A72 := Aside0.mk A720
               clear A720
               by_cases c73 : t778 = true
               ·subst c73
                rw [if_pos rfl] at H
                exact absurd (H.trans (congrArg some RT_.out)) (by simp)
               ·replace c73 := Bool.eq_false_iff.mpr c73
                subst c73
                rw [if_neg (show ¬ (false = true) by decide)] at H
                by_cases c74 : x91_3 > 0
                ·rw [if_pos c74] at H
                 have c74b0 : decide (0 < x91_3) = true := decide_eq_true c74
                 clear c74
                 obtain ⟨ji75, hji75⟩ : ∃ j_ : Int, (wrap64 (x91_3 - 1)) = j_ := ⟨_, rfl⟩
                 replace H : (if 0 ≤ (ji75) then (if (ji75) < (t752.length : Int) then (if ((rd_T78 t752 (ji75)).f0) > ((rd_T78 t752 x91_3).f0) then (some false) else (if ((rd_T78 t752 (ji75)).f0) = ((rd_T78 t752 x91_3).f0) then (if ((rd_T78 t752 (ji75)).f1) ≥ ((rd_T78 t752 x91_3).f1) then (some false) else (storagebarterlaw08_ManifestChanges.l0 k3 t752 t752 (t752.length : Int) (wrap64 (x91_3 + 1)) t740 t741 t745 t746)) else (storagebarterlaw08_ManifestChanges.l0 k3 t752 t752 (t752.length : Int) (wrap64 (x91_3 + 1)) t740 t741 t745 t746))) else (none)) else (none)) = some r := by first | (rw [hji75] at H; exact H) | (simp only [hji75] at H ⊢; exact H)
                 (try rw [hji75] at A70)
                 (try rw [hji75] at A72)
                 have hji75w : (IntKind.i64.wrap (x91_3 - 1)) = ji75 := (i64_w _).trans hji75
                 by_cases c76 : 0 ≤ (ji75)
                 ·rw [if_pos c76] at H
                  have c76b0 : decide (0 ≤ (ji75)) = true := decide_eq_true c76
                  clear c76
                  by_cases c77 : (ji75) < (t752.length : Int)
                  ·rw [if_pos c77] at H
                   have c77b0 : decide ((ji75) < (t752.length : Int)) = true := decide_eq_true c77
                   clear c77
                   by_cases c78 : ((rd_T78 t752 (ji75)).f0) > ((rd_T78 t752 x91_3).f0)
                   ·rw [if_pos c78] at H
                    have c78b0 : decide (((rd_T78 t752 x91_3).f0) < ((rd_T78 t752 (ji75)).f0)) = true := decide_eq_true c78
                    clear c78
                    exact absurd (H.trans (congrArg some RT_.out)) (by simp)
                   ·rw [if_neg c78] at H
                    have c78b0 : decide (((rd_T78 t752 x91_3).f0) < ((rd_T78 t752 (ji75)).f0)) = false := decide_eq_false c78
                    clear c78
                    by_cases c79 : ((rd_T78 t752 (ji75)).f0) = ((rd_T78 t752 x91_3).f0)
                    ·rw [if_pos c79] at H
                     have c79b0 : (((rd_T78 t752 (ji75)).f0) == ((rd_T78 t752 x91_3).f0)) = true := beq_iff_eq.mpr c79
                     have c79b1 : (((rd_T78 t752 (ji75)).f0) != ((rd_T78 t752 x91_3).f0)) = false := bne_eq_false_iff_eq.mpr c79
                     clear c79
                     by_cases c80 : ((rd_T78 t752 (ji75)).f1) ≥ ((rd_T78 t752 x91_3).f1)
                     ·rw [if_pos c80] at H
                      exact absurd (H.trans (congrArg some RT_.out)) (by simp)
                     ·rw [if_neg c80] at H
                      have c80b0 : decide (((rd_T78 t752 x91_3).f1) ≤ ((rd_T78 t752 (ji75)).f1)) = false := decide_eq_false c80
                      clear c80
                      have H' := Aside0.mk H
                      clear H
                      have p775 : 0 ≤ (x91_3 : Int) := of_decide_eq_true (by first | (with_reducible assumption) | assumption)
                      have q775 : x91_3 < (t752.length : Int) := of_decide_eq_true (by first | (with_reducible assumption) | assumption)
                      obtain ⟨ad775, e775, hx775_0, hx775_1⟩ := at_T78 (Kd.R_reads' HO_89.out).2.2 x91_3 p775 q775
                      cases e775
                      replace p775 := eq_true p775
                      replace q775 := eq_true q775
                      try go_wp2_with (first | ((with_reducible refine gate_dst (N := 16) rfl ?_); (try (refine gate_guard (by rfl) ?_; dsimp only)); refine box_event ?hg (N := 16) ?hd (cs := #[.int .i64 0, .int .i64 0]) (t := 78) ?hr ?_; (case hd => rfl); (case hg => rfl); (case hr => first | (go_simp; done) | (go_simp; rfl)); intro gb776 hg w81 hbox hb; have n0_ := Aside0.mk (Kd.R_below (Kd.R_elderB (by (with_reducible repeat (first | apply Kd.R_alloc | apply Kd.R_drewN | apply Kd.R_drew)); exact HO_6.out) gb776 (Nat.le_of_eq hg.symm)) hb); have n1_ := Aside0.mk (Kd.R_below (Kd.R_elderB (by (with_reducible repeat (first | apply Kd.R_alloc | apply Kd.R_drewN | apply Kd.R_drew)); exact HO_89.out) gb776 (Nat.le_of_eq hg.symm)) hb); have n2_ := Aside0.mk (Kd.R_below (Kd.R_elderB (by (with_reducible repeat (first | apply Kd.R_alloc | apply Kd.R_drewN | apply Kd.R_drew)); exact HO_751001.out) gb776 (Nat.le_of_eq hg.symm)) hb); have n3_ := Aside0.mk (Kd.R_below (Kd.R_elderB (by (with_reducible repeat (first | apply Kd.R_alloc | apply Kd.R_drewN | apply Kd.R_drew)); exact HO_752001.out) gb776 (Nat.le_of_eq hg.symm)) hb); have n4_ := Aside0.mk (blk_below (g := gb750) (o := .cells #[.int .i64 t740, .slice Ao19 t741.length co19] 32 (0, 0)) (by (with_reducible repeat (first | refine blk_drewN ?_ _ | refine blk_drew ?_ | refine blk_alloc ?_ _)); exact BK750.out) hb); have n5_ := Aside0.mk (blk_below (g := gb751) (o := .cells #[.int .i64 t745, .slice Ao22 t746.length co22] 32 (0, 0)) (by (with_reducible repeat (first | refine blk_drewN ?_ _ | refine blk_drew ?_ | refine blk_alloc ?_ _)); exact BK751.out) hb); have n6_ := Aside0.mk (below_step (by repeat (first | (with_reducible first | exact HB.out | apply below_alloc | apply pw_below_drewN | apply below_drew1 | refine below_set ?_ GE750.out | refine below_set ?_ GE751.out) | exact HB.out)) hb); have n7_ := Aside0.mk (hbox); have n8_ := Aside0.mk ((by rw [hg]; exact (below_size (by repeat (first | (with_reducible first | exact HB.out | apply below_alloc | apply pw_below_drewN | apply below_drew1 | refine below_set ?_ GE750.out | refine below_set ?_ GE751.out) | exact HB.out))) : w.heap.size ≤ gb776)); have n9_ := Aside0.mk ((by rw [hg]; exact (below_size (by repeat (first | (with_reducible first | exact HB.out | apply below_alloc | apply pw_below_drewN | apply below_drew1 | refine below_set ?_ GE750.out | refine below_set ?_ GE751.out) | exact HB.out))) : w.heap.size ≤ gb776)); have n10_ := Aside0.mk ((by rw [hg]; exact Nat.ne_of_lt (blk_lt (g := gb750) (o := .cells #[.int .i64 t740, .slice Ao19 t741.length co19] 32 (0, 0)) (by (with_reducible repeat (first | refine blk_drewN ?_ _ | refine blk_drew ?_ | refine blk_alloc ?_ _)); exact BK750.out)) : gb750 ≠ gb776)); have n11_ := Aside0.mk ((by rw [hg]; exact Nat.ne_of_gt (blk_lt (g := gb750) (o := .cells #[.int .i64 t740, .slice Ao19 t741.length co19] 32 (0, 0)) (by (with_reducible repeat (first | refine blk_drewN ?_ _ | refine blk_drew ?_ | refine blk_alloc ?_ _)); exact BK750.out)) : gb776 ≠ gb750)); have n12_ := Aside0.mk ((by rw [hg]; exact Nat.ne_of_lt (blk_lt (g := gb751) (o := .cells #[.int .i64 t745, .slice Ao22 t746.length co22] 32 (0, 0)) (by (with_reducible repeat (first | refine blk_drewN ?_ _ | refine blk_drew ?_ | refine blk_alloc ?_ _)); exact BK751.out)) : gb751 ≠ gb776)); have n13_ := Aside0.mk ((by rw [hg]; exact Nat.ne_of_gt (blk_lt (g := gb751) (o := .cells #[.int .i64 t745, .slice Ao22 t746.length co22] 32 (0, 0)) (by (with_reducible repeat (first | refine blk_drewN ?_ _ | refine blk_drew ?_ | refine blk_alloc ?_ _)); exact BK751.out)) : gb776 ≠ gb751)); clear HO_6; clear HO_89; clear HO_751001; clear HO_752001; clear BK750; clear BK751; clear HB; have HO_6 := n0_; have HO_89 := n1_; have HO_751001 := n2_; have HO_752001 := n3_; have BK750 := n4_; have BK751 := n5_; have HB := n6_; have BK776 := n7_; have GW776 := n8_; have GE776 := n9_; have NB750_776 := n10_; have NB776_750 := n11_; have NB751_776 := n12_; have NB776_751 := n13_; clear n0_ n1_ n2_ n3_ n4_ n5_ n6_ n7_ n8_ n9_ n10_ n11_ n12_ n13_; clear hb hbox hg; have hnb82 := NB776_750.out; have hnc82 := NB750_776.out; have hnb83 := NB776_751.out; have hnc83 := NB751_776.out; have hcz84_0 : w81.cell? ⟨gb776, 0, none⟩ = some (.int .i64 0) := (blk_cell BK776.out 0).trans rfl; have hcz84_1 : w81.cell? ⟨gb776, 1, none⟩ = some (.int .i64 0) := (blk_cell BK776.out 1).trans rfl; have hfz84_0 := blk_frozen BK776.out 0; have hfz84_1 := blk_frozen BK776.out 1))
                      have n0_ : Aside0 (Kd.R k78 78 ((w81.setCell ⟨gb776, 0, none⟩ (.int .i64 ((rd_T78 t752 x91_3).f0))).setCell ⟨gb776, 1, none⟩ (.int .i64 ((rd_T78 t752 x91_3).f1))) w.heap.size (fun k_ => some k_ ≠ (.slice Ao19 t741.length co19 : Value).ownBlock ∧ some k_ ≠ (.slice Ao22 t746.length co22 : Value).ownBlock ∧ k_ ≠ gb776) (.slice (some ad775) t752.length co66) t752) := ⟨by (with_reducible repeat (first | apply Kd.R_alloc | apply Kd.R_drewN | apply Kd.R_drew)); exact Kd.R_mono (Kd.R_far (p := ⟨gb776, 1, none⟩) (Kd.R_far (p := ⟨gb776, 0, none⟩) (Kd.R_mono HO_6.out (fun k_ hk => (⟨hk, hk.2⟩ : _ ∧ k_ ≠ gb776))) (fun _ hk => hk.2) (.int .i64 ((rd_T78 t752 x91_3).f0))) (fun _ hk => hk.2) (.int .i64 ((rd_T78 t752 x91_3).f1))) (fun _ hk => ⟨hk.1.1.1, ⟨hk.1.1.2, hk.1.2⟩⟩)⟩
                      have n1_ : Aside0 (Kd.R k78 78 ((w81.setCell ⟨gb776, 0, none⟩ (.int .i64 ((rd_T78 t752 x91_3).f0))).setCell ⟨gb776, 1, none⟩ (.int .i64 ((rd_T78 t752 x91_3).f1))) w.heap.size (fun k_ => some k_ ≠ (.slice Ao19 t741.length co19 : Value).ownBlock ∧ some k_ ≠ (.slice Ao22 t746.length co22 : Value).ownBlock ∧ k_ ≠ gb776) (.slice (some ad775) t752.length co66) t752) := ⟨by (with_reducible repeat (first | apply Kd.R_alloc | apply Kd.R_drewN | apply Kd.R_drew)); exact Kd.R_mono (Kd.R_far (p := ⟨gb776, 1, none⟩) (Kd.R_far (p := ⟨gb776, 0, none⟩) (Kd.R_mono HO_89.out (fun k_ hk => (⟨hk, hk.2⟩ : _ ∧ k_ ≠ gb776))) (fun _ hk => hk.2) (.int .i64 ((rd_T78 t752 x91_3).f0))) (fun _ hk => hk.2) (.int .i64 ((rd_T78 t752 x91_3).f1))) (fun _ hk => ⟨hk.1.1.1, ⟨hk.1.1.2, hk.1.2⟩⟩)⟩
                      have n2_ : Aside0 (Kd.R k78 78 ((w81.setCell ⟨gb776, 0, none⟩ (.int .i64 ((rd_T78 t752 x91_3).f0))).setCell ⟨gb776, 1, none⟩ (.int .i64 ((rd_T78 t752 x91_3).f1))) w.heap.size (fun k_ => some k_ ≠ (.slice (some ad775) t752.length co66 : Value).ownBlock ∧ some k_ ≠ (.slice (some ad775) t752.length co66 : Value).ownBlock ∧ some k_ ≠ (.slice Ao22 t746.length co22 : Value).ownBlock ∧ k_ ≠ gb776) (.slice Ao19 t741.length co19) t741) := ⟨by (with_reducible repeat (first | apply Kd.R_alloc | apply Kd.R_drewN | apply Kd.R_drew)); exact Kd.R_mono (Kd.R_far (p := ⟨gb776, 1, none⟩) (Kd.R_far (p := ⟨gb776, 0, none⟩) (Kd.R_mono HO_751001.out (fun k_ hk => (⟨hk, hk.2⟩ : _ ∧ k_ ≠ gb776))) (fun _ hk => hk.2) (.int .i64 ((rd_T78 t752 x91_3).f0))) (fun _ hk => hk.2) (.int .i64 ((rd_T78 t752 x91_3).f1))) (fun _ hk => ⟨hk.1.1.1, ⟨hk.1.1.2.1, ⟨hk.1.1.2.2, hk.1.2⟩⟩⟩)⟩
                      have n3_ : Aside0 (Kd.R k78 78 ((w81.setCell ⟨gb776, 0, none⟩ (.int .i64 ((rd_T78 t752 x91_3).f0))).setCell ⟨gb776, 1, none⟩ (.int .i64 ((rd_T78 t752 x91_3).f1))) w.heap.size (fun k_ => some k_ ≠ (.slice (some ad775) t752.length co66 : Value).ownBlock ∧ some k_ ≠ (.slice (some ad775) t752.length co66 : Value).ownBlock ∧ some k_ ≠ (.slice Ao19 t741.length co19 : Value).ownBlock ∧ k_ ≠ gb776) (.slice Ao22 t746.length co22) t746) := ⟨by (with_reducible repeat (first | apply Kd.R_alloc | apply Kd.R_drewN | apply Kd.R_drew)); exact Kd.R_mono (Kd.R_far (p := ⟨gb776, 1, none⟩) (Kd.R_far (p := ⟨gb776, 0, none⟩) (Kd.R_mono HO_752001.out (fun k_ hk => (⟨hk, hk.2⟩ : _ ∧ k_ ≠ gb776))) (fun _ hk => hk.2) (.int .i64 ((rd_T78 t752 x91_3).f0))) (fun _ hk => hk.2) (.int .i64 ((rd_T78 t752 x91_3).f1))) (fun _ hk => ⟨hk.1.1.1, ⟨hk.1.1.2.1, ⟨hk.1.1.2.2, hk.1.2⟩⟩⟩)⟩
                      have n4_ : Aside0 (((w81.setCell ⟨gb776, 0, none⟩ (.int .i64 ((rd_T78 t752 x91_3).f0))).setCell ⟨gb776, 1, none⟩ (.int .i64 ((rd_T78 t752 x91_3).f1))).heap[gb750]? = some (.cells #[.int .i64 t740, .slice Ao19 t741.length co19] 32 (0, 0))) := ⟨by (with_reducible repeat (first | refine blk_drewN ?_ _ | refine blk_drew ?_ | refine blk_alloc ?_ _)); refine blk_far ?_ NB750_776.out _; (with_reducible repeat (first | refine blk_drewN ?_ _ | refine blk_drew ?_ | refine blk_alloc ?_ _)); refine blk_far ?_ NB750_776.out _; (with_reducible repeat (first | refine blk_drewN ?_ _ | refine blk_drew ?_ | refine blk_alloc ?_ _)); exact BK750.out⟩
                      have n5_ : Aside0 (((w81.setCell ⟨gb776, 0, none⟩ (.int .i64 ((rd_T78 t752 x91_3).f0))).setCell ⟨gb776, 1, none⟩ (.int .i64 ((rd_T78 t752 x91_3).f1))).heap[gb751]? = some (.cells #[.int .i64 t745, .slice Ao22 t746.length co22] 32 (0, 0))) := ⟨by (with_reducible repeat (first | refine blk_drewN ?_ _ | refine blk_drew ?_ | refine blk_alloc ?_ _)); refine blk_far ?_ NB751_776.out _; (with_reducible repeat (first | refine blk_drewN ?_ _ | refine blk_drew ?_ | refine blk_alloc ?_ _)); refine blk_far ?_ NB751_776.out _; (with_reducible repeat (first | refine blk_drewN ?_ _ | refine blk_drew ?_ | refine blk_alloc ?_ _)); exact BK751.out⟩
                      have n6_ : Aside0 (((w81.setCell ⟨gb776, 0, none⟩ (.int .i64 ((rd_T78 t752 x91_3).f0))).setCell ⟨gb776, 1, none⟩ (.int .i64 ((rd_T78 t752 x91_3).f1))).heap[gb776]? = some (.cells #[.int .i64 ((rd_T78 t752 x91_3).f0), .int .i64 ((rd_T78 t752 x91_3).f1)] 78 (0, 0))) := ⟨by (with_reducible repeat (first | refine blk_drewN ?_ _ | refine blk_drew ?_ | refine blk_alloc ?_ _)); refine blk_put (cs := #[.int .i64 ((rd_T78 t752 x91_3).f0), .int .i64 0]) ?_ 1 _ rfl; (with_reducible repeat (first | refine blk_drewN ?_ _ | refine blk_drew ?_ | refine blk_alloc ?_ _)); refine blk_put (cs := #[.int .i64 0, .int .i64 0]) ?_ 0 _ rfl; (with_reducible repeat (first | refine blk_drewN ?_ _ | refine blk_drew ?_ | refine blk_alloc ?_ _)); exact BK776.out⟩
                      have n7_ : Aside0 (Below w.heap.size w ((w81.setCell ⟨gb776, 0, none⟩ (.int .i64 ((rd_T78 t752 x91_3).f0))).setCell ⟨gb776, 1, none⟩ (.int .i64 ((rd_T78 t752 x91_3).f1)))) := ⟨by repeat (first | (with_reducible first | exact HB.out | apply below_alloc | apply pw_below_drewN | apply below_drew1 | refine below_set ?_ GE750.out | refine below_set ?_ GE751.out | refine below_set ?_ GE776.out) | exact HB.out)⟩
                      (try clear HO_6)
                      (try clear HO_89)
                      (try clear HO_751001)
                      (try clear HO_752001)
                      (try clear BK750)
                      (try clear BK751)
                      (try clear BK776)
                      (try clear HB)
                      generalize ((w81.setCell ⟨gb776, 0, none⟩ (.int .i64 ((rd_T78 t752 x91_3).f0))).setCell ⟨gb776, 1, none⟩ (.int .i64 ((rd_T78 t752 x91_3).f1))) = w85 at n0_ n1_ n2_ n3_ n4_ n5_ n6_ n7_ ⊢
                      have HO_6 := n0_
                      have HO_89 := n1_
                      have HO_751001 := n2_
                      have HO_752001 := n3_
                      have BK750 := n4_
                      have BK751 := n5_
                      have BK776 := n6_
                      have HB := n7_
                      clear n0_ n1_ n2_ n3_ n4_ n5_ n6_ n7_
                      have n0_ := Aside0.mk (Kd.R_drew HO_6.out)
                      have n1_ := Aside0.mk (Kd.R_drew HO_89.out)
                      have n2_ := Aside0.mk (Kd.R_drew HO_751001.out)
                      have n3_ := Aside0.mk (Kd.R_drew HO_752001.out)
                      have n4_ := Aside0.mk (blk_drew BK750.out)
                      have n5_ := Aside0.mk (blk_drew BK751.out)
                      have n6_ := Aside0.mk (blk_drew BK776.out)
                      have n7_ := Aside0.mk (below_drew1 HB.out)
                      clear HO_6
                      clear HO_89
                      clear HO_751001
                      clear HO_752001
                      clear BK750
                      clear BK751
                      clear BK776
                      clear HB
                      have HO_6 := n0_
                      have HO_89 := n1_
                      have HO_751001 := n2_
                      have HO_752001 := n3_
                      have BK750 := n4_
                      have BK751 := n5_
                      have BK776 := n6_
                      have HB := n7_
                      clear n0_ n1_ n2_ n3_ n4_ n5_ n6_ n7_
                      have p779 : 0 ≤ ((ji75) : Int) := of_decide_eq_true (by first | (with_reducible assumption) | assumption)
                      have q779 : (ji75) < (t752.length : Int) := of_decide_eq_true (by first | (with_reducible assumption) | assumption)
                      obtain ⟨ad779, e779, hx779_0, hx779_1⟩ := at_T78 (Kd.R_reads' HO_6.out).2.2 (ji75) p779 q779
                      obtain rfl : ad775 = ad779 := (by injection e779)
                      replace p779 := eq_true p779
                      replace q779 := eq_true q779
                      have p780 : 0 ≤ ((ji75) : Int) := of_decide_eq_true (by first | (with_reducible assumption) | assumption)
                      have q780 : (ji75) < (t752.length : Int) := of_decide_eq_true (by first | (with_reducible assumption) | assumption)
                      obtain ⟨ad780, e780, hx780_0, hx780_1⟩ := at_T78 (Kd.R_reads' HO_6.out).2.2 (ji75) p780 q780
                      obtain rfl : ad775 = ad780 := (by injection e780)
                      replace p780 := eq_true p780
                      replace q780 := eq_true q780
                      have p781 : 0 ≤ ((ji75) : Int) := of_decide_eq_true (by first | (with_reducible assumption) | assumption)
                      have q781 : (ji75) < (t752.length : Int) := of_decide_eq_true (by first | (with_reducible assumption) | assumption)
                      obtain ⟨ad781, e781, hx781_0, hx781_1⟩ := at_T78 (Kd.R_reads' HO_6.out).2.2 (ji75) p781 q781
                      obtain rfl : ad775 = ad781 := (by injection e781)
                      replace p781 := eq_true p781
                      replace q781 := eq_true q781
                      refine start_ (n := 48) (S := fun w' => w'.cell? ⟨gb751, 0, none⟩ = some (.int .i64 t745) ∧ w'.cell? ⟨gb751, 1, none⟩ = some (.slice Ao22 t746.length co22) ∧ w'.cell? ⟨gb776, 0, none⟩ = some (.int .i64 ((rd_T78 t752 x91_3).f0)) ∧ w'.cell? ⟨gb776, 1, none⟩ = some (.int .i64 ((rd_T78 t752 x91_3).f1)) ∧ w'.cell? ⟨gb750, 0, none⟩ = some (.int .i64 t740) ∧ w'.cell? ⟨gb750, 1, none⟩ = some (.slice Ao19 t741.length co19) ∧ w'.cell? (ad775.add (((ji75)).toNat * 2)) = some (.int .i64 ((rd_T78 t752 (ji75)).f0)) ∧ w'.cell? ⟨(ad775.add (((ji75)).toNat * 2)).block, (ad775.add (((ji75)).toNat * 2)).off + 1, none⟩ = some (.int .i64 ((rd_T78 t752 (ji75)).f1)) ∧ w'.cell? (ad775.add (((ji75)).toNat * 2)) = some (.int .i64 ((rd_T78 t752 (ji75)).f0)) ∧ w'.cell? ⟨(ad775.add (((ji75)).toNat * 2)).block, (ad775.add (((ji75)).toNat * 2)).off + 1, none⟩ = some (.int .i64 ((rd_T78 t752 (ji75)).f1)) ∧ w'.cell? (ad775.add (((ji75)).toNat * 2)) = some (.int .i64 ((rd_T78 t752 (ji75)).f0)) ∧ w'.cell? ⟨(ad775.add (((ji75)).toNat * 2)).block, (ad775.add (((ji75)).toNat * 2)).off + 1, none⟩ = some (.int .i64 ((rd_T78 t752 (ji75)).f1))) (ds := []) #[false, false, false, false, false, false, false, false, false, false, false, false, false, false, false, false, false, false, false, false, false, false, false, false, false, false, false, false, false, false, false, false, false, false, false, false, false, false, false, false, false, false, false, false, false, false, false, false] (by kernel_rfl) rfl rfl ⟨(blk_cell BK751.out 0).trans rfl, (blk_cell BK751.out 1).trans rfl, (blk_cell BK776.out 0).trans rfl, (blk_cell BK776.out 1).trans rfl, (blk_cell BK750.out 0).trans rfl, (blk_cell BK750.out 1).trans rfl, hx779_0, hx779_1, hx780_0, hx780_1, hx781_0, hx781_1⟩ (fun hHeld => ?_); refine with_tabW storagebarterlaw08_ManifestChanges.tab17 storagebarterlaw08_ManifestChanges.bits17 (fun HT_ HW_ => ?_)
                      generalize w85.drew = w86 at HO_6 HO_89 HO_751001 HO_752001 BK750 BK751 BK776 HB hx779_0 hx779_1 hx780_0 hx780_1 hx781_0 hx781_1 hHeld ⊢
                      refine pu 0 96 (v := ?_) (a' := ?_) HT_ rfl rfl (by kernel_rfl) (fun _ _ _ h => h) (Or.inl ⟨by rfl, ?_⟩) ?_ ?_
                      rotate_left; (intro w'; go_simp; with_reducible rfl); rotate_left; (simp only [Act.put, Sa, Sz, Ss, i64_w, i32_w]; rfl)
                      refine tk 1 97 (v := ?_) (a' := ?_) HT_ HW_ rfl rfl (by kernel_rfl) (fun _ _ _ h => h) (Or.inl ⟨by rfl, ?_⟩) hHeld ?_ ?_
                      rotate_left; (rintro w' ⟨s0, s1, s2, s3, s4, s5, s6, s7, s8, s9, s10, s11⟩; go_simp; with_reducible rfl); rotate_left; (simp only [Act.put, Sa, Sz, Ss, i64_w, i32_w]; rfl)
                      refine tk 2 98 (v := ?_) (a' := ?_) HT_ HW_ rfl rfl (by kernel_rfl) (fun _ _ _ h => h) (Or.inl ⟨by rfl, ?_⟩) hHeld ?_ ?_
                      rotate_left; (rintro w' ⟨s0, s1, s2, s3, s4, s5, s6, s7, s8, s9, s10, s11⟩; go_simp; with_reducible rfl); rotate_left; (simp only [Act.put, Sa, Sz, Ss, i64_w, i32_w]; rfl)
                      refine one_ (i := 3) (N := some 99) #[true, true, true, true, false, false, false, false, false, false, false, false, false, false, false, false, false, false, false, false, false, false, false, false, false, false, false, false, false, false, false, false, false, false, false, false, false, false, false, false, false, false, false, false, false, false, false, false] rfl rfl (one_of HT_.out (by kernel_rfl)) (by decide) (fun K hK => ?_)
                      refine goes_ Try.func49 (by kernel_rfl) rfl #[.slice Ao22 t746.length co22, .agg #[.int .i64 ((rd_T78 t752 x91_3).f0), .int .i64 ((rd_T78 t752 x91_3).f1)]] (by rfl) rfl rfl (by (try simp only [List.map_toArray, List.map_cons, List.map_nil]); first | done | rfl | (simp only [List.length_drop, List.length_take]; rfl)) ?_
                      with_reducible refine (storagebarterlaw08_has.calls k3 _ _ t746 ((rd_T78 t752 x91_3).f0) ((rd_T78 t752 x91_3).f1) true _ ?side1 ?side2 A70.out).mono ?_
                      (case side1 => repeat (first | exact (Kd.R_reads' HO_752001.out).2.2 | (with_reducible refine Kd.C_alloc ?_ _) | (with_reducible refine Kd.C_drewN ?_ _) | (with_reducible refine Kd.C_drew ?_)))
                      (case side2 => exact (Kd.R_reads' HO_752001.out).2.1)
                      rintro e w87 ⟨rfl, hb⟩
                      have HS6_ := (hb.cell (World.block_lt_of_cell? _ _ (hHeld.2.2.2.2.2.2.1))).trans (hHeld.2.2.2.2.2.2.1)
                      have HS7_ := (hb.cell (World.block_lt_of_cell? _ _ (hHeld.2.2.2.2.2.2.2.1))).trans (hHeld.2.2.2.2.2.2.2.1)
                      have HS8_ := (hb.cell (World.block_lt_of_cell? _ _ (hHeld.2.2.2.2.2.2.2.2.1))).trans (hHeld.2.2.2.2.2.2.2.2.1)
                      have HS9_ := (hb.cell (World.block_lt_of_cell? _ _ (hHeld.2.2.2.2.2.2.2.2.2.1))).trans (hHeld.2.2.2.2.2.2.2.2.2.1)
                      have HS10_ := (hb.cell (World.block_lt_of_cell? _ _ (hHeld.2.2.2.2.2.2.2.2.2.2.1))).trans (hHeld.2.2.2.2.2.2.2.2.2.2.1)
                      have HS11_ := (hb.cell (World.block_lt_of_cell? _ _ (hHeld.2.2.2.2.2.2.2.2.2.2.2))).trans (hHeld.2.2.2.2.2.2.2.2.2.2.2)
                      refine ⟨_, rfl, ?_⟩
                      have n0_ := Aside0.mk (Kd.R_below (by (with_reducible repeat (first | apply Kd.R_alloc | apply Kd.R_drewN | apply Kd.R_drew)); exact HO_6.out) hb)
                      have n1_ := Aside0.mk (Kd.R_below (by (with_reducible repeat (first | apply Kd.R_alloc | apply Kd.R_drewN | apply Kd.R_drew)); exact HO_89.out) hb)
                      have n2_ := Aside0.mk (Kd.R_below (by (with_reducible repeat (first | apply Kd.R_alloc | apply Kd.R_drewN | apply Kd.R_drew)); exact HO_751001.out) hb)
                      have n3_ := Aside0.mk (Kd.R_below (by (with_reducible repeat (first | apply Kd.R_alloc | apply Kd.R_drewN | apply Kd.R_drew)); exact HO_752001.out) hb)
                      have n4_ := Aside0.mk (blk_below (g := gb750) (o := .cells #[.int .i64 t740, .slice Ao19 t741.length co19] 32 (0, 0)) (by (with_reducible repeat (first | refine blk_drewN ?_ _ | refine blk_drew ?_ | refine blk_alloc ?_ _)); exact BK750.out) hb)
                      have n5_ := Aside0.mk (blk_below (g := gb751) (o := .cells #[.int .i64 t745, .slice Ao22 t746.length co22] 32 (0, 0)) (by (with_reducible repeat (first | refine blk_drewN ?_ _ | refine blk_drew ?_ | refine blk_alloc ?_ _)); exact BK751.out) hb)
                      have n6_ := Aside0.mk (blk_below (g := gb776) (o := .cells #[.int .i64 ((rd_T78 t752 x91_3).f0), .int .i64 ((rd_T78 t752 x91_3).f1)] 78 (0, 0)) (by (with_reducible repeat (first | refine blk_drewN ?_ _ | refine blk_drew ?_ | refine blk_alloc ?_ _)); exact BK776.out) hb)
                      have n7_ := Aside0.mk (below_step (by repeat (first | (with_reducible first | exact HB.out | apply below_alloc | apply pw_below_drewN | apply below_drew1 | refine below_set ?_ GE750.out | refine below_set ?_ GE751.out | refine below_set ?_ GE776.out) | exact HB.out)) hb)
                      clear HO_6
                      clear HO_89
                      clear HO_751001
                      clear HO_752001
                      clear BK750
                      clear BK751
                      clear BK776
                      clear HB
                      have HO_6 := n0_
                      have HO_89 := n1_
                      have HO_751001 := n2_
                      have HO_752001 := n3_
                      have BK750 := n4_
                      have BK751 := n5_
                      have BK776 := n6_
                      have HB := n7_
                      clear n0_ n1_ n2_ n3_ n4_ n5_ n6_ n7_
                      (try clear hb)
                      (try clear hb2)
                      (try clear hk)
                      (try clear hi)
                      refine hK.out _ _ ⟨(blk_cell BK751.out 0).trans rfl, (blk_cell BK751.out 1).trans rfl, (blk_cell BK776.out 0).trans rfl, (blk_cell BK776.out 1).trans rfl, (blk_cell BK750.out 0).trans rfl, (blk_cell BK750.out 1).trans rfl, HS6_, HS7_, HS8_, HS9_, HS10_, HS11_⟩ (fun hHeld => ?_)
                      clear hK K
                      refine norm_ (a' := ?_) ?_ ?_
                      rotate_left
                      ·show Act.put _ (some 99) _ = _
                       simp only [Act.put, Sa, Sz, Ss, i64_w, i32_w]
                       rfl
                      refine pu 4 100 (v := ?_) (a' := ?_) HT_ rfl rfl (by kernel_rfl) (fun _ _ _ h => h) (Or.inl ⟨by rfl, ?_⟩) ?_ ?_
                      rotate_left; (intro w'; go_simp; with_reducible rfl); rotate_left; (simp only [Act.put, Sa, Sz, Ss, i64_w, i32_w]; rfl)
                      refine pu 5 101 (v := ?_) (a' := ?_) HT_ rfl rfl (by kernel_rfl) (fun _ _ _ h => h) (Or.inl ⟨by rfl, ?_⟩) ?_ ?_
                      rotate_left; (intro w'; go_simp; with_reducible rfl); rotate_left; (simp only [Act.put, Sa, Sz, Ss, i64_w, i32_w]; rfl)
                      refine pu 6 102 (v := ?_) (a' := ?_) HT_ rfl rfl (by kernel_rfl) (fun _ _ _ h => h) (Or.inl ⟨by rfl, ?_⟩) ?_ ?_
                      rotate_left; (intro w'; go_simp; with_reducible rfl); rotate_left; (simp only [Act.put, Sa, Sz, Ss, i64_w, i32_w]; rfl)
                      refine tk 7 103 (v := ?_) (a' := ?_) HT_ HW_ rfl rfl (by kernel_rfl) (fun _ _ _ h => h) (Or.inl ⟨by rfl, ?_⟩) hHeld ?_ ?_
                      rotate_left; (rintro w' ⟨s0, s1, s2, s3, s4, s5, s6, s7, s8, s9, s10, s11⟩; go_simp; with_reducible rfl); rotate_left; (simp only [Act.put, Sa, Sz, Ss, i64_w, i32_w]; rfl)
                      refine tk 8 104 (v := ?_) (a' := ?_) HT_ HW_ rfl rfl (by kernel_rfl) (fun _ _ _ h => h) (Or.inl ⟨by rfl, ?_⟩) hHeld ?_ ?_
                      rotate_left; (rintro w' ⟨s0, s1, s2, s3, s4, s5, s6, s7, s8, s9, s10, s11⟩; go_simp; with_reducible rfl); rotate_left; (simp only [Act.put, Sa, Sz, Ss, i64_w, i32_w]; rfl)
                      refine one_ (i := 9) (N := some 105) #[true, true, true, true, true, true, true, true, true, true, false, false, false, false, false, false, false, false, false, false, false, false, false, false, false, false, false, false, false, false, false, false, false, false, false, false, false, false, false, false, false, false, false, false, false, false, false, false] rfl rfl (one_of HT_.out (by kernel_rfl)) (by decide) (fun K hK => ?_)
                      refine goes_ Try.func49 (by kernel_rfl) rfl #[.slice Ao19 t741.length co19, .agg #[.int .i64 ((rd_T78 t752 x91_3).f0), .int .i64 ((rd_T78 t752 x91_3).f1)]] (by rfl) rfl rfl (by (try simp only [List.map_toArray, List.map_cons, List.map_nil]); first | done | rfl | (simp only [List.length_drop, List.length_take]; rfl)) ?_
                      with_reducible refine (storagebarterlaw08_has.calls k3 _ _ t741 ((rd_T78 t752 x91_3).f0) ((rd_T78 t752 x91_3).f1) false _ ?side1 ?side2 A72.out).mono ?_
                      (case side1 => repeat (first | exact (Kd.R_reads' HO_751001.out).2.2 | (with_reducible refine Kd.C_alloc ?_ _) | (with_reducible refine Kd.C_drewN ?_ _) | (with_reducible refine Kd.C_drew ?_)))
                      (case side2 => exact (Kd.R_reads' HO_751001.out).2.1)
                      rintro e w88 ⟨rfl, hb⟩
                      have HS6_ := (hb.cell (World.block_lt_of_cell? _ _ (hHeld.2.2.2.2.2.2.1))).trans (hHeld.2.2.2.2.2.2.1)
                      have HS7_ := (hb.cell (World.block_lt_of_cell? _ _ (hHeld.2.2.2.2.2.2.2.1))).trans (hHeld.2.2.2.2.2.2.2.1)
                      have HS8_ := (hb.cell (World.block_lt_of_cell? _ _ (hHeld.2.2.2.2.2.2.2.2.1))).trans (hHeld.2.2.2.2.2.2.2.2.1)
                      have HS9_ := (hb.cell (World.block_lt_of_cell? _ _ (hHeld.2.2.2.2.2.2.2.2.2.1))).trans (hHeld.2.2.2.2.2.2.2.2.2.1)
                      have HS10_ := (hb.cell (World.block_lt_of_cell? _ _ (hHeld.2.2.2.2.2.2.2.2.2.2.1))).trans (hHeld.2.2.2.2.2.2.2.2.2.2.1)
                      have HS11_ := (hb.cell (World.block_lt_of_cell? _ _ (hHeld.2.2.2.2.2.2.2.2.2.2.2))).trans (hHeld.2.2.2.2.2.2.2.2.2.2.2)
                      refine ⟨_, rfl, ?_⟩
                      have n0_ := Aside0.mk (Kd.R_below (by (with_reducible repeat (first | apply Kd.R_alloc | apply Kd.R_drewN | apply Kd.R_drew)); exact HO_6.out) hb)
                      have n1_ := Aside0.mk (Kd.R_below (by (with_reducible repeat (first | apply Kd.R_alloc | apply Kd.R_drewN | apply Kd.R_drew)); exact HO_89.out) hb)
                      have n2_ := Aside0.mk (Kd.R_below (by (with_reducible repeat (first | apply Kd.R_alloc | apply Kd.R_drewN | apply Kd.R_drew)); exact HO_751001.out) hb)
                      have n3_ := Aside0.mk (Kd.R_below (by (with_reducible repeat (first | apply Kd.R_alloc | apply Kd.R_drewN | apply Kd.R_drew)); exact HO_752001.out) hb)
                      have n4_ := Aside0.mk (blk_below (g := gb750) (o := .cells #[.int .i64 t740, .slice Ao19 t741.length co19] 32 (0, 0)) (by (with_reducible repeat (first | refine blk_drewN ?_ _ | refine blk_drew ?_ | refine blk_alloc ?_ _)); exact BK750.out) hb)
                      have n5_ := Aside0.mk (blk_below (g := gb751) (o := .cells #[.int .i64 t745, .slice Ao22 t746.length co22] 32 (0, 0)) (by (with_reducible repeat (first | refine blk_drewN ?_ _ | refine blk_drew ?_ | refine blk_alloc ?_ _)); exact BK751.out) hb)
                      have n6_ := Aside0.mk (blk_below (g := gb776) (o := .cells #[.int .i64 ((rd_T78 t752 x91_3).f0), .int .i64 ((rd_T78 t752 x91_3).f1)] 78 (0, 0)) (by (with_reducible repeat (first | refine blk_drewN ?_ _ | refine blk_drew ?_ | refine blk_alloc ?_ _)); exact BK776.out) hb)
                      have n7_ := Aside0.mk (below_step (by repeat (first | (with_reducible first | exact HB.out | apply below_alloc | apply pw_below_drewN | apply below_drew1 | refine below_set ?_ GE750.out | refine below_set ?_ GE751.out | refine below_set ?_ GE776.out) | exact HB.out)) hb)
                      clear HO_6
                      clear HO_89
                      clear HO_751001
                      clear HO_752001
                      clear BK750
                      clear BK751
                      clear BK776
                      clear HB
                      have HO_6 := n0_
                      have HO_89 := n1_
                      have HO_751001 := n2_
                      have HO_752001 := n3_
                      have BK750 := n4_
                      have BK751 := n5_
                      have BK776 := n6_
                      have HB := n7_
                      clear n0_ n1_ n2_ n3_ n4_ n5_ n6_ n7_
                      (try clear hb)
                      (try clear hb2)
                      (try clear hk)
                      (try clear hi)
                      refine hK.out _ _ ⟨(blk_cell BK751.out 0).trans rfl, (blk_cell BK751.out 1).trans rfl, (blk_cell BK776.out 0).trans rfl, (blk_cell BK776.out 1).trans rfl, (blk_cell BK750.out 0).trans rfl, (blk_cell BK750.out 1).trans rfl, HS6_, HS7_, HS8_, HS9_, HS10_, HS11_⟩ (fun hHeld => ?_)
                      clear hK K
                      refine norm_ (a' := ?_) ?_ ?_
                      rotate_left
                      ·show Act.put _ (some 105) _ = _
                       simp only [Act.put, Sa, Sz, Ss, i64_w, i32_w]
                       rfl
                      refine pu 10 106 (v := ?_) (a' := ?_) HT_ rfl rfl (by kernel_rfl) (fun _ _ _ h => h) (Or.inl ⟨by rfl, ?_⟩) ?_ ?_
                      rotate_left; (intro w'; go_simp; with_reducible rfl); rotate_left; (simp only [Act.put, Sa, Sz, Ss, i64_w, i32_w]; rfl)
                      refine pu 11 107 (v := ?_) (a' := ?_) HT_ rfl rfl (by kernel_rfl) (fun _ _ _ h => h) (Or.inl ⟨by rfl, ?_⟩) ?_ ?_
                      rotate_left; (intro w'; go_simp; with_reducible rfl); rotate_left; (simp only [Act.put, Sa, Sz, Ss, i64_w, i32_w]; rfl)
                      refine pu 12 108 (v := ?_) (a' := ?_) HT_ rfl rfl (by kernel_rfl) (fun _ _ _ h => h) (Or.inl ⟨by rfl, ?_⟩) ?_ ?_
                      rotate_left; (intro w'; go_simp; with_reducible rfl); rotate_left; (simp only [Act.put, Sa, Sz, Ss, i64_w, i32_w]; rfl)
                      refine pu 13 109 (v := ?_) (a' := ?_) HT_ rfl rfl (by kernel_rfl) (fun _ _ _ h => h) (Or.inl ⟨by rfl, ?_⟩) ?_ ?_
                      rotate_left; (intro w'; go_simp; with_reducible rfl); rotate_left; (simp only [Act.put, Sa, Sz, Ss, i64_w, i32_w]; rfl)
                      refine pu 14 110 (v := ?_) (a' := ?_) HT_ rfl rfl (by kernel_rfl) (fun _ _ _ h => h) (Or.inl ⟨by rfl, ?_⟩) ?_ ?_
                      rotate_left; (intro w'; go_simp; with_reducible rfl); rotate_left; (simp only [Act.put, Sa, Sz, Ss, i64_w, i32_w]; rfl)
                      refine pu 15 111 (v := ?_) (a' := ?_) HT_ rfl rfl (by kernel_rfl) (fun _ _ _ h => h) (Or.inl ⟨by rfl, ?_⟩) ?_ ?_
                      rotate_left; (intro w'; go_simp; with_reducible rfl); rotate_left; (simp only [Act.put, Sa, Sz, Ss, i64_w, i32_w]; rfl)
                      refine pu 16 112 (v := ?_) (a' := ?_) HT_ rfl rfl (by kernel_rfl) (fun _ _ _ h => h) (Or.inl ⟨by rfl, ?_⟩) ?_ ?_
                      rotate_left; (intro w'; go_simp; with_reducible rfl); rotate_left; (simp only [Act.put, Sa, Sz, Ss, i64_w, i32_w]; rfl)
                      refine pu 17 113 (v := ?_) (a' := ?_) HT_ rfl rfl (by kernel_rfl) (fun _ _ _ h => h) (Or.inl ⟨by rfl, ?_⟩) ?_ ?_
                      rotate_left; (intro w'; go_simp; with_reducible rfl); rotate_left; (simp only [Act.put, Sa, Sz, Ss, i64_w, i32_w]; rfl)
                      refine pu 18 114 (v := ?_) (a' := ?_) HT_ rfl rfl (by kernel_rfl) (fun _ _ _ h => h) (Or.inl ⟨by rfl, ?_⟩) ?_ ?_
                      rotate_left; (intro w'; go_simp; with_reducible rfl); rotate_left; (simp only [Act.put, Sa, Sz, Ss, i64_w, i32_w]; rfl)
                      refine pu 19 115 (v := ?_) (a' := ?_) HT_ rfl rfl (by kernel_rfl) (fun _ _ _ h => h) (Or.inl ⟨by rfl, ?_⟩) ?_ ?_
                      rotate_left; (intro w'; go_simp; with_reducible rfl); rotate_left; (simp only [Act.put, Sa, Sz, Ss, i64_w, i32_w]; rfl)
                      refine pu 21 117 (v := ?_) (a' := ?_) HT_ rfl rfl (by kernel_rfl) (fun _ _ _ h => h) (Or.inl ⟨by rfl, ?_⟩) ?_ ?_
                      rotate_left; (intro w'; go_simp; with_reducible rfl); rotate_left; (simp only [Act.put, Sa, Sz, Ss, i64_w, i32_w]; rfl)
                      refine tk 20 116 (v := ?_) (a' := ?_) HT_ HW_ rfl rfl (by kernel_rfl) (fun _ _ _ h => h) (Or.inl ⟨by rfl, ?_⟩) hHeld ?_ ?_
                      rotate_left; (rintro w' ⟨s0, s1, s2, s3, s4, s5, s6, s7, s8, s9, s10, s11⟩; go_simp; with_reducible rfl); rotate_left; (simp only [Act.put, Sa, Sz, Ss, i64_w, i32_w]; rfl)
                      refine tk 22 118 (v := ?_) (a' := ?_) HT_ HW_ rfl rfl (by kernel_rfl) (fun _ _ _ h => h) (Or.inl ⟨by rfl, ?_⟩) hHeld ?_ ?_
                      rotate_left; (rintro w' ⟨s0, s1, s2, s3, s4, s5, s6, s7, s8, s9, s10, s11⟩; go_simp; with_reducible rfl); rotate_left; (simp only [Act.put, Sa, Sz, Ss, i64_w, i32_w]; rfl)
                      refine pu 23 119 (v := ?_) (a' := ?_) HT_ rfl rfl (by kernel_rfl) (fun _ _ _ h => h) (Or.inl ⟨by rfl, ?_⟩) ?_ ?_
                      rotate_left; (intro w'; go_simp; with_reducible rfl); rotate_left; (simp only [Act.put, Sa, Sz, Ss, i64_w, i32_w]; rfl)
                      refine pu 24 120 (v := ?_) (a' := ?_) HT_ rfl rfl (by kernel_rfl) (fun _ _ _ h => h) (Or.inl ⟨by rfl, ?_⟩) ?_ ?_
                      rotate_left; (intro w'; go_simp; with_reducible rfl); rotate_left; (simp only [Act.put, Sa, Sz, Ss, i64_w, i32_w]; rfl)
                      refine pu 25 121 (v := ?_) (a' := ?_) HT_ rfl rfl (by kernel_rfl) (fun _ _ _ h => h) (Or.inl ⟨by rfl, ?_⟩) ?_ ?_
                      rotate_left; (intro w'; go_simp; with_reducible rfl); rotate_left; (simp only [Act.put, Sa, Sz, Ss, i64_w, i32_w]; rfl)
                      refine pu 26 122 (v := ?_) (a' := ?_) HT_ rfl rfl (by kernel_rfl) (fun _ _ _ h => h) (Or.inl ⟨by rfl, ?_⟩) ?_ ?_
                      rotate_left; (intro w'; go_simp; with_reducible rfl); rotate_left; (simp only [Act.put, Sa, Sz, Ss, i64_w, i32_w]; rfl)
                      refine pu 27 123 (v := ?_) (a' := ?_) HT_ rfl rfl (by kernel_rfl) (fun _ _ _ h => h) (Or.inl ⟨by rfl, ?_⟩) ?_ ?_
                      rotate_left; (intro w'; go_simp; with_reducible rfl); rotate_left; (simp only [Act.put, Sa, Sz, Ss, i64_w, i32_w]; rfl)
                      refine pu 28 124 (v := ?_) (a' := ?_) HT_ rfl rfl (by kernel_rfl) (fun _ _ _ h => h) (Or.inl ⟨by rfl, ?_⟩) ?_ ?_
                      rotate_left; (intro w'; go_simp; with_reducible rfl); rotate_left; (simp only [Act.put, Sa, Sz, Ss, i64_w, i32_w]; rfl)
                      refine pu 29 125 (v := ?_) (a' := ?_) HT_ rfl rfl (by kernel_rfl) (fun _ _ _ h => h) (Or.inl ⟨by rfl, ?_⟩) ?_ ?_
                      rotate_left; (intro w'; go_simp; with_reducible rfl); rotate_left; (simp only [Act.put, Sa, Sz, Ss, i64_w, i32_w]; rfl)
                      refine pu 31 127 (v := ?_) (a' := ?_) HT_ rfl rfl (by kernel_rfl) (fun _ _ _ h => h) (Or.inl ⟨by rfl, ?_⟩) ?_ ?_
                      rotate_left; (intro w'; go_simp; with_reducible rfl); rotate_left; (simp only [Act.put, Sa, Sz, Ss, i64_w, i32_w]; rfl)
                      refine tk 30 126 (v := ?_) (a' := ?_) HT_ HW_ rfl rfl (by kernel_rfl) (fun _ _ _ h => h) (Or.inl ⟨by rfl, ?_⟩) hHeld ?_ ?_
                      rotate_left; (rintro w' ⟨s0, s1, s2, s3, s4, s5, s6, s7, s8, s9, s10, s11⟩; go_simp; with_reducible rfl); rotate_left; (simp only [Act.put, Sa, Sz, Ss, i64_w, i32_w]; rfl)
                      refine tk 32 128 (v := ?_) (a' := ?_) HT_ HW_ rfl rfl (by kernel_rfl) (fun _ _ _ h => h) (Or.inl ⟨by rfl, ?_⟩) hHeld ?_ ?_
                      rotate_left; (rintro w' ⟨s0, s1, s2, s3, s4, s5, s6, s7, s8, s9, s10, s11⟩; go_simp; with_reducible rfl); rotate_left; (simp only [Act.put, Sa, Sz, Ss, i64_w, i32_w]; rfl)
                      refine pu 33 129 (v := ?_) (a' := ?_) HT_ rfl rfl (by kernel_rfl) (fun _ _ _ h => h) (Or.inl ⟨by rfl, ?_⟩) ?_ ?_
                      rotate_left; (intro w'; go_simp; with_reducible rfl); rotate_left; (simp only [Act.put, Sa, Sz, Ss, i64_w, i32_w]; rfl)
                      refine pu 34 130 (v := ?_) (a' := ?_) HT_ rfl rfl (by kernel_rfl) (fun _ _ _ h => h) (Or.inl ⟨by rfl, ?_⟩) ?_ ?_
                      rotate_left; (intro w'; go_simp; with_reducible rfl); rotate_left; (simp only [Act.put, Sa, Sz, Ss, i64_w, i32_w]; rfl)
                      refine pu 35 131 (v := ?_) (a' := ?_) HT_ rfl rfl (by kernel_rfl) (fun _ _ _ h => h) (Or.inl ⟨by rfl, ?_⟩) ?_ ?_
                      rotate_left; (intro w'; go_simp; with_reducible rfl); rotate_left; (simp only [Act.put, Sa, Sz, Ss, i64_w, i32_w]; rfl)
                      refine pu 36 132 (v := ?_) (a' := ?_) HT_ rfl rfl (by kernel_rfl) (fun _ _ _ h => h) (Or.inl ⟨by rfl, ?_⟩) ?_ ?_
                      rotate_left; (intro w'; go_simp; with_reducible rfl); rotate_left; (simp only [Act.put, Sa, Sz, Ss, i64_w, i32_w]; rfl)
                      refine pu 37 133 (v := ?_) (a' := ?_) HT_ rfl rfl (by kernel_rfl) (fun _ _ _ h => h) (Or.inl ⟨by rfl, ?_⟩) ?_ ?_
                      rotate_left; (intro w'; go_simp; with_reducible rfl); rotate_left; (simp only [Act.put, Sa, Sz, Ss, i64_w, i32_w]; rfl)
                      refine pu 38 134 (v := ?_) (a' := ?_) HT_ rfl rfl (by kernel_rfl) (fun _ _ _ h => h) (Or.inl ⟨by rfl, ?_⟩) ?_ ?_
                      rotate_left; (intro w'; go_simp; with_reducible rfl); rotate_left; (simp only [Act.put, Sa, Sz, Ss, i64_w, i32_w]; rfl)
                      refine pu 39 135 (v := ?_) (a' := ?_) HT_ rfl rfl (by kernel_rfl) (fun _ _ _ h => h) (Or.inl ⟨by rfl, ?_⟩) ?_ ?_
                      rotate_left; (intro w'; go_simp; with_reducible rfl); rotate_left; (simp only [Act.put, Sa, Sz, Ss, i64_w, i32_w]; rfl)
                      refine pu 41 137 (v := ?_) (a' := ?_) HT_ rfl rfl (by kernel_rfl) (fun _ _ _ h => h) (Or.inl ⟨by rfl, ?_⟩) ?_ ?_
                      rotate_left; (intro w'; go_simp; with_reducible rfl); rotate_left; (simp only [Act.put, Sa, Sz, Ss, i64_w, i32_w]; rfl)
                      refine tk 40 136 (v := ?_) (a' := ?_) HT_ HW_ rfl rfl (by kernel_rfl) (fun _ _ _ h => h) (Or.inl ⟨by rfl, ?_⟩) hHeld ?_ ?_
                      rotate_left; (rintro w' ⟨s0, s1, s2, s3, s4, s5, s6, s7, s8, s9, s10, s11⟩; go_simp; with_reducible rfl); rotate_left; (simp only [Act.put, Sa, Sz, Ss, i64_w, i32_w]; rfl)
                      refine tk 42 138 (v := ?_) (a' := ?_) HT_ HW_ rfl rfl (by kernel_rfl) (fun _ _ _ h => h) (Or.inl ⟨by rfl, ?_⟩) hHeld ?_ ?_
                      rotate_left; (rintro w' ⟨s0, s1, s2, s3, s4, s5, s6, s7, s8, s9, s10, s11⟩; go_simp; with_reducible rfl); rotate_left; (simp only [Act.put, Sa, Sz, Ss, i64_w, i32_w]; rfl)
                      refine pu 43 139 (v := ?_) (a' := ?_) HT_ rfl rfl (by kernel_rfl) (fun _ _ _ h => h) (Or.inl ⟨by rfl, ?_⟩) ?_ ?_
                      rotate_left; (intro w'; go_simp; with_reducible rfl); rotate_left; (simp only [Act.put, Sa, Sz, Ss, i64_w, i32_w]; rfl)
                      refine pu 44 140 (v := ?_) (a' := ?_) HT_ rfl rfl (by kernel_rfl) (fun _ _ _ h => h) (Or.inl ⟨by rfl, ?_⟩) ?_ ?_
                      rotate_left; (intro w'; go_simp; with_reducible rfl); rotate_left; (simp only [Act.put, Sa, Sz, Ss, i64_w, i32_w]; rfl)
                      refine pu 45 141 (v := ?_) (a' := ?_) HT_ rfl rfl (by kernel_rfl) (fun _ _ _ h => h) (Or.inl ⟨by rfl, ?_⟩) ?_ ?_
                      rotate_left; (intro w'; go_simp; with_reducible rfl); rotate_left; (simp only [Act.put, Sa, Sz, Ss, i64_w, i32_w]; rfl)
                      refine pu 46 142 (v := ?_) (a' := ?_) HT_ rfl rfl (by kernel_rfl) (fun _ _ _ h => h) (Or.inl ⟨by rfl, ?_⟩) ?_ ?_
                      rotate_left; (intro w'; go_simp; with_reducible rfl); rotate_left; (simp only [Act.put, Sa, Sz, Ss, i64_w, i32_w]; rfl)
                      refine pu 47 143 (v := ?_) (a' := ?_) HT_ rfl rfl (by kernel_rfl) (fun _ _ _ h => h) (Or.inl ⟨by rfl, ?_⟩) ?_ ?_
                      rotate_left; (intro w'; go_simp; with_reducible rfl); rotate_left; (simp only [Act.put, Sa, Sz, Ss, i64_w, i32_w]; rfl)
                      refine done_ (done_of HT_.out (by kernel_rfl)) ?_
                      try go_wp2
                      go_roundg k3
                      case measure => have := HJ8.out; have := HJ35.out; have := HK3.out; omega
                      case rel => exact ⟨(wrap64 (x91_3 + 1)), (by first | rfl | (simp; done) | (simp [*]; done)), H', ⟨by have := HJ8.out; have := HJ35.out; have := HK3.out; omega⟩, ⟨by (with_reducible repeat (first | apply Kd.R_alloc | apply Kd.R_drewN | apply Kd.R_drew)); exact Kd.R_mono HO_6.out (fun _ hk => ⟨hk.1, hk.2.1⟩)⟩, ⟨by (with_reducible repeat (first | apply Kd.R_alloc | apply Kd.R_drewN | apply Kd.R_drew)); exact Kd.R_mono HO_89.out (fun _ hk => ⟨hk.1, hk.2.1⟩)⟩, ⟨by (with_reducible repeat (first | apply Kd.R_alloc | apply Kd.R_drewN | apply Kd.R_drew)); exact Kd.R_mono HO_751001.out (fun _ hk => ⟨hk.1, ⟨hk.2.1, hk.2.2.1⟩⟩)⟩, ⟨by (with_reducible repeat (first | apply Kd.R_alloc | apply Kd.R_drewN | apply Kd.R_drew)); exact Kd.R_mono HO_752001.out (fun _ hk => ⟨hk.1, ⟨hk.2.1, hk.2.2.1⟩⟩)⟩, ⟨by (with_reducible repeat (first | refine blk_drewN ?_ _ | refine blk_drew ?_ | refine blk_alloc ?_ _)); exact BK750.out⟩, ⟨by (with_reducible repeat (first | refine blk_drewN ?_ _ | refine blk_drew ?_ | refine blk_alloc ?_ _)); exact BK751.out⟩, ⟨by repeat (first | (with_reducible first | exact HB.out | apply below_alloc | apply pw_below_drewN | apply below_drew1 | refine below_set ?_ GE750.out | refine below_set ?_ GE751.out | refine below_set ?_ GE776.out) | exact HB.out)⟩⟩
                    ·rw [if_neg c79] at H
                     have c79b0 : (((rd_T78 t752 (ji75)).f0) == ((rd_T78 t752 x91_3).f0)) = false := beq_eq_false_iff_ne.mpr c79
                     have c79b1 : (((rd_T78 t752 (ji75)).f0) != ((rd_T78 t752 x91_3).f0)) = true := bne_iff_ne.mpr c79
                     have H' := Aside0.mk H
                     clear H
                     have p775 : 0 ≤ (x91_3 : Int) := of_decide_eq_true (by first | (with_reducible assumption) | assumption)
                     have q775 : x91_3 < (t752.length : Int) := of_decide_eq_true (by first | (with_reducible assumption) | assumption)
                     obtain ⟨ad775, e775, hx775_0, hx775_1⟩ := at_T78 (Kd.R_reads' HO_89.out).2.2 x91_3 p775 q775
                     cases e775
                     replace p775 := eq_true p775
                     replace q775 := eq_true q775
                     try go_wp2_with (first | ((with_reducible refine gate_dst (N := 16) rfl ?_); (try (refine gate_guard (by rfl) ?_; dsimp only)); refine box_event ?hg (N := 16) ?hd (cs := #[.int .i64 0, .int .i64 0]) (t := 78) ?hr ?_; (case hd => rfl); (case hg => rfl); (case hr => first | (go_simp; done) | (go_simp; rfl)); intro gb776 hg w89 hbox hb; have n0_ := Aside0.mk (Kd.R_below (Kd.R_elderB (by (with_reducible repeat (first | apply Kd.R_alloc | apply Kd.R_drewN | apply Kd.R_drew)); exact HO_6.out) gb776 (Nat.le_of_eq hg.symm)) hb); have n1_ := Aside0.mk (Kd.R_below (Kd.R_elderB (by (with_reducible repeat (first | apply Kd.R_alloc | apply Kd.R_drewN | apply Kd.R_drew)); exact HO_89.out) gb776 (Nat.le_of_eq hg.symm)) hb); have n2_ := Aside0.mk (Kd.R_below (Kd.R_elderB (by (with_reducible repeat (first | apply Kd.R_alloc | apply Kd.R_drewN | apply Kd.R_drew)); exact HO_751001.out) gb776 (Nat.le_of_eq hg.symm)) hb); have n3_ := Aside0.mk (Kd.R_below (Kd.R_elderB (by (with_reducible repeat (first | apply Kd.R_alloc | apply Kd.R_drewN | apply Kd.R_drew)); exact HO_752001.out) gb776 (Nat.le_of_eq hg.symm)) hb); have n4_ := Aside0.mk (blk_below (g := gb750) (o := .cells #[.int .i64 t740, .slice Ao19 t741.length co19] 32 (0, 0)) (by (with_reducible repeat (first | refine blk_drewN ?_ _ | refine blk_drew ?_ | refine blk_alloc ?_ _)); exact BK750.out) hb); have n5_ := Aside0.mk (blk_below (g := gb751) (o := .cells #[.int .i64 t745, .slice Ao22 t746.length co22] 32 (0, 0)) (by (with_reducible repeat (first | refine blk_drewN ?_ _ | refine blk_drew ?_ | refine blk_alloc ?_ _)); exact BK751.out) hb); have n6_ := Aside0.mk (below_step (by repeat (first | (with_reducible first | exact HB.out | apply below_alloc | apply pw_below_drewN | apply below_drew1 | refine below_set ?_ GE750.out | refine below_set ?_ GE751.out) | exact HB.out)) hb); have n7_ := Aside0.mk (hbox); have n8_ := Aside0.mk ((by rw [hg]; exact (below_size (by repeat (first | (with_reducible first | exact HB.out | apply below_alloc | apply pw_below_drewN | apply below_drew1 | refine below_set ?_ GE750.out | refine below_set ?_ GE751.out) | exact HB.out))) : w.heap.size ≤ gb776)); have n9_ := Aside0.mk ((by rw [hg]; exact (below_size (by repeat (first | (with_reducible first | exact HB.out | apply below_alloc | apply pw_below_drewN | apply below_drew1 | refine below_set ?_ GE750.out | refine below_set ?_ GE751.out) | exact HB.out))) : w.heap.size ≤ gb776)); have n10_ := Aside0.mk ((by rw [hg]; exact Nat.ne_of_lt (blk_lt (g := gb750) (o := .cells #[.int .i64 t740, .slice Ao19 t741.length co19] 32 (0, 0)) (by (with_reducible repeat (first | refine blk_drewN ?_ _ | refine blk_drew ?_ | refine blk_alloc ?_ _)); exact BK750.out)) : gb750 ≠ gb776)); have n11_ := Aside0.mk ((by rw [hg]; exact Nat.ne_of_gt (blk_lt (g := gb750) (o := .cells #[.int .i64 t740, .slice Ao19 t741.length co19] 32 (0, 0)) (by (with_reducible repeat (first | refine blk_drewN ?_ _ | refine blk_drew ?_ | refine blk_alloc ?_ _)); exact BK750.out)) : gb776 ≠ gb750)); have n12_ := Aside0.mk ((by rw [hg]; exact Nat.ne_of_lt (blk_lt (g := gb751) (o := .cells #[.int .i64 t745, .slice Ao22 t746.length co22] 32 (0, 0)) (by (with_reducible repeat (first | refine blk_drewN ?_ _ | refine blk_drew ?_ | refine blk_alloc ?_ _)); exact BK751.out)) : gb751 ≠ gb776)); have n13_ := Aside0.mk ((by rw [hg]; exact Nat.ne_of_gt (blk_lt (g := gb751) (o := .cells #[.int .i64 t745, .slice Ao22 t746.length co22] 32 (0, 0)) (by (with_reducible repeat (first | refine blk_drewN ?_ _ | refine blk_drew ?_ | refine blk_alloc ?_ _)); exact BK751.out)) : gb776 ≠ gb751)); clear HO_6; clear HO_89; clear HO_751001; clear HO_752001; clear BK750; clear BK751; clear HB; have HO_6 := n0_; have HO_89 := n1_; have HO_751001 := n2_; have HO_752001 := n3_; have BK750 := n4_; have BK751 := n5_; have HB := n6_; have BK776 := n7_; have GW776 := n8_; have GE776 := n9_; have NB750_776 := n10_; have NB776_750 := n11_; have NB751_776 := n12_; have NB776_751 := n13_; clear n0_ n1_ n2_ n3_ n4_ n5_ n6_ n7_ n8_ n9_ n10_ n11_ n12_ n13_; clear hb hbox hg; have hnb90 := NB776_750.out; have hnc90 := NB750_776.out; have hnb91 := NB776_751.out; have hnc91 := NB751_776.out; have hcz92_0 : w89.cell? ⟨gb776, 0, none⟩ = some (.int .i64 0) := (blk_cell BK776.out 0).trans rfl; have hcz92_1 : w89.cell? ⟨gb776, 1, none⟩ = some (.int .i64 0) := (blk_cell BK776.out 1).trans rfl; have hfz92_0 := blk_frozen BK776.out 0; have hfz92_1 := blk_frozen BK776.out 1))
                     have n0_ : Aside0 (Kd.R k78 78 ((w89.setCell ⟨gb776, 0, none⟩ (.int .i64 ((rd_T78 t752 x91_3).f0))).setCell ⟨gb776, 1, none⟩ (.int .i64 ((rd_T78 t752 x91_3).f1))) w.heap.size (fun k_ => some k_ ≠ (.slice Ao19 t741.length co19 : Value).ownBlock ∧ some k_ ≠ (.slice Ao22 t746.length co22 : Value).ownBlock ∧ k_ ≠ gb776) (.slice (some ad775) t752.length co66) t752) := ⟨by (with_reducible repeat (first | apply Kd.R_alloc | apply Kd.R_drewN | apply Kd.R_drew)); exact Kd.R_mono (Kd.R_far (p := ⟨gb776, 1, none⟩) (Kd.R_far (p := ⟨gb776, 0, none⟩) (Kd.R_mono HO_6.out (fun k_ hk => (⟨hk, hk.2⟩ : _ ∧ k_ ≠ gb776))) (fun _ hk => hk.2) (.int .i64 ((rd_T78 t752 x91_3).f0))) (fun _ hk => hk.2) (.int .i64 ((rd_T78 t752 x91_3).f1))) (fun _ hk => ⟨hk.1.1.1, ⟨hk.1.1.2, hk.1.2⟩⟩)⟩
                     have n1_ : Aside0 (Kd.R k78 78 ((w89.setCell ⟨gb776, 0, none⟩ (.int .i64 ((rd_T78 t752 x91_3).f0))).setCell ⟨gb776, 1, none⟩ (.int .i64 ((rd_T78 t752 x91_3).f1))) w.heap.size (fun k_ => some k_ ≠ (.slice Ao19 t741.length co19 : Value).ownBlock ∧ some k_ ≠ (.slice Ao22 t746.length co22 : Value).ownBlock ∧ k_ ≠ gb776) (.slice (some ad775) t752.length co66) t752) := ⟨by (with_reducible repeat (first | apply Kd.R_alloc | apply Kd.R_drewN | apply Kd.R_drew)); exact Kd.R_mono (Kd.R_far (p := ⟨gb776, 1, none⟩) (Kd.R_far (p := ⟨gb776, 0, none⟩) (Kd.R_mono HO_89.out (fun k_ hk => (⟨hk, hk.2⟩ : _ ∧ k_ ≠ gb776))) (fun _ hk => hk.2) (.int .i64 ((rd_T78 t752 x91_3).f0))) (fun _ hk => hk.2) (.int .i64 ((rd_T78 t752 x91_3).f1))) (fun _ hk => ⟨hk.1.1.1, ⟨hk.1.1.2, hk.1.2⟩⟩)⟩
                     have n2_ : Aside0 (Kd.R k78 78 ((w89.setCell ⟨gb776, 0, none⟩ (.int .i64 ((rd_T78 t752 x91_3).f0))).setCell ⟨gb776, 1, none⟩ (.int .i64 ((rd_T78 t752 x91_3).f1))) w.heap.size (fun k_ => some k_ ≠ (.slice (some ad775) t752.length co66 : Value).ownBlock ∧ some k_ ≠ (.slice (some ad775) t752.length co66 : Value).ownBlock ∧ some k_ ≠ (.slice Ao22 t746.length co22 : Value).ownBlock ∧ k_ ≠ gb776) (.slice Ao19 t741.length co19) t741) := ⟨by (with_reducible repeat (first | apply Kd.R_alloc | apply Kd.R_drewN | apply Kd.R_drew)); exact Kd.R_mono (Kd.R_far (p := ⟨gb776, 1, none⟩) (Kd.R_far (p := ⟨gb776, 0, none⟩) (Kd.R_mono HO_751001.out (fun k_ hk => (⟨hk, hk.2⟩ : _ ∧ k_ ≠ gb776))) (fun _ hk => hk.2) (.int .i64 ((rd_T78 t752 x91_3).f0))) (fun _ hk => hk.2) (.int .i64 ((rd_T78 t752 x91_3).f1))) (fun _ hk => ⟨hk.1.1.1, ⟨hk.1.1.2.1, ⟨hk.1.1.2.2, hk.1.2⟩⟩⟩)⟩
                     have n3_ : Aside0 (Kd.R k78 78 ((w89.setCell ⟨gb776, 0, none⟩ (.int .i64 ((rd_T78 t752 x91_3).f0))).setCell ⟨gb776, 1, none⟩ (.int .i64 ((rd_T78 t752 x91_3).f1))) w.heap.size (fun k_ => some k_ ≠ (.slice (some ad775) t752.length co66 : Value).ownBlock ∧ some k_ ≠ (.slice (some ad775) t752.length co66 : Value).ownBlock ∧ some k_ ≠ (.slice Ao19 t741.length co19 : Value).ownBlock ∧ k_ ≠ gb776) (.slice Ao22 t746.length co22) t746) := ⟨by (with_reducible repeat (first | apply Kd.R_alloc | apply Kd.R_drewN | apply Kd.R_drew)); exact Kd.R_mono (Kd.R_far (p := ⟨gb776, 1, none⟩) (Kd.R_far (p := ⟨gb776, 0, none⟩) (Kd.R_mono HO_752001.out (fun k_ hk => (⟨hk, hk.2⟩ : _ ∧ k_ ≠ gb776))) (fun _ hk => hk.2) (.int .i64 ((rd_T78 t752 x91_3).f0))) (fun _ hk => hk.2) (.int .i64 ((rd_T78 t752 x91_3).f1))) (fun _ hk => ⟨hk.1.1.1, ⟨hk.1.1.2.1, ⟨hk.1.1.2.2, hk.1.2⟩⟩⟩)⟩
                     have n4_ : Aside0 (((w89.setCell ⟨gb776, 0, none⟩ (.int .i64 ((rd_T78 t752 x91_3).f0))).setCell ⟨gb776, 1, none⟩ (.int .i64 ((rd_T78 t752 x91_3).f1))).heap[gb750]? = some (.cells #[.int .i64 t740, .slice Ao19 t741.length co19] 32 (0, 0))) := ⟨by (with_reducible repeat (first | refine blk_drewN ?_ _ | refine blk_drew ?_ | refine blk_alloc ?_ _)); refine blk_far ?_ NB750_776.out _; (with_reducible repeat (first | refine blk_drewN ?_ _ | refine blk_drew ?_ | refine blk_alloc ?_ _)); refine blk_far ?_ NB750_776.out _; (with_reducible repeat (first | refine blk_drewN ?_ _ | refine blk_drew ?_ | refine blk_alloc ?_ _)); exact BK750.out⟩
                     have n5_ : Aside0 (((w89.setCell ⟨gb776, 0, none⟩ (.int .i64 ((rd_T78 t752 x91_3).f0))).setCell ⟨gb776, 1, none⟩ (.int .i64 ((rd_T78 t752 x91_3).f1))).heap[gb751]? = some (.cells #[.int .i64 t745, .slice Ao22 t746.length co22] 32 (0, 0))) := ⟨by (with_reducible repeat (first | refine blk_drewN ?_ _ | refine blk_drew ?_ | refine blk_alloc ?_ _)); refine blk_far ?_ NB751_776.out _; (with_reducible repeat (first | refine blk_drewN ?_ _ | refine blk_drew ?_ | refine blk_alloc ?_ _)); refine blk_far ?_ NB751_776.out _; (with_reducible repeat (first | refine blk_drewN ?_ _ | refine blk_drew ?_ | refine blk_alloc ?_ _)); exact BK751.out⟩
                     have n6_ : Aside0 (((w89.setCell ⟨gb776, 0, none⟩ (.int .i64 ((rd_T78 t752 x91_3).f0))).setCell ⟨gb776, 1, none⟩ (.int .i64 ((rd_T78 t752 x91_3).f1))).heap[gb776]? = some (.cells #[.int .i64 ((rd_T78 t752 x91_3).f0), .int .i64 ((rd_T78 t752 x91_3).f1)] 78 (0, 0))) := ⟨by (with_reducible repeat (first | refine blk_drewN ?_ _ | refine blk_drew ?_ | refine blk_alloc ?_ _)); refine blk_put (cs := #[.int .i64 ((rd_T78 t752 x91_3).f0), .int .i64 0]) ?_ 1 _ rfl; (with_reducible repeat (first | refine blk_drewN ?_ _ | refine blk_drew ?_ | refine blk_alloc ?_ _)); refine blk_put (cs := #[.int .i64 0, .int .i64 0]) ?_ 0 _ rfl; (with_reducible repeat (first | refine blk_drewN ?_ _ | refine blk_drew ?_ | refine blk_alloc ?_ _)); exact BK776.out⟩
                     have n7_ : Aside0 (Below w.heap.size w ((w89.setCell ⟨gb776, 0, none⟩ (.int .i64 ((rd_T78 t752 x91_3).f0))).setCell ⟨gb776, 1, none⟩ (.int .i64 ((rd_T78 t752 x91_3).f1)))) := ⟨by repeat (first | (with_reducible first | exact HB.out | apply below_alloc | apply pw_below_drewN | apply below_drew1 | refine below_set ?_ GE750.out | refine below_set ?_ GE751.out | refine below_set ?_ GE776.out) | exact HB.out)⟩
                     (try clear HO_6)
                     (try clear HO_89)
                     (try clear HO_751001)
                     (try clear HO_752001)
                     (try clear BK750)
                     (try clear BK751)
                     (try clear BK776)
                     (try clear HB)
                     generalize ((w89.setCell ⟨gb776, 0, none⟩ (.int .i64 ((rd_T78 t752 x91_3).f0))).setCell ⟨gb776, 1, none⟩ (.int .i64 ((rd_T78 t752 x91_3).f1))) = w93 at n0_ n1_ n2_ n3_ n4_ n5_ n6_ n7_ ⊢
                     have HO_6 := n0_
                     have HO_89 := n1_
                     have HO_751001 := n2_
                     have HO_752001 := n3_
                     have BK750 := n4_
                     have BK751 := n5_
                     have BK776 := n6_
                     have HB := n7_
                     clear n0_ n1_ n2_ n3_ n4_ n5_ n6_ n7_
                     have n0_ := Aside0.mk (Kd.R_drew HO_6.out)
                     have n1_ := Aside0.mk (Kd.R_drew HO_89.out)
                     have n2_ := Aside0.mk (Kd.R_drew HO_751001.out)
                     have n3_ := Aside0.mk (Kd.R_drew HO_752001.out)
                     have n4_ := Aside0.mk (blk_drew BK750.out)
                     have n5_ := Aside0.mk (blk_drew BK751.out)
                     have n6_ := Aside0.mk (blk_drew BK776.out)
                     have n7_ := Aside0.mk (below_drew1 HB.out)
                     clear HO_6
                     clear HO_89
                     clear HO_751001
                     clear HO_752001
                     clear BK750
                     clear BK751
                     clear BK776
                     clear HB
                     have HO_6 := n0_
                     have HO_89 := n1_
                     have HO_751001 := n2_
                     have HO_752001 := n3_
                     have BK750 := n4_
                     have BK751 := n5_
                     have BK776 := n6_
                     have HB := n7_
                     clear n0_ n1_ n2_ n3_ n4_ n5_ n6_ n7_
                     have p779 : 0 ≤ ((ji75) : Int) := of_decide_eq_true (by first | (with_reducible assumption) | assumption)
                     have q779 : (ji75) < (t752.length : Int) := of_decide_eq_true (by first | (with_reducible assumption) | assumption)
                     obtain ⟨ad779, e779, hx779_0, hx779_1⟩ := at_T78 (Kd.R_reads' HO_6.out).2.2 (ji75) p779 q779
                     obtain rfl : ad775 = ad779 := (by injection e779)
                     replace p779 := eq_true p779
                     replace q779 := eq_true q779
                     have p780 : 0 ≤ ((ji75) : Int) := of_decide_eq_true (by first | (with_reducible assumption) | assumption)
                     have q780 : (ji75) < (t752.length : Int) := of_decide_eq_true (by first | (with_reducible assumption) | assumption)
                     obtain ⟨ad780, e780, hx780_0, hx780_1⟩ := at_T78 (Kd.R_reads' HO_6.out).2.2 (ji75) p780 q780
                     obtain rfl : ad775 = ad780 := (by injection e780)
                     replace p780 := eq_true p780
                     replace q780 := eq_true q780
                     refine start_ (n := 48) (S := fun w' => w'.cell? ⟨gb751, 0, none⟩ = some (.int .i64 t745) ∧ w'.cell? ⟨gb751, 1, none⟩ = some (.slice Ao22 t746.length co22) ∧ w'.cell? ⟨gb776, 0, none⟩ = some (.int .i64 ((rd_T78 t752 x91_3).f0)) ∧ w'.cell? ⟨gb776, 1, none⟩ = some (.int .i64 ((rd_T78 t752 x91_3).f1)) ∧ w'.cell? ⟨gb750, 0, none⟩ = some (.int .i64 t740) ∧ w'.cell? ⟨gb750, 1, none⟩ = some (.slice Ao19 t741.length co19) ∧ w'.cell? (ad775.add (((ji75)).toNat * 2)) = some (.int .i64 ((rd_T78 t752 (ji75)).f0)) ∧ w'.cell? ⟨(ad775.add (((ji75)).toNat * 2)).block, (ad775.add (((ji75)).toNat * 2)).off + 1, none⟩ = some (.int .i64 ((rd_T78 t752 (ji75)).f1)) ∧ w'.cell? (ad775.add (((ji75)).toNat * 2)) = some (.int .i64 ((rd_T78 t752 (ji75)).f0)) ∧ w'.cell? ⟨(ad775.add (((ji75)).toNat * 2)).block, (ad775.add (((ji75)).toNat * 2)).off + 1, none⟩ = some (.int .i64 ((rd_T78 t752 (ji75)).f1))) (ds := []) #[false, false, false, false, false, false, false, false, false, false, false, false, false, false, false, false, false, false, false, false, false, false, false, false, false, false, false, false, false, false, false, false, false, false, false, false, false, false, false, false, false, false, false, false, false, false, false, false] (by kernel_rfl) rfl rfl ⟨(blk_cell BK751.out 0).trans rfl, (blk_cell BK751.out 1).trans rfl, (blk_cell BK776.out 0).trans rfl, (blk_cell BK776.out 1).trans rfl, (blk_cell BK750.out 0).trans rfl, (blk_cell BK750.out 1).trans rfl, hx779_0, hx779_1, hx780_0, hx780_1⟩ (fun hHeld => ?_); refine with_tabW storagebarterlaw08_ManifestChanges.tab17 storagebarterlaw08_ManifestChanges.bits17 (fun HT_ HW_ => ?_)
                     generalize w93.drew = w94 at HO_6 HO_89 HO_751001 HO_752001 BK750 BK751 BK776 HB hx779_0 hx779_1 hx780_0 hx780_1 hHeld ⊢
                     refine pu 0 96 (v := ?_) (a' := ?_) HT_ rfl rfl (by kernel_rfl) (fun _ _ _ h => h) (Or.inl ⟨by rfl, ?_⟩) ?_ ?_
                     rotate_left; (intro w'; go_simp; with_reducible rfl); rotate_left; (simp only [Act.put, Sa, Sz, Ss, i64_w, i32_w]; rfl)
                     refine tk 1 97 (v := ?_) (a' := ?_) HT_ HW_ rfl rfl (by kernel_rfl) (fun _ _ _ h => h) (Or.inl ⟨by rfl, ?_⟩) hHeld ?_ ?_
                     rotate_left; (rintro w' ⟨s0, s1, s2, s3, s4, s5, s6, s7, s8, s9⟩; go_simp; with_reducible rfl); rotate_left; (simp only [Act.put, Sa, Sz, Ss, i64_w, i32_w]; rfl)
                     refine tk 2 98 (v := ?_) (a' := ?_) HT_ HW_ rfl rfl (by kernel_rfl) (fun _ _ _ h => h) (Or.inl ⟨by rfl, ?_⟩) hHeld ?_ ?_
                     rotate_left; (rintro w' ⟨s0, s1, s2, s3, s4, s5, s6, s7, s8, s9⟩; go_simp; with_reducible rfl); rotate_left; (simp only [Act.put, Sa, Sz, Ss, i64_w, i32_w]; rfl)
                     refine one_ (i := 3) (N := some 99) #[true, true, true, true, false, false, false, false, false, false, false, false, false, false, false, false, false, false, false, false, false, false, false, false, false, false, false, false, false, false, false, false, false, false, false, false, false, false, false, false, false, false, false, false, false, false, false, false] rfl rfl (one_of HT_.out (by kernel_rfl)) (by decide) (fun K hK => ?_)
                     refine goes_ Try.func49 (by kernel_rfl) rfl #[.slice Ao22 t746.length co22, .agg #[.int .i64 ((rd_T78 t752 x91_3).f0), .int .i64 ((rd_T78 t752 x91_3).f1)]] (by rfl) rfl rfl (by (try simp only [List.map_toArray, List.map_cons, List.map_nil]); first | done | rfl | (simp only [List.length_drop, List.length_take]; rfl)) ?_
                     with_reducible refine (storagebarterlaw08_has.calls k3 _ _ t746 ((rd_T78 t752 x91_3).f0) ((rd_T78 t752 x91_3).f1) true _ ?side1 ?side2 A70.out).mono ?_
                     (case side1 => repeat (first | exact (Kd.R_reads' HO_752001.out).2.2 | (with_reducible refine Kd.C_alloc ?_ _) | (with_reducible refine Kd.C_drewN ?_ _) | (with_reducible refine Kd.C_drew ?_)))
                     (case side2 => exact (Kd.R_reads' HO_752001.out).2.1)
                     rintro e w95 ⟨rfl, hb⟩
                     have HS6_ := (hb.cell (World.block_lt_of_cell? _ _ (hHeld.2.2.2.2.2.2.1))).trans (hHeld.2.2.2.2.2.2.1)
                     have HS7_ := (hb.cell (World.block_lt_of_cell? _ _ (hHeld.2.2.2.2.2.2.2.1))).trans (hHeld.2.2.2.2.2.2.2.1)
                     have HS8_ := (hb.cell (World.block_lt_of_cell? _ _ (hHeld.2.2.2.2.2.2.2.2.1))).trans (hHeld.2.2.2.2.2.2.2.2.1)
                     have HS9_ := (hb.cell (World.block_lt_of_cell? _ _ (hHeld.2.2.2.2.2.2.2.2.2))).trans (hHeld.2.2.2.2.2.2.2.2.2)
                     refine ⟨_, rfl, ?_⟩
                     have n0_ := Aside0.mk (Kd.R_below (by (with_reducible repeat (first | apply Kd.R_alloc | apply Kd.R_drewN | apply Kd.R_drew)); exact HO_6.out) hb)
                     have n1_ := Aside0.mk (Kd.R_below (by (with_reducible repeat (first | apply Kd.R_alloc | apply Kd.R_drewN | apply Kd.R_drew)); exact HO_89.out) hb)
                     have n2_ := Aside0.mk (Kd.R_below (by (with_reducible repeat (first | apply Kd.R_alloc | apply Kd.R_drewN | apply Kd.R_drew)); exact HO_751001.out) hb)
                     have n3_ := Aside0.mk (Kd.R_below (by (with_reducible repeat (first | apply Kd.R_alloc | apply Kd.R_drewN | apply Kd.R_drew)); exact HO_752001.out) hb)
                     have n4_ := Aside0.mk (blk_below (g := gb750) (o := .cells #[.int .i64 t740, .slice Ao19 t741.length co19] 32 (0, 0)) (by (with_reducible repeat (first | refine blk_drewN ?_ _ | refine blk_drew ?_ | refine blk_alloc ?_ _)); exact BK750.out) hb)
                     have n5_ := Aside0.mk (blk_below (g := gb751) (o := .cells #[.int .i64 t745, .slice Ao22 t746.length co22] 32 (0, 0)) (by (with_reducible repeat (first | refine blk_drewN ?_ _ | refine blk_drew ?_ | refine blk_alloc ?_ _)); exact BK751.out) hb)
                     have n6_ := Aside0.mk (blk_below (g := gb776) (o := .cells #[.int .i64 ((rd_T78 t752 x91_3).f0), .int .i64 ((rd_T78 t752 x91_3).f1)] 78 (0, 0)) (by (with_reducible repeat (first | refine blk_drewN ?_ _ | refine blk_drew ?_ | refine blk_alloc ?_ _)); exact BK776.out) hb)
                     have n7_ := Aside0.mk (below_step (by repeat (first | (with_reducible first | exact HB.out | apply below_alloc | apply pw_below_drewN | apply below_drew1 | refine below_set ?_ GE750.out | refine below_set ?_ GE751.out | refine below_set ?_ GE776.out) | exact HB.out)) hb)
                     clear HO_6
                     clear HO_89
                     clear HO_751001
                     clear HO_752001
                     clear BK750
                     clear BK751
                     clear BK776
                     clear HB
                     have HO_6 := n0_
                     have HO_89 := n1_
                     have HO_751001 := n2_
                     have HO_752001 := n3_
                     have BK750 := n4_
                     have BK751 := n5_
                     have BK776 := n6_
                     have HB := n7_
                     clear n0_ n1_ n2_ n3_ n4_ n5_ n6_ n7_
                     (try clear hb)
                     (try clear hb2)
                     (try clear hk)
                     (try clear hi)
                     refine hK.out _ _ ⟨(blk_cell BK751.out 0).trans rfl, (blk_cell BK751.out 1).trans rfl, (blk_cell BK776.out 0).trans rfl, (blk_cell BK776.out 1).trans rfl, (blk_cell BK750.out 0).trans rfl, (blk_cell BK750.out 1).trans rfl, HS6_, HS7_, HS8_, HS9_⟩ (fun hHeld => ?_)
                     clear hK K
                     refine norm_ (a' := ?_) ?_ ?_
                     rotate_left
                     ·show Act.put _ (some 99) _ = _
                      simp only [Act.put, Sa, Sz, Ss, i64_w, i32_w]
                      rfl
                     refine pu 4 100 (v := ?_) (a' := ?_) HT_ rfl rfl (by kernel_rfl) (fun _ _ _ h => h) (Or.inl ⟨by rfl, ?_⟩) ?_ ?_
                     rotate_left; (intro w'; go_simp; with_reducible rfl); rotate_left; (simp only [Act.put, Sa, Sz, Ss, i64_w, i32_w]; rfl)
                     refine pu 5 101 (v := ?_) (a' := ?_) HT_ rfl rfl (by kernel_rfl) (fun _ _ _ h => h) (Or.inl ⟨by rfl, ?_⟩) ?_ ?_
                     rotate_left; (intro w'; go_simp; with_reducible rfl); rotate_left; (simp only [Act.put, Sa, Sz, Ss, i64_w, i32_w]; rfl)
                     refine pu 6 102 (v := ?_) (a' := ?_) HT_ rfl rfl (by kernel_rfl) (fun _ _ _ h => h) (Or.inl ⟨by rfl, ?_⟩) ?_ ?_
                     rotate_left; (intro w'; go_simp; with_reducible rfl); rotate_left; (simp only [Act.put, Sa, Sz, Ss, i64_w, i32_w]; rfl)
                     refine tk 7 103 (v := ?_) (a' := ?_) HT_ HW_ rfl rfl (by kernel_rfl) (fun _ _ _ h => h) (Or.inl ⟨by rfl, ?_⟩) hHeld ?_ ?_
                     rotate_left; (rintro w' ⟨s0, s1, s2, s3, s4, s5, s6, s7, s8, s9⟩; go_simp; with_reducible rfl); rotate_left; (simp only [Act.put, Sa, Sz, Ss, i64_w, i32_w]; rfl)
                     refine tk 8 104 (v := ?_) (a' := ?_) HT_ HW_ rfl rfl (by kernel_rfl) (fun _ _ _ h => h) (Or.inl ⟨by rfl, ?_⟩) hHeld ?_ ?_
                     rotate_left; (rintro w' ⟨s0, s1, s2, s3, s4, s5, s6, s7, s8, s9⟩; go_simp; with_reducible rfl); rotate_left; (simp only [Act.put, Sa, Sz, Ss, i64_w, i32_w]; rfl)
                     refine one_ (i := 9) (N := some 105) #[true, true, true, true, true, true, true, true, true, true, false, false, false, false, false, false, false, false, false, false, false, false, false, false, false, false, false, false, false, false, false, false, false, false, false, false, false, false, false, false, false, false, false, false, false, false, false, false] rfl rfl (one_of HT_.out (by kernel_rfl)) (by decide) (fun K hK => ?_)
                     refine goes_ Try.func49 (by kernel_rfl) rfl #[.slice Ao19 t741.length co19, .agg #[.int .i64 ((rd_T78 t752 x91_3).f0), .int .i64 ((rd_T78 t752 x91_3).f1)]] (by rfl) rfl rfl (by (try simp only [List.map_toArray, List.map_cons, List.map_nil]); first | done | rfl | (simp only [List.length_drop, List.length_take]; rfl)) ?_
                     with_reducible refine (storagebarterlaw08_has.calls k3 _ _ t741 ((rd_T78 t752 x91_3).f0) ((rd_T78 t752 x91_3).f1) false _ ?side1 ?side2 A72.out).mono ?_
                     (case side1 => repeat (first | exact (Kd.R_reads' HO_751001.out).2.2 | (with_reducible refine Kd.C_alloc ?_ _) | (with_reducible refine Kd.C_drewN ?_ _) | (with_reducible refine Kd.C_drew ?_)))
                     (case side2 => exact (Kd.R_reads' HO_751001.out).2.1)
                     rintro e w96 ⟨rfl, hb⟩
                     have HS6_ := (hb.cell (World.block_lt_of_cell? _ _ (hHeld.2.2.2.2.2.2.1))).trans (hHeld.2.2.2.2.2.2.1)
                     have HS7_ := (hb.cell (World.block_lt_of_cell? _ _ (hHeld.2.2.2.2.2.2.2.1))).trans (hHeld.2.2.2.2.2.2.2.1)
                     have HS8_ := (hb.cell (World.block_lt_of_cell? _ _ (hHeld.2.2.2.2.2.2.2.2.1))).trans (hHeld.2.2.2.2.2.2.2.2.1)
                     have HS9_ := (hb.cell (World.block_lt_of_cell? _ _ (hHeld.2.2.2.2.2.2.2.2.2))).trans (hHeld.2.2.2.2.2.2.2.2.2)
                     refine ⟨_, rfl, ?_⟩
                     have n0_ := Aside0.mk (Kd.R_below (by (with_reducible repeat (first | apply Kd.R_alloc | apply Kd.R_drewN | apply Kd.R_drew)); exact HO_6.out) hb)
                     have n1_ := Aside0.mk (Kd.R_below (by (with_reducible repeat (first | apply Kd.R_alloc | apply Kd.R_drewN | apply Kd.R_drew)); exact HO_89.out) hb)
                     have n2_ := Aside0.mk (Kd.R_below (by (with_reducible repeat (first | apply Kd.R_alloc | apply Kd.R_drewN | apply Kd.R_drew)); exact HO_751001.out) hb)
                     have n3_ := Aside0.mk (Kd.R_below (by (with_reducible repeat (first | apply Kd.R_alloc | apply Kd.R_drewN | apply Kd.R_drew)); exact HO_752001.out) hb)
                     have n4_ := Aside0.mk (blk_below (g := gb750) (o := .cells #[.int .i64 t740, .slice Ao19 t741.length co19] 32 (0, 0)) (by (with_reducible repeat (first | refine blk_drewN ?_ _ | refine blk_drew ?_ | refine blk_alloc ?_ _)); exact BK750.out) hb)
                     have n5_ := Aside0.mk (blk_below (g := gb751) (o := .cells #[.int .i64 t745, .slice Ao22 t746.length co22] 32 (0, 0)) (by (with_reducible repeat (first | refine blk_drewN ?_ _ | refine blk_drew ?_ | refine blk_alloc ?_ _)); exact BK751.out) hb)
                     have n6_ := Aside0.mk (blk_below (g := gb776) (o := .cells #[.int .i64 ((rd_T78 t752 x91_3).f0), .int .i64 ((rd_T78 t752 x91_3).f1)] 78 (0, 0)) (by (with_reducible repeat (first | refine blk_drewN ?_ _ | refine blk_drew ?_ | refine blk_alloc ?_ _)); exact BK776.out) hb)
                     have n7_ := Aside0.mk (below_step (by repeat (first | (with_reducible first | exact HB.out | apply below_alloc | apply pw_below_drewN | apply below_drew1 | refine below_set ?_ GE750.out | refine below_set ?_ GE751.out | refine below_set ?_ GE776.out) | exact HB.out)) hb)
                     clear HO_6
                     clear HO_89
                     clear HO_751001
                     clear HO_752001
                     clear BK750
                     clear BK751
                     clear BK776
                     clear HB
                     have HO_6 := n0_
                     have HO_89 := n1_
                     have HO_751001 := n2_
                     have HO_752001 := n3_
                     have BK750 := n4_
                     have BK751 := n5_
                     have BK776 := n6_
                     have HB := n7_
                     clear n0_ n1_ n2_ n3_ n4_ n5_ n6_ n7_
                     (try clear hb)
                     (try clear hb2)
                     (try clear hk)
                     (try clear hi)
                     refine hK.out _ _ ⟨(blk_cell BK751.out 0).trans rfl, (blk_cell BK751.out 1).trans rfl, (blk_cell BK776.out 0).trans rfl, (blk_cell BK776.out 1).trans rfl, (blk_cell BK750.out 0).trans rfl, (blk_cell BK750.out 1).trans rfl, HS6_, HS7_, HS8_, HS9_⟩ (fun hHeld => ?_)
                     clear hK K
                     refine norm_ (a' := ?_) ?_ ?_
                     rotate_left
                     ·show Act.put _ (some 105) _ = _
                      simp only [Act.put, Sa, Sz, Ss, i64_w, i32_w]
                      rfl
                     refine pu 10 106 (v := ?_) (a' := ?_) HT_ rfl rfl (by kernel_rfl) (fun _ _ _ h => h) (Or.inl ⟨by rfl, ?_⟩) ?_ ?_
                     rotate_left; (intro w'; go_simp; with_reducible rfl); rotate_left; (simp only [Act.put, Sa, Sz, Ss, i64_w, i32_w]; rfl)
                     refine pu 11 107 (v := ?_) (a' := ?_) HT_ rfl rfl (by kernel_rfl) (fun _ _ _ h => h) (Or.inl ⟨by rfl, ?_⟩) ?_ ?_
                     rotate_left; (intro w'; go_simp; with_reducible rfl); rotate_left; (simp only [Act.put, Sa, Sz, Ss, i64_w, i32_w]; rfl)
                     refine pu 12 108 (v := ?_) (a' := ?_) HT_ rfl rfl (by kernel_rfl) (fun _ _ _ h => h) (Or.inl ⟨by rfl, ?_⟩) ?_ ?_
                     rotate_left; (intro w'; go_simp; with_reducible rfl); rotate_left; (simp only [Act.put, Sa, Sz, Ss, i64_w, i32_w]; rfl)
                     refine pu 13 109 (v := ?_) (a' := ?_) HT_ rfl rfl (by kernel_rfl) (fun _ _ _ h => h) (Or.inl ⟨by rfl, ?_⟩) ?_ ?_
                     rotate_left; (intro w'; go_simp; with_reducible rfl); rotate_left; (simp only [Act.put, Sa, Sz, Ss, i64_w, i32_w]; rfl)
                     refine pu 14 110 (v := ?_) (a' := ?_) HT_ rfl rfl (by kernel_rfl) (fun _ _ _ h => h) (Or.inl ⟨by rfl, ?_⟩) ?_ ?_
                     rotate_left; (intro w'; go_simp; with_reducible rfl); rotate_left; (simp only [Act.put, Sa, Sz, Ss, i64_w, i32_w]; rfl)
                     refine pu 15 111 (v := ?_) (a' := ?_) HT_ rfl rfl (by kernel_rfl) (fun _ _ _ h => h) (Or.inl ⟨by rfl, ?_⟩) ?_ ?_
                     rotate_left; (intro w'; go_simp; with_reducible rfl); rotate_left; (simp only [Act.put, Sa, Sz, Ss, i64_w, i32_w]; rfl)
                     refine pu 16 112 (v := ?_) (a' := ?_) HT_ rfl rfl (by kernel_rfl) (fun _ _ _ h => h) (Or.inl ⟨by rfl, ?_⟩) ?_ ?_
                     rotate_left; (intro w'; go_simp; with_reducible rfl); rotate_left; (simp only [Act.put, Sa, Sz, Ss, i64_w, i32_w]; rfl)
                     refine pu 17 113 (v := ?_) (a' := ?_) HT_ rfl rfl (by kernel_rfl) (fun _ _ _ h => h) (Or.inl ⟨by rfl, ?_⟩) ?_ ?_
                     rotate_left; (intro w'; go_simp; with_reducible rfl); rotate_left; (simp only [Act.put, Sa, Sz, Ss, i64_w, i32_w]; rfl)
                     refine pu 18 114 (v := ?_) (a' := ?_) HT_ rfl rfl (by kernel_rfl) (fun _ _ _ h => h) (Or.inl ⟨by rfl, ?_⟩) ?_ ?_
                     rotate_left; (intro w'; go_simp; with_reducible rfl); rotate_left; (simp only [Act.put, Sa, Sz, Ss, i64_w, i32_w]; rfl)
                     refine pu 19 115 (v := ?_) (a' := ?_) HT_ rfl rfl (by kernel_rfl) (fun _ _ _ h => h) (Or.inl ⟨by rfl, ?_⟩) ?_ ?_
                     rotate_left; (intro w'; go_simp; with_reducible rfl); rotate_left; (simp only [Act.put, Sa, Sz, Ss, i64_w, i32_w]; rfl)
                     refine pu 21 117 (v := ?_) (a' := ?_) HT_ rfl rfl (by kernel_rfl) (fun _ _ _ h => h) (Or.inl ⟨by rfl, ?_⟩) ?_ ?_
                     rotate_left; (intro w'; go_simp; with_reducible rfl); rotate_left; (simp only [Act.put, Sa, Sz, Ss, i64_w, i32_w]; rfl)
                     refine tk 20 116 (v := ?_) (a' := ?_) HT_ HW_ rfl rfl (by kernel_rfl) (fun _ _ _ h => h) (Or.inl ⟨by rfl, ?_⟩) hHeld ?_ ?_
                     rotate_left; (rintro w' ⟨s0, s1, s2, s3, s4, s5, s6, s7, s8, s9⟩; go_simp; with_reducible rfl); rotate_left; (simp only [Act.put, Sa, Sz, Ss, i64_w, i32_w]; rfl)
                     refine tk 22 118 (v := ?_) (a' := ?_) HT_ HW_ rfl rfl (by kernel_rfl) (fun _ _ _ h => h) (Or.inl ⟨by rfl, ?_⟩) hHeld ?_ ?_
                     rotate_left; (rintro w' ⟨s0, s1, s2, s3, s4, s5, s6, s7, s8, s9⟩; go_simp; with_reducible rfl); rotate_left; (simp only [Act.put, Sa, Sz, Ss, i64_w, i32_w]; rfl)
                     refine pu 23 119 (v := ?_) (a' := ?_) HT_ rfl rfl (by kernel_rfl) (fun _ _ _ h => h) (Or.inl ⟨by rfl, ?_⟩) ?_ ?_
                     rotate_left; (intro w'; go_simp; with_reducible rfl); rotate_left; (simp only [Act.put, Sa, Sz, Ss, i64_w, i32_w]; rfl)
                     refine pu 24 120 (v := ?_) (a' := ?_) HT_ rfl rfl (by kernel_rfl) (fun _ _ _ h => h) (Or.inl ⟨by rfl, ?_⟩) ?_ ?_
                     rotate_left; (intro w'; go_simp; with_reducible rfl); rotate_left; (simp only [Act.put, Sa, Sz, Ss, i64_w, i32_w]; rfl)
                     refine pu 25 121 (v := ?_) (a' := ?_) HT_ rfl rfl (by kernel_rfl) (fun _ _ _ h => h) (Or.inl ⟨by rfl, ?_⟩) ?_ ?_
                     rotate_left; (intro w'; go_simp; with_reducible rfl); rotate_left; (simp only [Act.put, Sa, Sz, Ss, i64_w, i32_w]; rfl)
                     refine pu 26 122 (v := ?_) (a' := ?_) HT_ rfl rfl (by kernel_rfl) (fun _ _ _ h => h) (Or.inl ⟨by rfl, ?_⟩) ?_ ?_
                     rotate_left; (intro w'; go_simp; with_reducible rfl); rotate_left; (simp only [Act.put, Sa, Sz, Ss, i64_w, i32_w]; rfl)
                     refine pu 27 123 (v := ?_) (a' := ?_) HT_ rfl rfl (by kernel_rfl) (fun _ _ _ h => h) (Or.inl ⟨by rfl, ?_⟩) ?_ ?_
                     rotate_left; (intro w'; go_simp; with_reducible rfl); rotate_left; (simp only [Act.put, Sa, Sz, Ss, i64_w, i32_w]; rfl)
                     refine pu 28 124 (v := ?_) (a' := ?_) HT_ rfl rfl (by kernel_rfl) (fun _ _ _ h => h) (Or.inl ⟨by rfl, ?_⟩) ?_ ?_
                     rotate_left; (intro w'; go_simp; with_reducible rfl); rotate_left; (simp only [Act.put, Sa, Sz, Ss, i64_w, i32_w]; rfl)
                     refine pu 29 125 (v := ?_) (a' := ?_) HT_ rfl rfl (by kernel_rfl) (fun _ _ _ h => h) (Or.inl ⟨by rfl, ?_⟩) ?_ ?_
                     rotate_left; (intro w'; go_simp; with_reducible rfl); rotate_left; (simp only [Act.put, Sa, Sz, Ss, i64_w, i32_w]; rfl)
                     refine pu 31 127 (v := ?_) (a' := ?_) HT_ rfl rfl (by kernel_rfl) (fun _ _ _ h => h) (Or.inl ⟨by rfl, ?_⟩) ?_ ?_
                     rotate_left; (intro w'; go_simp; with_reducible rfl); rotate_left; (simp only [Act.put, Sa, Sz, Ss, i64_w, i32_w]; rfl)
                     refine tk 30 126 (v := ?_) (a' := ?_) HT_ HW_ rfl rfl (by kernel_rfl) (fun _ _ _ h => h) (Or.inl ⟨by rfl, ?_⟩) hHeld ?_ ?_
                     rotate_left; (rintro w' ⟨s0, s1, s2, s3, s4, s5, s6, s7, s8, s9⟩; go_simp; with_reducible rfl); rotate_left; (simp only [Act.put, Sa, Sz, Ss, i64_w, i32_w]; rfl)
                     refine tk 32 128 (v := ?_) (a' := ?_) HT_ HW_ rfl rfl (by kernel_rfl) (fun _ _ _ h => h) (Or.inl ⟨by rfl, ?_⟩) hHeld ?_ ?_
                     rotate_left; (rintro w' ⟨s0, s1, s2, s3, s4, s5, s6, s7, s8, s9⟩; go_simp; with_reducible rfl); rotate_left; (simp only [Act.put, Sa, Sz, Ss, i64_w, i32_w]; rfl)
                     refine pu 33 129 (v := ?_) (a' := ?_) HT_ rfl rfl (by kernel_rfl) (fun _ _ _ h => h) (Or.inl ⟨by rfl, ?_⟩) ?_ ?_
                     rotate_left; (intro w'; go_simp; with_reducible rfl); rotate_left; (simp only [Act.put, Sa, Sz, Ss, i64_w, i32_w]; rfl)
                     refine pu 34 130 (v := ?_) (a' := ?_) HT_ rfl rfl (by kernel_rfl) (fun _ _ _ h => h) (Or.inl ⟨by rfl, ?_⟩) ?_ ?_
                     rotate_left; (intro w'; go_simp; with_reducible rfl); rotate_left; (simp only [Act.put, Sa, Sz, Ss, i64_w, i32_w]; rfl)
                     refine pu 35 131 (v := undef) (a' := ?_) HT_ rfl rfl (by kernel_rfl) (fun _ _ _ h => h) (Or.inr ⟨by rfl, rfl⟩) ?_ ?_
                     rotate_left; (simp only [Act.put, Sa, Sz, Ss, i64_w, i32_w]; rfl)
                     refine pu 36 132 (v := undef) (a' := ?_) HT_ rfl rfl (by kernel_rfl) (fun _ _ _ h => h) (Or.inr ⟨by rfl, rfl⟩) ?_ ?_
                     rotate_left; (simp only [Act.put, Sa, Sz, Ss, i64_w, i32_w]; rfl)
                     refine pu 37 133 (v := undef) (a' := ?_) HT_ rfl rfl (by kernel_rfl) (fun _ _ _ h => h) (Or.inr ⟨by rfl, rfl⟩) ?_ ?_
                     rotate_left; (simp only [Act.put, Sa, Sz, Ss, i64_w, i32_w]; rfl)
                     refine pu 38 134 (v := undef) (a' := ?_) HT_ rfl rfl (by kernel_rfl) (fun _ _ _ h => h) (Or.inr ⟨by rfl, rfl⟩) ?_ ?_
                     rotate_left; (simp only [Act.put, Sa, Sz, Ss, i64_w, i32_w]; rfl)
                     refine pu 39 135 (v := undef) (a' := ?_) HT_ rfl rfl (by kernel_rfl) (fun _ _ _ h => h) (Or.inr ⟨by rfl, rfl⟩) ?_ ?_
                     rotate_left; (simp only [Act.put, Sa, Sz, Ss, i64_w, i32_w]; rfl)
                     refine pu 40 136 (v := undef) (a' := ?_) HT_ rfl rfl (by kernel_rfl) (fun _ _ _ h => h) (Or.inr ⟨by rfl, rfl⟩) ?_ ?_
                     rotate_left; (simp only [Act.put, Sa, Sz, Ss, i64_w, i32_w]; rfl)
                     refine pu 41 137 (v := undef) (a' := ?_) HT_ rfl rfl (by kernel_rfl) (fun _ _ _ h => h) (Or.inr ⟨by rfl, rfl⟩) ?_ ?_
                     rotate_left; (simp only [Act.put, Sa, Sz, Ss, i64_w, i32_w]; rfl)
                     refine pu 42 138 (v := undef) (a' := ?_) HT_ rfl rfl (by kernel_rfl) (fun _ _ _ h => h) (Or.inr ⟨by rfl, rfl⟩) ?_ ?_
                     rotate_left; (simp only [Act.put, Sa, Sz, Ss, i64_w, i32_w]; rfl)
                     refine pu 43 139 (v := undef) (a' := ?_) HT_ rfl rfl (by kernel_rfl) (fun _ _ _ h => h) (Or.inr ⟨by rfl, rfl⟩) ?_ ?_
                     rotate_left; (simp only [Act.put, Sa, Sz, Ss, i64_w, i32_w]; rfl)
                     refine pu 44 140 (v := ?_) (a' := ?_) HT_ rfl rfl (by kernel_rfl) (fun _ _ _ h => h) (Or.inl ⟨by rfl, ?_⟩) ?_ ?_
                     rotate_left; (intro w'; go_simp; with_reducible rfl); rotate_left; (simp only [Act.put, Sa, Sz, Ss, i64_w, i32_w]; rfl)
                     refine pu 45 141 (v := ?_) (a' := ?_) HT_ rfl rfl (by kernel_rfl) (fun _ _ _ h => h) (Or.inl ⟨by rfl, ?_⟩) ?_ ?_
                     rotate_left; (intro w'; go_simp; with_reducible rfl); rotate_left; (simp only [Act.put, Sa, Sz, Ss, i64_w, i32_w]; rfl)
                     refine pu 46 142 (v := ?_) (a' := ?_) HT_ rfl rfl (by kernel_rfl) (fun _ _ _ h => h) (Or.inl ⟨by rfl, ?_⟩) ?_ ?_
                     rotate_left; (intro w'; go_simp; with_reducible rfl); rotate_left; (simp only [Act.put, Sa, Sz, Ss, i64_w, i32_w]; rfl)
                     refine pu 47 143 (v := ?_) (a' := ?_) HT_ rfl rfl (by kernel_rfl) (fun _ _ _ h => h) (Or.inl ⟨by rfl, ?_⟩) ?_ ?_
                     rotate_left; (intro w'; go_simp; with_reducible rfl); rotate_left; (simp only [Act.put, Sa, Sz, Ss, i64_w, i32_w]; rfl)
                     refine done_ (done_of HT_.out (by kernel_rfl)) ?_
                     try go_wp2
                     go_roundg k3
                     case measure => have := HJ8.out; have := HJ35.out; have := HK3.out; omega
                     case rel => exact ⟨(wrap64 (x91_3 + 1)), (by first | rfl | (simp; done) | (simp [*]; done)), H', ⟨by have := HJ8.out; have := HJ35.out; have := HK3.out; omega⟩, ⟨by (with_reducible repeat (first | apply Kd.R_alloc | apply Kd.R_drewN | apply Kd.R_drew)); exact Kd.R_mono HO_6.out (fun _ hk => ⟨hk.1, hk.2.1⟩)⟩, ⟨by (with_reducible repeat (first | apply Kd.R_alloc | apply Kd.R_drewN | apply Kd.R_drew)); exact Kd.R_mono HO_89.out (fun _ hk => ⟨hk.1, hk.2.1⟩)⟩, ⟨by (with_reducible repeat (first | apply Kd.R_alloc | apply Kd.R_drewN | apply Kd.R_drew)); exact Kd.R_mono HO_751001.out (fun _ hk => ⟨hk.1, ⟨hk.2.1, hk.2.2.1⟩⟩)⟩, ⟨by (with_reducible repeat (first | apply Kd.R_alloc | apply Kd.R_drewN | apply Kd.R_drew)); exact Kd.R_mono HO_752001.out (fun _ hk => ⟨hk.1, ⟨hk.2.1, hk.2.2.1⟩⟩)⟩, ⟨by (with_reducible repeat (first | refine blk_drewN ?_ _ | refine blk_drew ?_ | refine blk_alloc ?_ _)); exact BK750.out⟩, ⟨by (with_reducible repeat (first | refine blk_drewN ?_ _ | refine blk_drew ?_ | refine blk_alloc ?_ _)); exact BK751.out⟩, ⟨by repeat (first | (with_reducible first | exact HB.out | apply below_alloc | apply pw_below_drewN | apply below_drew1 | refine below_set ?_ GE750.out | refine below_set ?_ GE751.out | refine below_set ?_ GE776.out) | exact HB.out)⟩⟩
                  ·rw [if_neg c77] at H
                   exact absurd H (by simp)
                 ·rw [if_neg c76] at H
                  exact absurd H (by simp)
                ·rw [if_neg c74] at H
                 have c74b0 : decide (0 < x91_3) = false := decide_eq_false c74
                 clear c74
                 have H' := Aside0.mk H
                 clear H
                 have p775 : 0 ≤ (x91_3 : Int) := of_decide_eq_true (by first | (with_reducible assumption) | assumption)
                 have q775 : x91_3 < (t752.length : Int) := of_decide_eq_true (by first | (with_reducible assumption) | assumption)
                 obtain ⟨ad775, e775, hx775_0, hx775_1⟩ := at_T78 (Kd.R_reads' HO_89.out).2.2 x91_3 p775 q775
                 cases e775
                 replace p775 := eq_true p775
                 replace q775 := eq_true q775
                 try go_wp2_with (first | ((with_reducible refine gate_dst (N := 16) rfl ?_); (try (refine gate_guard (by rfl) ?_; dsimp only)); refine box_event ?hg (N := 16) ?hd (cs := #[.int .i64 0, .int .i64 0]) (t := 78) ?hr ?_; (case hd => rfl); (case hg => rfl); (case hr => first | (go_simp; done) | (go_simp; rfl)); intro gb776 hg w97 hbox hb; have n0_ := Aside0.mk (Kd.R_below (Kd.R_elderB (by (with_reducible repeat (first | apply Kd.R_alloc | apply Kd.R_drewN | apply Kd.R_drew)); exact HO_6.out) gb776 (Nat.le_of_eq hg.symm)) hb); have n1_ := Aside0.mk (Kd.R_below (Kd.R_elderB (by (with_reducible repeat (first | apply Kd.R_alloc | apply Kd.R_drewN | apply Kd.R_drew)); exact HO_89.out) gb776 (Nat.le_of_eq hg.symm)) hb); have n2_ := Aside0.mk (Kd.R_below (Kd.R_elderB (by (with_reducible repeat (first | apply Kd.R_alloc | apply Kd.R_drewN | apply Kd.R_drew)); exact HO_751001.out) gb776 (Nat.le_of_eq hg.symm)) hb); have n3_ := Aside0.mk (Kd.R_below (Kd.R_elderB (by (with_reducible repeat (first | apply Kd.R_alloc | apply Kd.R_drewN | apply Kd.R_drew)); exact HO_752001.out) gb776 (Nat.le_of_eq hg.symm)) hb); have n4_ := Aside0.mk (blk_below (g := gb750) (o := .cells #[.int .i64 t740, .slice Ao19 t741.length co19] 32 (0, 0)) (by (with_reducible repeat (first | refine blk_drewN ?_ _ | refine blk_drew ?_ | refine blk_alloc ?_ _)); exact BK750.out) hb); have n5_ := Aside0.mk (blk_below (g := gb751) (o := .cells #[.int .i64 t745, .slice Ao22 t746.length co22] 32 (0, 0)) (by (with_reducible repeat (first | refine blk_drewN ?_ _ | refine blk_drew ?_ | refine blk_alloc ?_ _)); exact BK751.out) hb); have n6_ := Aside0.mk (below_step (by repeat (first | (with_reducible first | exact HB.out | apply below_alloc | apply pw_below_drewN | apply below_drew1 | refine below_set ?_ GE750.out | refine below_set ?_ GE751.out) | exact HB.out)) hb); have n7_ := Aside0.mk (hbox); have n8_ := Aside0.mk ((by rw [hg]; exact (below_size (by repeat (first | (with_reducible first | exact HB.out | apply below_alloc | apply pw_below_drewN | apply below_drew1 | refine below_set ?_ GE750.out | refine below_set ?_ GE751.out) | exact HB.out))) : w.heap.size ≤ gb776)); have n9_ := Aside0.mk ((by rw [hg]; exact (below_size (by repeat (first | (with_reducible first | exact HB.out | apply below_alloc | apply pw_below_drewN | apply below_drew1 | refine below_set ?_ GE750.out | refine below_set ?_ GE751.out) | exact HB.out))) : w.heap.size ≤ gb776)); have n10_ := Aside0.mk ((by rw [hg]; exact Nat.ne_of_lt (blk_lt (g := gb750) (o := .cells #[.int .i64 t740, .slice Ao19 t741.length co19] 32 (0, 0)) (by (with_reducible repeat (first | refine blk_drewN ?_ _ | refine blk_drew ?_ | refine blk_alloc ?_ _)); exact BK750.out)) : gb750 ≠ gb776)); have n11_ := Aside0.mk ((by rw [hg]; exact Nat.ne_of_gt (blk_lt (g := gb750) (o := .cells #[.int .i64 t740, .slice Ao19 t741.length co19] 32 (0, 0)) (by (with_reducible repeat (first | refine blk_drewN ?_ _ | refine blk_drew ?_ | refine blk_alloc ?_ _)); exact BK750.out)) : gb776 ≠ gb750)); have n12_ := Aside0.mk ((by rw [hg]; exact Nat.ne_of_lt (blk_lt (g := gb751) (o := .cells #[.int .i64 t745, .slice Ao22 t746.length co22] 32 (0, 0)) (by (with_reducible repeat (first | refine blk_drewN ?_ _ | refine blk_drew ?_ | refine blk_alloc ?_ _)); exact BK751.out)) : gb751 ≠ gb776)); have n13_ := Aside0.mk ((by rw [hg]; exact Nat.ne_of_gt (blk_lt (g := gb751) (o := .cells #[.int .i64 t745, .slice Ao22 t746.length co22] 32 (0, 0)) (by (with_reducible repeat (first | refine blk_drewN ?_ _ | refine blk_drew ?_ | refine blk_alloc ?_ _)); exact BK751.out)) : gb776 ≠ gb751)); clear HO_6; clear HO_89; clear HO_751001; clear HO_752001; clear BK750; clear BK751; clear HB; have HO_6 := n0_; have HO_89 := n1_; have HO_751001 := n2_; have HO_752001 := n3_; have BK750 := n4_; have BK751 := n5_; have HB := n6_; have BK776 := n7_; have GW776 := n8_; have GE776 := n9_; have NB750_776 := n10_; have NB776_750 := n11_; have NB751_776 := n12_; have NB776_751 := n13_; clear n0_ n1_ n2_ n3_ n4_ n5_ n6_ n7_ n8_ n9_ n10_ n11_ n12_ n13_; clear hb hbox hg; have hnb98 := NB776_750.out; have hnc98 := NB750_776.out; have hnb99 := NB776_751.out; have hnc99 := NB751_776.out; have hcz100_0 : w97.cell? ⟨gb776, 0, none⟩ = some (.int .i64 0) := (blk_cell BK776.out 0).trans rfl; have hcz100_1 : w97.cell? ⟨gb776, 1, none⟩ = some (.int .i64 0) := (blk_cell BK776.out 1).trans rfl; have hfz100_0 := blk_frozen BK776.out 0; have hfz100_1 := blk_frozen BK776.out 1))
                 have n0_ : Aside0 (Kd.R k78 78 ((w97.setCell ⟨gb776, 0, none⟩ (.int .i64 ((rd_T78 t752 x91_3).f0))).setCell ⟨gb776, 1, none⟩ (.int .i64 ((rd_T78 t752 x91_3).f1))) w.heap.size (fun k_ => some k_ ≠ (.slice Ao19 t741.length co19 : Value).ownBlock ∧ some k_ ≠ (.slice Ao22 t746.length co22 : Value).ownBlock ∧ k_ ≠ gb776) (.slice (some ad775) t752.length co66) t752) := ⟨by (with_reducible repeat (first | apply Kd.R_alloc | apply Kd.R_drewN | apply Kd.R_drew)); exact Kd.R_mono (Kd.R_far (p := ⟨gb776, 1, none⟩) (Kd.R_far (p := ⟨gb776, 0, none⟩) (Kd.R_mono HO_6.out (fun k_ hk => (⟨hk, hk.2⟩ : _ ∧ k_ ≠ gb776))) (fun _ hk => hk.2) (.int .i64 ((rd_T78 t752 x91_3).f0))) (fun _ hk => hk.2) (.int .i64 ((rd_T78 t752 x91_3).f1))) (fun _ hk => ⟨hk.1.1.1, ⟨hk.1.1.2, hk.1.2⟩⟩)⟩
                 have n1_ : Aside0 (Kd.R k78 78 ((w97.setCell ⟨gb776, 0, none⟩ (.int .i64 ((rd_T78 t752 x91_3).f0))).setCell ⟨gb776, 1, none⟩ (.int .i64 ((rd_T78 t752 x91_3).f1))) w.heap.size (fun k_ => some k_ ≠ (.slice Ao19 t741.length co19 : Value).ownBlock ∧ some k_ ≠ (.slice Ao22 t746.length co22 : Value).ownBlock ∧ k_ ≠ gb776) (.slice (some ad775) t752.length co66) t752) := ⟨by (with_reducible repeat (first | apply Kd.R_alloc | apply Kd.R_drewN | apply Kd.R_drew)); exact Kd.R_mono (Kd.R_far (p := ⟨gb776, 1, none⟩) (Kd.R_far (p := ⟨gb776, 0, none⟩) (Kd.R_mono HO_89.out (fun k_ hk => (⟨hk, hk.2⟩ : _ ∧ k_ ≠ gb776))) (fun _ hk => hk.2) (.int .i64 ((rd_T78 t752 x91_3).f0))) (fun _ hk => hk.2) (.int .i64 ((rd_T78 t752 x91_3).f1))) (fun _ hk => ⟨hk.1.1.1, ⟨hk.1.1.2, hk.1.2⟩⟩)⟩
                 have n2_ : Aside0 (Kd.R k78 78 ((w97.setCell ⟨gb776, 0, none⟩ (.int .i64 ((rd_T78 t752 x91_3).f0))).setCell ⟨gb776, 1, none⟩ (.int .i64 ((rd_T78 t752 x91_3).f1))) w.heap.size (fun k_ => some k_ ≠ (.slice (some ad775) t752.length co66 : Value).ownBlock ∧ some k_ ≠ (.slice (some ad775) t752.length co66 : Value).ownBlock ∧ some k_ ≠ (.slice Ao22 t746.length co22 : Value).ownBlock ∧ k_ ≠ gb776) (.slice Ao19 t741.length co19) t741) := ⟨by (with_reducible repeat (first | apply Kd.R_alloc | apply Kd.R_drewN | apply Kd.R_drew)); exact Kd.R_mono (Kd.R_far (p := ⟨gb776, 1, none⟩) (Kd.R_far (p := ⟨gb776, 0, none⟩) (Kd.R_mono HO_751001.out (fun k_ hk => (⟨hk, hk.2⟩ : _ ∧ k_ ≠ gb776))) (fun _ hk => hk.2) (.int .i64 ((rd_T78 t752 x91_3).f0))) (fun _ hk => hk.2) (.int .i64 ((rd_T78 t752 x91_3).f1))) (fun _ hk => ⟨hk.1.1.1, ⟨hk.1.1.2.1, ⟨hk.1.1.2.2, hk.1.2⟩⟩⟩)⟩
                 have n3_ : Aside0 (Kd.R k78 78 ((w97.setCell ⟨gb776, 0, none⟩ (.int .i64 ((rd_T78 t752 x91_3).f0))).setCell ⟨gb776, 1, none⟩ (.int .i64 ((rd_T78 t752 x91_3).f1))) w.heap.size (fun k_ => some k_ ≠ (.slice (some ad775) t752.length co66 : Value).ownBlock ∧ some k_ ≠ (.slice (some ad775) t752.length co66 : Value).ownBlock ∧ some k_ ≠ (.slice Ao19 t741.length co19 : Value).ownBlock ∧ k_ ≠ gb776) (.slice Ao22 t746.length co22) t746) := ⟨by (with_reducible repeat (first | apply Kd.R_alloc | apply Kd.R_drewN | apply Kd.R_drew)); exact Kd.R_mono (Kd.R_far (p := ⟨gb776, 1, none⟩) (Kd.R_far (p := ⟨gb776, 0, none⟩) (Kd.R_mono HO_752001.out (fun k_ hk => (⟨hk, hk.2⟩ : _ ∧ k_ ≠ gb776))) (fun _ hk => hk.2) (.int .i64 ((rd_T78 t752 x91_3).f0))) (fun _ hk => hk.2) (.int .i64 ((rd_T78 t752 x91_3).f1))) (fun _ hk => ⟨hk.1.1.1, ⟨hk.1.1.2.1, ⟨hk.1.1.2.2, hk.1.2⟩⟩⟩)⟩
                 have n4_ : Aside0 (((w97.setCell ⟨gb776, 0, none⟩ (.int .i64 ((rd_T78 t752 x91_3).f0))).setCell ⟨gb776, 1, none⟩ (.int .i64 ((rd_T78 t752 x91_3).f1))).heap[gb750]? = some (.cells #[.int .i64 t740, .slice Ao19 t741.length co19] 32 (0, 0))) := ⟨by (with_reducible repeat (first | refine blk_drewN ?_ _ | refine blk_drew ?_ | refine blk_alloc ?_ _)); refine blk_far ?_ NB750_776.out _; (with_reducible repeat (first | refine blk_drewN ?_ _ | refine blk_drew ?_ | refine blk_alloc ?_ _)); refine blk_far ?_ NB750_776.out _; (with_reducible repeat (first | refine blk_drewN ?_ _ | refine blk_drew ?_ | refine blk_alloc ?_ _)); exact BK750.out⟩
                 have n5_ : Aside0 (((w97.setCell ⟨gb776, 0, none⟩ (.int .i64 ((rd_T78 t752 x91_3).f0))).setCell ⟨gb776, 1, none⟩ (.int .i64 ((rd_T78 t752 x91_3).f1))).heap[gb751]? = some (.cells #[.int .i64 t745, .slice Ao22 t746.length co22] 32 (0, 0))) := ⟨by (with_reducible repeat (first | refine blk_drewN ?_ _ | refine blk_drew ?_ | refine blk_alloc ?_ _)); refine blk_far ?_ NB751_776.out _; (with_reducible repeat (first | refine blk_drewN ?_ _ | refine blk_drew ?_ | refine blk_alloc ?_ _)); refine blk_far ?_ NB751_776.out _; (with_reducible repeat (first | refine blk_drewN ?_ _ | refine blk_drew ?_ | refine blk_alloc ?_ _)); exact BK751.out⟩
                 have n6_ : Aside0 (((w97.setCell ⟨gb776, 0, none⟩ (.int .i64 ((rd_T78 t752 x91_3).f0))).setCell ⟨gb776, 1, none⟩ (.int .i64 ((rd_T78 t752 x91_3).f1))).heap[gb776]? = some (.cells #[.int .i64 ((rd_T78 t752 x91_3).f0), .int .i64 ((rd_T78 t752 x91_3).f1)] 78 (0, 0))) := ⟨by (with_reducible repeat (first | refine blk_drewN ?_ _ | refine blk_drew ?_ | refine blk_alloc ?_ _)); refine blk_put (cs := #[.int .i64 ((rd_T78 t752 x91_3).f0), .int .i64 0]) ?_ 1 _ rfl; (with_reducible repeat (first | refine blk_drewN ?_ _ | refine blk_drew ?_ | refine blk_alloc ?_ _)); refine blk_put (cs := #[.int .i64 0, .int .i64 0]) ?_ 0 _ rfl; (with_reducible repeat (first | refine blk_drewN ?_ _ | refine blk_drew ?_ | refine blk_alloc ?_ _)); exact BK776.out⟩
                 have n7_ : Aside0 (Below w.heap.size w ((w97.setCell ⟨gb776, 0, none⟩ (.int .i64 ((rd_T78 t752 x91_3).f0))).setCell ⟨gb776, 1, none⟩ (.int .i64 ((rd_T78 t752 x91_3).f1)))) := ⟨by repeat (first | (with_reducible first | exact HB.out | apply below_alloc | apply pw_below_drewN | apply below_drew1 | refine below_set ?_ GE750.out | refine below_set ?_ GE751.out | refine below_set ?_ GE776.out) | exact HB.out)⟩
                 (try clear HO_6)
                 (try clear HO_89)
                 (try clear HO_751001)
                 (try clear HO_752001)
                 (try clear BK750)
                 (try clear BK751)
                 (try clear BK776)
                 (try clear HB)
                 generalize ((w97.setCell ⟨gb776, 0, none⟩ (.int .i64 ((rd_T78 t752 x91_3).f0))).setCell ⟨gb776, 1, none⟩ (.int .i64 ((rd_T78 t752 x91_3).f1))) = w101 at n0_ n1_ n2_ n3_ n4_ n5_ n6_ n7_ ⊢
                 have HO_6 := n0_
                 have HO_89 := n1_
                 have HO_751001 := n2_
                 have HO_752001 := n3_
                 have BK750 := n4_
                 have BK751 := n5_
                 have BK776 := n6_
                 have HB := n7_
                 clear n0_ n1_ n2_ n3_ n4_ n5_ n6_ n7_
                 have n0_ := Aside0.mk (Kd.R_drew HO_6.out)
                 have n1_ := Aside0.mk (Kd.R_drew HO_89.out)
                 have n2_ := Aside0.mk (Kd.R_drew HO_751001.out)
                 have n3_ := Aside0.mk (Kd.R_drew HO_752001.out)
                 have n4_ := Aside0.mk (blk_drew BK750.out)
                 have n5_ := Aside0.mk (blk_drew BK751.out)
                 have n6_ := Aside0.mk (blk_drew BK776.out)
                 have n7_ := Aside0.mk (below_drew1 HB.out)
                 clear HO_6
                 clear HO_89
                 clear HO_751001
                 clear HO_752001
                 clear BK750
                 clear BK751
                 clear BK776
                 clear HB
                 have HO_6 := n0_
                 have HO_89 := n1_
                 have HO_751001 := n2_
                 have HO_752001 := n3_
                 have BK750 := n4_
                 have BK751 := n5_
                 have BK776 := n6_
                 have HB := n7_
                 clear n0_ n1_ n2_ n3_ n4_ n5_ n6_ n7_
                 refine start_ (n := 48) (S := fun w' => w'.cell? ⟨gb751, 0, none⟩ = some (.int .i64 t745) ∧ w'.cell? ⟨gb751, 1, none⟩ = some (.slice Ao22 t746.length co22) ∧ w'.cell? ⟨gb776, 0, none⟩ = some (.int .i64 ((rd_T78 t752 x91_3).f0)) ∧ w'.cell? ⟨gb776, 1, none⟩ = some (.int .i64 ((rd_T78 t752 x91_3).f1)) ∧ w'.cell? ⟨gb750, 0, none⟩ = some (.int .i64 t740) ∧ w'.cell? ⟨gb750, 1, none⟩ = some (.slice Ao19 t741.length co19)) (ds := []) #[false, false, false, false, false, false, false, false, false, false, false, false, false, false, false, false, false, false, false, false, false, false, false, false, false, false, false, false, false, false, false, false, false, false, false, false, false, false, false, false, false, false, false, false, false, false, false, false] (by kernel_rfl) rfl rfl ⟨(blk_cell BK751.out 0).trans rfl, (blk_cell BK751.out 1).trans rfl, (blk_cell BK776.out 0).trans rfl, (blk_cell BK776.out 1).trans rfl, (blk_cell BK750.out 0).trans rfl, (blk_cell BK750.out 1).trans rfl⟩ (fun hHeld => ?_); refine with_tabW storagebarterlaw08_ManifestChanges.tab17 storagebarterlaw08_ManifestChanges.bits17 (fun HT_ HW_ => ?_)
                 generalize w101.drew = w102 at HO_6 HO_89 HO_751001 HO_752001 BK750 BK751 BK776 HB hHeld ⊢
                 refine pu 0 96 (v := ?_) (a' := ?_) HT_ rfl rfl (by kernel_rfl) (fun _ _ _ h => h) (Or.inl ⟨by rfl, ?_⟩) ?_ ?_
                 rotate_left; (intro w'; go_simp; with_reducible rfl); rotate_left; (simp only [Act.put, Sa, Sz, Ss, i64_w, i32_w]; rfl)
                 refine tk 1 97 (v := ?_) (a' := ?_) HT_ HW_ rfl rfl (by kernel_rfl) (fun _ _ _ h => h) (Or.inl ⟨by rfl, ?_⟩) hHeld ?_ ?_
                 rotate_left; (rintro w' ⟨s0, s1, s2, s3, s4, s5⟩; go_simp; with_reducible rfl); rotate_left; (simp only [Act.put, Sa, Sz, Ss, i64_w, i32_w]; rfl)
                 refine tk 2 98 (v := ?_) (a' := ?_) HT_ HW_ rfl rfl (by kernel_rfl) (fun _ _ _ h => h) (Or.inl ⟨by rfl, ?_⟩) hHeld ?_ ?_
                 rotate_left; (rintro w' ⟨s0, s1, s2, s3, s4, s5⟩; go_simp; with_reducible rfl); rotate_left; (simp only [Act.put, Sa, Sz, Ss, i64_w, i32_w]; rfl)
                 refine one_ (i := 3) (N := some 99) #[true, true, true, true, false, false, false, false, false, false, false, false, false, false, false, false, false, false, false, false, false, false, false, false, false, false, false, false, false, false, false, false, false, false, false, false, false, false, false, false, false, false, false, false, false, false, false, false] rfl rfl (one_of HT_.out (by kernel_rfl)) (by decide) (fun K hK => ?_)
                 refine goes_ Try.func49 (by kernel_rfl) rfl #[.slice Ao22 t746.length co22, .agg #[.int .i64 ((rd_T78 t752 x91_3).f0), .int .i64 ((rd_T78 t752 x91_3).f1)]] (by rfl) rfl rfl (by (try simp only [List.map_toArray, List.map_cons, List.map_nil]); first | done | rfl | (simp only [List.length_drop, List.length_take]; rfl)) ?_
                 with_reducible refine (storagebarterlaw08_has.calls k3 _ _ t746 ((rd_T78 t752 x91_3).f0) ((rd_T78 t752 x91_3).f1) true _ ?side1 ?side2 A70.out).mono ?_
                 (case side1 => repeat (first | exact (Kd.R_reads' HO_752001.out).2.2 | (with_reducible refine Kd.C_alloc ?_ _) | (with_reducible refine Kd.C_drewN ?_ _) | (with_reducible refine Kd.C_drew ?_)))
                 (case side2 => exact (Kd.R_reads' HO_752001.out).2.1)
                 rintro e w103 ⟨rfl, hb⟩
                 refine ⟨_, rfl, ?_⟩
                 have n0_ := Aside0.mk (Kd.R_below (by (with_reducible repeat (first | apply Kd.R_alloc | apply Kd.R_drewN | apply Kd.R_drew)); exact HO_6.out) hb)
                 have n1_ := Aside0.mk (Kd.R_below (by (with_reducible repeat (first | apply Kd.R_alloc | apply Kd.R_drewN | apply Kd.R_drew)); exact HO_89.out) hb)
                 have n2_ := Aside0.mk (Kd.R_below (by (with_reducible repeat (first | apply Kd.R_alloc | apply Kd.R_drewN | apply Kd.R_drew)); exact HO_751001.out) hb)
                 have n3_ := Aside0.mk (Kd.R_below (by (with_reducible repeat (first | apply Kd.R_alloc | apply Kd.R_drewN | apply Kd.R_drew)); exact HO_752001.out) hb)
                 have n4_ := Aside0.mk (blk_below (g := gb750) (o := .cells #[.int .i64 t740, .slice Ao19 t741.length co19] 32 (0, 0)) (by (with_reducible repeat (first | refine blk_drewN ?_ _ | refine blk_drew ?_ | refine blk_alloc ?_ _)); exact BK750.out) hb)
                 have n5_ := Aside0.mk (blk_below (g := gb751) (o := .cells #[.int .i64 t745, .slice Ao22 t746.length co22] 32 (0, 0)) (by (with_reducible repeat (first | refine blk_drewN ?_ _ | refine blk_drew ?_ | refine blk_alloc ?_ _)); exact BK751.out) hb)
                 have n6_ := Aside0.mk (blk_below (g := gb776) (o := .cells #[.int .i64 ((rd_T78 t752 x91_3).f0), .int .i64 ((rd_T78 t752 x91_3).f1)] 78 (0, 0)) (by (with_reducible repeat (first | refine blk_drewN ?_ _ | refine blk_drew ?_ | refine blk_alloc ?_ _)); exact BK776.out) hb)
                 have n7_ := Aside0.mk (below_step (by repeat (first | (with_reducible first | exact HB.out | apply below_alloc | apply pw_below_drewN | apply below_drew1 | refine below_set ?_ GE750.out | refine below_set ?_ GE751.out | refine below_set ?_ GE776.out) | exact HB.out)) hb)
                 clear HO_6
                 clear HO_89
                 clear HO_751001
                 clear HO_752001
                 clear BK750
                 clear BK751
                 clear BK776
                 clear HB
                 have HO_6 := n0_
                 have HO_89 := n1_
                 have HO_751001 := n2_
                 have HO_752001 := n3_
                 have BK750 := n4_
                 have BK751 := n5_
                 have BK776 := n6_
                 have HB := n7_
                 clear n0_ n1_ n2_ n3_ n4_ n5_ n6_ n7_
                 (try clear hb)
                 (try clear hb2)
                 (try clear hk)
                 (try clear hi)
                 refine hK.out _ _ ⟨(blk_cell BK751.out 0).trans rfl, (blk_cell BK751.out 1).trans rfl, (blk_cell BK776.out 0).trans rfl, (blk_cell BK776.out 1).trans rfl, (blk_cell BK750.out 0).trans rfl, (blk_cell BK750.out 1).trans rfl⟩ (fun hHeld => ?_)
                 clear hK K
                 refine norm_ (a' := ?_) ?_ ?_
                 rotate_left
                 ·show Act.put _ (some 99) _ = _
                  simp only [Act.put, Sa, Sz, Ss, i64_w, i32_w]
                  rfl
                 refine pu 4 100 (v := ?_) (a' := ?_) HT_ rfl rfl (by kernel_rfl) (fun _ _ _ h => h) (Or.inl ⟨by rfl, ?_⟩) ?_ ?_
                 rotate_left; (intro w'; go_simp; with_reducible rfl); rotate_left; (simp only [Act.put, Sa, Sz, Ss, i64_w, i32_w]; rfl)
                 refine pu 5 101 (v := ?_) (a' := ?_) HT_ rfl rfl (by kernel_rfl) (fun _ _ _ h => h) (Or.inl ⟨by rfl, ?_⟩) ?_ ?_
                 rotate_left; (intro w'; go_simp; with_reducible rfl); rotate_left; (simp only [Act.put, Sa, Sz, Ss, i64_w, i32_w]; rfl)
                 refine pu 6 102 (v := ?_) (a' := ?_) HT_ rfl rfl (by kernel_rfl) (fun _ _ _ h => h) (Or.inl ⟨by rfl, ?_⟩) ?_ ?_
                 rotate_left; (intro w'; go_simp; with_reducible rfl); rotate_left; (simp only [Act.put, Sa, Sz, Ss, i64_w, i32_w]; rfl)
                 refine tk 7 103 (v := ?_) (a' := ?_) HT_ HW_ rfl rfl (by kernel_rfl) (fun _ _ _ h => h) (Or.inl ⟨by rfl, ?_⟩) hHeld ?_ ?_
                 rotate_left; (rintro w' ⟨s0, s1, s2, s3, s4, s5⟩; go_simp; with_reducible rfl); rotate_left; (simp only [Act.put, Sa, Sz, Ss, i64_w, i32_w]; rfl)
                 refine tk 8 104 (v := ?_) (a' := ?_) HT_ HW_ rfl rfl (by kernel_rfl) (fun _ _ _ h => h) (Or.inl ⟨by rfl, ?_⟩) hHeld ?_ ?_
                 rotate_left; (rintro w' ⟨s0, s1, s2, s3, s4, s5⟩; go_simp; with_reducible rfl); rotate_left; (simp only [Act.put, Sa, Sz, Ss, i64_w, i32_w]; rfl)
                 refine one_ (i := 9) (N := some 105) #[true, true, true, true, true, true, true, true, true, true, false, false, false, false, false, false, false, false, false, false, false, false, false, false, false, false, false, false, false, false, false, false, false, false, false, false, false, false, false, false, false, false, false, false, false, false, false, false] rfl rfl (one_of HT_.out (by kernel_rfl)) (by decide) (fun K hK => ?_)
                 refine goes_ Try.func49 (by kernel_rfl) rfl #[.slice Ao19 t741.length co19, .agg #[.int .i64 ((rd_T78 t752 x91_3).f0), .int .i64 ((rd_T78 t752 x91_3).f1)]] (by rfl) rfl rfl (by (try simp only [List.map_toArray, List.map_cons, List.map_nil]); first | done | rfl | (simp only [List.length_drop, List.length_take]; rfl)) ?_
                 with_reducible refine (storagebarterlaw08_has.calls k3 _ _ t741 ((rd_T78 t752 x91_3).f0) ((rd_T78 t752 x91_3).f1) false _ ?side1 ?side2 A72.out).mono ?_
                 (case side1 => repeat (first | exact (Kd.R_reads' HO_751001.out).2.2 | (with_reducible refine Kd.C_alloc ?_ _) | (with_reducible refine Kd.C_drewN ?_ _) | (with_reducible refine Kd.C_drew ?_)))
                 (case side2 => exact (Kd.R_reads' HO_751001.out).2.1)
                 rintro e w104 ⟨rfl, hb⟩
                 refine ⟨_, rfl, ?_⟩
                 have n0_ := Aside0.mk (Kd.R_below (by (with_reducible repeat (first | apply Kd.R_alloc | apply Kd.R_drewN | apply Kd.R_drew)); exact HO_6.out) hb)
                 have n1_ := Aside0.mk (Kd.R_below (by (with_reducible repeat (first | apply Kd.R_alloc | apply Kd.R_drewN | apply Kd.R_drew)); exact HO_89.out) hb)
                 have n2_ := Aside0.mk (Kd.R_below (by (with_reducible repeat (first | apply Kd.R_alloc | apply Kd.R_drewN | apply Kd.R_drew)); exact HO_751001.out) hb)
                 have n3_ := Aside0.mk (Kd.R_below (by (with_reducible repeat (first | apply Kd.R_alloc | apply Kd.R_drewN | apply Kd.R_drew)); exact HO_752001.out) hb)
                 have n4_ := Aside0.mk (blk_below (g := gb750) (o := .cells #[.int .i64 t740, .slice Ao19 t741.length co19] 32 (0, 0)) (by (with_reducible repeat (first | refine blk_drewN ?_ _ | refine blk_drew ?_ | refine blk_alloc ?_ _)); exact BK750.out) hb)
                 have n5_ := Aside0.mk (blk_below (g := gb751) (o := .cells #[.int .i64 t745, .slice Ao22 t746.length co22] 32 (0, 0)) (by (with_reducible repeat (first | refine blk_drewN ?_ _ | refine blk_drew ?_ | refine blk_alloc ?_ _)); exact BK751.out) hb)
                 have n6_ := Aside0.mk (blk_below (g := gb776) (o := .cells #[.int .i64 ((rd_T78 t752 x91_3).f0), .int .i64 ((rd_T78 t752 x91_3).f1)] 78 (0, 0)) (by (with_reducible repeat (first | refine blk_drewN ?_ _ | refine blk_drew ?_ | refine blk_alloc ?_ _)); exact BK776.out) hb)
                 have n7_ := Aside0.mk (below_step (by repeat (first | (with_reducible first | exact HB.out | apply below_alloc | apply pw_below_drewN | apply below_drew1 | refine below_set ?_ GE750.out | refine below_set ?_ GE751.out | refine below_set ?_ GE776.out) | exact HB.out)) hb)
                 clear HO_6
                 clear HO_89
                 clear HO_751001
                 clear HO_752001
                 clear BK750
                 clear BK751
                 clear BK776
                 clear HB
                 have HO_6 := n0_
                 have HO_89 := n1_
                 have HO_751001 := n2_
                 have HO_752001 := n3_
                 have BK750 := n4_
                 have BK751 := n5_
                 have BK776 := n6_
                 have HB := n7_
                 clear n0_ n1_ n2_ n3_ n4_ n5_ n6_ n7_
                 (try clear hb)
                 (try clear hb2)
                 (try clear hk)
                 (try clear hi)
                 refine hK.out _ _ ⟨(blk_cell BK751.out 0).trans rfl, (blk_cell BK751.out 1).trans rfl, (blk_cell BK776.out 0).trans rfl, (blk_cell BK776.out 1).trans rfl, (blk_cell BK750.out 0).trans rfl, (blk_cell BK750.out 1).trans rfl⟩ (fun hHeld => ?_)
                 clear hK K
                 refine norm_ (a' := ?_) ?_ ?_
                 rotate_left
                 ·show Act.put _ (some 105) _ = _
                  simp only [Act.put, Sa, Sz, Ss, i64_w, i32_w]
                  rfl
                 refine pu 10 106 (v := ?_) (a' := ?_) HT_ rfl rfl (by kernel_rfl) (fun _ _ _ h => h) (Or.inl ⟨by rfl, ?_⟩) ?_ ?_
                 rotate_left; (intro w'; go_simp; with_reducible rfl); rotate_left; (simp only [Act.put, Sa, Sz, Ss, i64_w, i32_w]; rfl)
                 refine pu 11 107 (v := ?_) (a' := ?_) HT_ rfl rfl (by kernel_rfl) (fun _ _ _ h => h) (Or.inl ⟨by rfl, ?_⟩) ?_ ?_
                 rotate_left; (intro w'; go_simp; with_reducible rfl); rotate_left; (simp only [Act.put, Sa, Sz, Ss, i64_w, i32_w]; rfl)
                 refine pu 12 108 (v := ?_) (a' := ?_) HT_ rfl rfl (by kernel_rfl) (fun _ _ _ h => h) (Or.inl ⟨by rfl, ?_⟩) ?_ ?_
                 rotate_left; (intro w'; go_simp; with_reducible rfl); rotate_left; (simp only [Act.put, Sa, Sz, Ss, i64_w, i32_w]; rfl)
                 refine pu 13 109 (v := ?_) (a' := ?_) HT_ rfl rfl (by kernel_rfl) (fun _ _ _ h => h) (Or.inl ⟨by rfl, ?_⟩) ?_ ?_
                 rotate_left; (intro w'; go_simp; with_reducible rfl); rotate_left; (simp only [Act.put, Sa, Sz, Ss, i64_w, i32_w]; rfl)
                 refine pu 14 110 (v := ?_) (a' := ?_) HT_ rfl rfl (by kernel_rfl) (fun _ _ _ h => h) (Or.inl ⟨by rfl, ?_⟩) ?_ ?_
                 rotate_left; (intro w'; go_simp; with_reducible rfl); rotate_left; (simp only [Act.put, Sa, Sz, Ss, i64_w, i32_w]; rfl)
                 refine pu 15 111 (v := undef) (a' := ?_) HT_ rfl rfl (by kernel_rfl) (fun _ _ _ h => h) (Or.inr ⟨by rfl, rfl⟩) ?_ ?_
                 rotate_left; (simp only [Act.put, Sa, Sz, Ss, i64_w, i32_w]; rfl)
                 refine pu 16 112 (v := undef) (a' := ?_) HT_ rfl rfl (by kernel_rfl) (fun _ _ _ h => h) (Or.inr ⟨by rfl, rfl⟩) ?_ ?_
                 rotate_left; (simp only [Act.put, Sa, Sz, Ss, i64_w, i32_w]; rfl)
                 refine pu 17 113 (v := undef) (a' := ?_) HT_ rfl rfl (by kernel_rfl) (fun _ _ _ h => h) (Or.inr ⟨by rfl, rfl⟩) ?_ ?_
                 rotate_left; (simp only [Act.put, Sa, Sz, Ss, i64_w, i32_w]; rfl)
                 refine pu 18 114 (v := undef) (a' := ?_) HT_ rfl rfl (by kernel_rfl) (fun _ _ _ h => h) (Or.inr ⟨by rfl, rfl⟩) ?_ ?_
                 rotate_left; (simp only [Act.put, Sa, Sz, Ss, i64_w, i32_w]; rfl)
                 refine pu 19 115 (v := undef) (a' := ?_) HT_ rfl rfl (by kernel_rfl) (fun _ _ _ h => h) (Or.inr ⟨by rfl, rfl⟩) ?_ ?_
                 rotate_left; (simp only [Act.put, Sa, Sz, Ss, i64_w, i32_w]; rfl)
                 refine pu 20 116 (v := undef) (a' := ?_) HT_ rfl rfl (by kernel_rfl) (fun _ _ _ h => h) (Or.inr ⟨by rfl, rfl⟩) ?_ ?_
                 rotate_left; (simp only [Act.put, Sa, Sz, Ss, i64_w, i32_w]; rfl)
                 refine pu 21 117 (v := undef) (a' := ?_) HT_ rfl rfl (by kernel_rfl) (fun _ _ _ h => h) (Or.inr ⟨by rfl, rfl⟩) ?_ ?_
                 rotate_left; (simp only [Act.put, Sa, Sz, Ss, i64_w, i32_w]; rfl)
                 refine pu 22 118 (v := undef) (a' := ?_) HT_ rfl rfl (by kernel_rfl) (fun _ _ _ h => h) (Or.inr ⟨by rfl, rfl⟩) ?_ ?_
                 rotate_left; (simp only [Act.put, Sa, Sz, Ss, i64_w, i32_w]; rfl)
                 refine pu 23 119 (v := undef) (a' := ?_) HT_ rfl rfl (by kernel_rfl) (fun _ _ _ h => h) (Or.inr ⟨by rfl, rfl⟩) ?_ ?_
                 rotate_left; (simp only [Act.put, Sa, Sz, Ss, i64_w, i32_w]; rfl)
                 refine pu 24 120 (v := undef) (a' := ?_) HT_ rfl rfl (by kernel_rfl) (fun _ _ _ h => h) (Or.inr ⟨by rfl, rfl⟩) ?_ ?_
                 rotate_left; (simp only [Act.put, Sa, Sz, Ss, i64_w, i32_w]; rfl)
                 refine pu 25 121 (v := undef) (a' := ?_) HT_ rfl rfl (by kernel_rfl) (fun _ _ _ h => h) (Or.inr ⟨by rfl, rfl⟩) ?_ ?_
                 rotate_left; (simp only [Act.put, Sa, Sz, Ss, i64_w, i32_w]; rfl)
                 refine pu 26 122 (v := undef) (a' := ?_) HT_ rfl rfl (by kernel_rfl) (fun _ _ _ h => h) (Or.inr ⟨by rfl, rfl⟩) ?_ ?_
                 rotate_left; (simp only [Act.put, Sa, Sz, Ss, i64_w, i32_w]; rfl)
                 refine pu 27 123 (v := undef) (a' := ?_) HT_ rfl rfl (by kernel_rfl) (fun _ _ _ h => h) (Or.inr ⟨by rfl, rfl⟩) ?_ ?_
                 rotate_left; (simp only [Act.put, Sa, Sz, Ss, i64_w, i32_w]; rfl)
                 refine pu 28 124 (v := undef) (a' := ?_) HT_ rfl rfl (by kernel_rfl) (fun _ _ _ h => h) (Or.inr ⟨by rfl, rfl⟩) ?_ ?_
                 rotate_left; (simp only [Act.put, Sa, Sz, Ss, i64_w, i32_w]; rfl)
                 refine pu 29 125 (v := undef) (a' := ?_) HT_ rfl rfl (by kernel_rfl) (fun _ _ _ h => h) (Or.inr ⟨by rfl, rfl⟩) ?_ ?_
                 rotate_left; (simp only [Act.put, Sa, Sz, Ss, i64_w, i32_w]; rfl)
                 refine pu 30 126 (v := undef) (a' := ?_) HT_ rfl rfl (by kernel_rfl) (fun _ _ _ h => h) (Or.inr ⟨by rfl, rfl⟩) ?_ ?_
                 rotate_left; (simp only [Act.put, Sa, Sz, Ss, i64_w, i32_w]; rfl)
                 refine pu 31 127 (v := undef) (a' := ?_) HT_ rfl rfl (by kernel_rfl) (fun _ _ _ h => h) (Or.inr ⟨by rfl, rfl⟩) ?_ ?_
                 rotate_left; (simp only [Act.put, Sa, Sz, Ss, i64_w, i32_w]; rfl)
                 refine pu 32 128 (v := undef) (a' := ?_) HT_ rfl rfl (by kernel_rfl) (fun _ _ _ h => h) (Or.inr ⟨by rfl, rfl⟩) ?_ ?_
                 rotate_left; (simp only [Act.put, Sa, Sz, Ss, i64_w, i32_w]; rfl)
                 refine pu 33 129 (v := undef) (a' := ?_) HT_ rfl rfl (by kernel_rfl) (fun _ _ _ h => h) (Or.inr ⟨by rfl, rfl⟩) ?_ ?_
                 rotate_left; (simp only [Act.put, Sa, Sz, Ss, i64_w, i32_w]; rfl)
                 refine pu 34 130 (v := undef) (a' := ?_) HT_ rfl rfl (by kernel_rfl) (fun _ _ _ h => h) (Or.inr ⟨by rfl, rfl⟩) ?_ ?_
                 rotate_left; (simp only [Act.put, Sa, Sz, Ss, i64_w, i32_w]; rfl)
                 refine pu 35 131 (v := undef) (a' := ?_) HT_ rfl rfl (by kernel_rfl) (fun _ _ _ h => h) (Or.inr ⟨by rfl, rfl⟩) ?_ ?_
                 rotate_left; (simp only [Act.put, Sa, Sz, Ss, i64_w, i32_w]; rfl)
                 refine pu 36 132 (v := undef) (a' := ?_) HT_ rfl rfl (by kernel_rfl) (fun _ _ _ h => h) (Or.inr ⟨by rfl, rfl⟩) ?_ ?_
                 rotate_left; (simp only [Act.put, Sa, Sz, Ss, i64_w, i32_w]; rfl)
                 refine pu 37 133 (v := undef) (a' := ?_) HT_ rfl rfl (by kernel_rfl) (fun _ _ _ h => h) (Or.inr ⟨by rfl, rfl⟩) ?_ ?_
                 rotate_left; (simp only [Act.put, Sa, Sz, Ss, i64_w, i32_w]; rfl)
                 refine pu 38 134 (v := undef) (a' := ?_) HT_ rfl rfl (by kernel_rfl) (fun _ _ _ h => h) (Or.inr ⟨by rfl, rfl⟩) ?_ ?_
                 rotate_left; (simp only [Act.put, Sa, Sz, Ss, i64_w, i32_w]; rfl)
                 refine pu 39 135 (v := undef) (a' := ?_) HT_ rfl rfl (by kernel_rfl) (fun _ _ _ h => h) (Or.inr ⟨by rfl, rfl⟩) ?_ ?_
                 rotate_left; (simp only [Act.put, Sa, Sz, Ss, i64_w, i32_w]; rfl)
                 refine pu 40 136 (v := undef) (a' := ?_) HT_ rfl rfl (by kernel_rfl) (fun _ _ _ h => h) (Or.inr ⟨by rfl, rfl⟩) ?_ ?_
                 rotate_left; (simp only [Act.put, Sa, Sz, Ss, i64_w, i32_w]; rfl)
                 refine pu 41 137 (v := undef) (a' := ?_) HT_ rfl rfl (by kernel_rfl) (fun _ _ _ h => h) (Or.inr ⟨by rfl, rfl⟩) ?_ ?_
                 rotate_left; (simp only [Act.put, Sa, Sz, Ss, i64_w, i32_w]; rfl)
                 refine pu 42 138 (v := undef) (a' := ?_) HT_ rfl rfl (by kernel_rfl) (fun _ _ _ h => h) (Or.inr ⟨by rfl, rfl⟩) ?_ ?_
                 rotate_left; (simp only [Act.put, Sa, Sz, Ss, i64_w, i32_w]; rfl)
                 refine pu 43 139 (v := undef) (a' := ?_) HT_ rfl rfl (by kernel_rfl) (fun _ _ _ h => h) (Or.inr ⟨by rfl, rfl⟩) ?_ ?_
                 rotate_left; (simp only [Act.put, Sa, Sz, Ss, i64_w, i32_w]; rfl)
                 refine pu 44 140 (v := undef) (a' := ?_) HT_ rfl rfl (by kernel_rfl) (fun _ _ _ h => h) (Or.inr ⟨by rfl, rfl⟩) ?_ ?_
                 rotate_left; (simp only [Act.put, Sa, Sz, Ss, i64_w, i32_w]; rfl)
                 refine pu 45 141 (v := undef) (a' := ?_) HT_ rfl rfl (by kernel_rfl) (fun _ _ _ h => h) (Or.inr ⟨by rfl, rfl⟩) ?_ ?_
                 rotate_left; (simp only [Act.put, Sa, Sz, Ss, i64_w, i32_w]; rfl)
                 refine pu 46 142 (v := ?_) (a' := ?_) HT_ rfl rfl (by kernel_rfl) (fun _ _ _ h => h) (Or.inl ⟨by rfl, ?_⟩) ?_ ?_
                 rotate_left; (intro w'; go_simp; with_reducible rfl); rotate_left; (simp only [Act.put, Sa, Sz, Ss, i64_w, i32_w]; rfl)
                 refine pu 47 143 (v := ?_) (a' := ?_) HT_ rfl rfl (by kernel_rfl) (fun _ _ _ h => h) (Or.inl ⟨by rfl, ?_⟩) ?_ ?_
                 rotate_left; (intro w'; go_simp; with_reducible rfl); rotate_left; (simp only [Act.put, Sa, Sz, Ss, i64_w, i32_w]; rfl)
                 refine done_ (done_of HT_.out (by kernel_rfl)) ?_
                 try go_wp2
                 go_roundg k3
                 case measure => have := HJ8.out; have := HJ35.out; have := HK3.out; omega
                 case rel => exact ⟨(wrap64 (x91_3 + 1)), (by first | rfl | (simp; done) | (simp [*]; done)), H', ⟨by have := HJ8.out; have := HJ35.out; have := HK3.out; omega⟩, ⟨by (with_reducible repeat (first | apply Kd.R_alloc | apply Kd.R_drewN | apply Kd.R_drew)); exact Kd.R_mono HO_6.out (fun _ hk => ⟨hk.1, hk.2.1⟩)⟩, ⟨by (with_reducible repeat (first | apply Kd.R_alloc | apply Kd.R_drewN | apply Kd.R_drew)); exact Kd.R_mono HO_89.out (fun _ hk => ⟨hk.1, hk.2.1⟩)⟩, ⟨by (with_reducible repeat (first | apply Kd.R_alloc | apply Kd.R_drewN | apply Kd.R_drew)); exact Kd.R_mono HO_751001.out (fun _ hk => ⟨hk.1, ⟨hk.2.1, hk.2.2.1⟩⟩)⟩, ⟨by (with_reducible repeat (first | apply Kd.R_alloc | apply Kd.R_drewN | apply Kd.R_drew)); exact Kd.R_mono HO_752001.out (fun _ hk => ⟨hk.1, ⟨hk.2.1, hk.2.2.1⟩⟩)⟩, ⟨by (with_reducible repeat (first | refine blk_drewN ?_ _ | refine blk_drew ?_ | refine blk_alloc ?_ _)); exact BK750.out⟩, ⟨by (with_reducible repeat (first | refine blk_drewN ?_ _ | refine blk_drew ?_ | refine blk_alloc ?_ _)); exact BK751.out⟩, ⟨by repeat (first | (with_reducible first | exact HB.out | apply below_alloc | apply pw_below_drewN | apply below_drew1 | refine below_set ?_ GE750.out | refine below_set ?_ GE751.out | refine below_set ?_ GE776.out) | exact HB.out)⟩⟩
              ·replace c71 := Bool.eq_false_iff.mpr c71
               subst c71
               rw [if_neg (show ¬ (false = true) by decide)] at H
               exact absurd (H.trans (congrArg some RT_.out)) (by simp)
             ·rw [if_neg c69] at H
              exact absurd H (by simp)
            ·rw [if_neg c68] at H
             exact absurd H (by simp)
           ·rw [if_neg c67] at H
            have c67b0 : decide (x91_3 < (t752.length : Int)) = false := decide_eq_false c67
            clear c67
            have H' := Aside0.mk H
            clear H
            have hnb105 := NB751_750.out
            have hnc105 := NB750_751.out
            have hcz106_0 : wr.cell? ⟨gb751, 0, none⟩ = some (.int .i64 t745) := (blk_cell BK751.out 0).trans rfl
            have hcz106_1 : wr.cell? ⟨gb751, 1, none⟩ = some (.slice Ao22 t746.length co22) := (blk_cell BK751.out 1).trans rfl
            have hfz106_0 := blk_frozen BK751.out 0
            have hfz106_1 := blk_frozen BK751.out 1
            go_wp2
            go_loopg [148] k3 (fun kq v148 w' => ∃ (x148_4 : Int), v148 = .int .i64 x148_4 ∧ Aside0 (storagebarterlaw08_ManifestChanges.l1 kq t752 t746 (t746.length : Int) x148_4 t740 t741 = some r) ∧ Aside0 (kq ≤ k3) ∧ Aside0 (Kd.R k78 78 w' w.heap.size (fun k_ => some k_ ≠ ((.slice Ao22 t746.length co22) : Value).ownBlock ∧ some k_ ≠ ((.slice Ao19 t741.length co19) : Value).ownBlock ∧ some k_ ≠ ((.slice Ao22 t746.length co22) : Value).ownBlock) (.slice Ao66 t752.length co66) t752) ∧ Aside0 (Kd.R k78 78 w' w.heap.size (fun k_ => some k_ ≠ ((.slice Ao66 t752.length co66) : Value).ownBlock ∧ some k_ ≠ ((.slice Ao19 t741.length co19) : Value).ownBlock) (.slice Ao22 t746.length co22) t746) ∧ Aside0 (Kd.R k78 78 w' w.heap.size (fun k_ => some k_ ≠ ((.slice Ao66 t752.length co66) : Value).ownBlock ∧ some k_ ≠ ((.slice Ao22 t746.length co22) : Value).ownBlock ∧ some k_ ≠ ((.slice Ao22 t746.length co22) : Value).ownBlock) (.slice Ao19 t741.length co19) t741) ∧ Aside0 (Kd.R k78 78 w' w.heap.size (fun k_ => some k_ ≠ ((.slice Ao66 t752.length co66) : Value).ownBlock ∧ some k_ ≠ ((.slice Ao19 t741.length co19) : Value).ownBlock) (.slice Ao22 t746.length co22) t746) ∧ Aside0 (w'.heap[gb750]? = some (.cells #[.int .i64 t740, (.slice Ao19 t741.length co19)] 32 (0, 0))) ∧ Aside0 (w'.heap[gb751]? = some (.cells #[.int .i64 t745, (.slice Ao22 t746.length co22)] 32 (0, 0))) ∧ Aside0 (Below w.heap.size w w'))
            case atStart => exact ⟨(0), (by first | rfl | (simp; done) | (simp [*]; done)), H', ⟨Nat.le_refl _⟩, ⟨by (with_reducible repeat (first | apply Kd.R_alloc | apply Kd.R_drewN | apply Kd.R_drew)); exact Kd.R_mono HO_6.out (fun _ hk => ⟨hk.2, ⟨hk.1, hk.2⟩⟩)⟩, ⟨by (with_reducible repeat (first | apply Kd.R_alloc | apply Kd.R_drewN | apply Kd.R_drew)); exact Kd.R_mono HO_752001.out (fun _ hk => ⟨hk.1, hk.2.2⟩)⟩, ⟨by (with_reducible repeat (first | apply Kd.R_alloc | apply Kd.R_drewN | apply Kd.R_drew)); exact Kd.R_mono HO_751001.out (fun _ hk => ⟨hk.1, ⟨hk.2.2, hk.2.2⟩⟩)⟩, ⟨by (with_reducible repeat (first | apply Kd.R_alloc | apply Kd.R_drewN | apply Kd.R_drew)); exact Kd.R_mono HO_752001.out (fun _ hk => ⟨hk.1, hk.2.2⟩)⟩, ⟨by (with_reducible repeat (first | refine blk_drewN ?_ _ | refine blk_drew ?_ | refine blk_alloc ?_ _)); exact BK750.out⟩, ⟨by (with_reducible repeat (first | refine blk_drewN ?_ _ | refine blk_drew ?_ | refine blk_alloc ?_ _)); exact BK751.out⟩, ⟨by repeat (first | (with_reducible first | exact HB.out | apply below_alloc | apply pw_below_drewN | apply below_drew1 | refine below_set ?_ GE750.out | refine below_set ?_ GE751.out) | exact HB.out)⟩⟩
            case round =>
             clear H'
             try clear c1
             try clear p2
             try clear c4
             try clear c6
             try clear p6
             try clear c7
             try clear p7
             try clear q7
             try clear hx7
             try clear c9
             try clear c10
             try clear c49
             try clear p64
             try clear c67
             try clear c67b0
             try clear c68
             try clear c69
             try clear c71
             try clear c74
             try clear c74b0
             try clear c76
             try clear c77
             try clear p77
             try clear q77
             try clear hx77
             try clear c98
             try clear c99
             try clear c105
             try clear hcz100_0
             try clear hcz100_1
             try clear hcz106_0
             try clear hcz106_1
             try clear hfz100_0
             try clear hfz100_1
             try clear hfz106_0
             try clear hfz106_1
             try clear hx775_0
             try clear hx775_1
             try clear p775
             try clear q775
             obtain ⟨x148_4, rfl, HA, HK4, HO_6, HO_146, HO_751001, HO_752001, BK750, BK751, HB⟩ := hrel
             cases gk with
             | zero => exact absurd HA.out (by simp [storagebarterlaw08_ManifestChanges.l1])
             | succ k4 =>
              have H := HA.out
              clear HA
              simp only [storagebarterlaw08_ManifestChanges.l1] at H
              by_cases c107 : x148_4 < (t746.length : Int)
              ·rw [if_pos c107] at H
               have c107b0 : decide (x148_4 < (t746.length : Int)) = true := decide_eq_true c107
               clear c107
               by_cases c108 : 0 ≤ x148_4
               ·rw [if_pos c108] at H
                have c108b0 : decide (0 ≤ x148_4) = true := decide_eq_true c108
                clear c108
                by_cases c109 : x148_4 < (t746.length : Int)
                ·rw [if_pos c109] at H
                 have c109b0 : decide (x148_4 < (t746.length : Int)) = true := decide_eq_true c109
                 clear c109
                 replace H := Option.bind_eq_some_iff.mp H
                 obtain ⟨t784, A1100, H⟩ := H
                 try dsimp only at H
                 have A110 := Aside0.mk A1100
                 clear A1100
                 by_cases c111 : t784 = true
                 ·subst c111
                  rw [if_pos rfl] at H
                  have H' := Aside0.mk H
                  clear H
                  have p782 : 0 ≤ (x148_4 : Int) := of_decide_eq_true (by first | (with_reducible assumption) | assumption)
                  have q782 : x148_4 < (t746.length : Int) := of_decide_eq_true (by first | (with_reducible assumption) | assumption)
                  obtain ⟨ad782, e782, hx782_0, hx782_1⟩ := at_T78 (Kd.R_reads' HO_146.out).2.2 x148_4 p782 q782
                  cases e782
                  replace p782 := eq_true p782
                  replace q782 := eq_true q782
                  go_wp2_with (first | ((with_reducible refine gate_dst (N := 18) rfl ?_); (try (refine gate_guard (by rfl) ?_; dsimp only)); refine box_event ?hg (N := 18) ?hd (cs := #[.int .i64 0, .int .i64 0]) (t := 78) ?hr ?_; (case hd => rfl); (case hg => rfl); (case hr => first | (go_simp; done) | (go_simp; rfl)); intro gb783 hg w112 hbox hb; have n0_ := Aside0.mk (Kd.R_below (Kd.R_elderB (by (with_reducible repeat (first | apply Kd.R_alloc | apply Kd.R_drewN | apply Kd.R_drew)); exact HO_6.out) gb783 (Nat.le_of_eq hg.symm)) hb); have n1_ := Aside0.mk (Kd.R_below (Kd.R_elderB (by (with_reducible repeat (first | apply Kd.R_alloc | apply Kd.R_drewN | apply Kd.R_drew)); exact HO_146.out) gb783 (Nat.le_of_eq hg.symm)) hb); have n2_ := Aside0.mk (Kd.R_below (Kd.R_elderB (by (with_reducible repeat (first | apply Kd.R_alloc | apply Kd.R_drewN | apply Kd.R_drew)); exact HO_751001.out) gb783 (Nat.le_of_eq hg.symm)) hb); have n3_ := Aside0.mk (Kd.R_below (Kd.R_elderB (by (with_reducible repeat (first | apply Kd.R_alloc | apply Kd.R_drewN | apply Kd.R_drew)); exact HO_752001.out) gb783 (Nat.le_of_eq hg.symm)) hb); have n4_ := Aside0.mk (blk_below (g := gb750) (o := .cells #[.int .i64 t740, .slice Ao19 t741.length co19] 32 (0, 0)) (by (with_reducible repeat (first | refine blk_drewN ?_ _ | refine blk_drew ?_ | refine blk_alloc ?_ _)); exact BK750.out) hb); have n5_ := Aside0.mk (blk_below (g := gb751) (o := .cells #[.int .i64 t745, .slice (some ad782) t746.length co22] 32 (0, 0)) (by (with_reducible repeat (first | refine blk_drewN ?_ _ | refine blk_drew ?_ | refine blk_alloc ?_ _)); exact BK751.out) hb); have n6_ := Aside0.mk (below_step (by repeat (first | (with_reducible first | exact HB.out | apply below_alloc | apply pw_below_drewN | apply below_drew1 | refine below_set ?_ GE750.out | refine below_set ?_ GE751.out) | exact HB.out)) hb); have n7_ := Aside0.mk (hbox); have n8_ := Aside0.mk ((by rw [hg]; exact (below_size (by repeat (first | (with_reducible first | exact HB.out | apply below_alloc | apply pw_below_drewN | apply below_drew1 | refine below_set ?_ GE750.out | refine below_set ?_ GE751.out) | exact HB.out))) : w.heap.size ≤ gb783)); have n9_ := Aside0.mk ((by rw [hg]; exact (below_size (by repeat (first | (with_reducible first | exact HB.out | apply below_alloc | apply pw_below_drewN | apply below_drew1 | refine below_set ?_ GE750.out | refine below_set ?_ GE751.out) | exact HB.out))) : w.heap.size ≤ gb783)); have n10_ := Aside0.mk ((by rw [hg]; exact Nat.ne_of_lt (blk_lt (g := gb750) (o := .cells #[.int .i64 t740, .slice Ao19 t741.length co19] 32 (0, 0)) (by (with_reducible repeat (first | refine blk_drewN ?_ _ | refine blk_drew ?_ | refine blk_alloc ?_ _)); exact BK750.out)) : gb750 ≠ gb783)); have n11_ := Aside0.mk ((by rw [hg]; exact Nat.ne_of_gt (blk_lt (g := gb750) (o := .cells #[.int .i64 t740, .slice Ao19 t741.length co19] 32 (0, 0)) (by (with_reducible repeat (first | refine blk_drewN ?_ _ | refine blk_drew ?_ | refine blk_alloc ?_ _)); exact BK750.out)) : gb783 ≠ gb750)); have n12_ := Aside0.mk ((by rw [hg]; exact Nat.ne_of_lt (blk_lt (g := gb751) (o := .cells #[.int .i64 t745, .slice (some ad782) t746.length co22] 32 (0, 0)) (by (with_reducible repeat (first | refine blk_drewN ?_ _ | refine blk_drew ?_ | refine blk_alloc ?_ _)); exact BK751.out)) : gb751 ≠ gb783)); have n13_ := Aside0.mk ((by rw [hg]; exact Nat.ne_of_gt (blk_lt (g := gb751) (o := .cells #[.int .i64 t745, .slice (some ad782) t746.length co22] 32 (0, 0)) (by (with_reducible repeat (first | refine blk_drewN ?_ _ | refine blk_drew ?_ | refine blk_alloc ?_ _)); exact BK751.out)) : gb783 ≠ gb751)); clear HO_6; clear HO_146; clear HO_751001; clear HO_752001; clear BK750; clear BK751; clear HB; have HO_6 := n0_; have HO_146 := n1_; have HO_751001 := n2_; have HO_752001 := n3_; have BK750 := n4_; have BK751 := n5_; have HB := n6_; have BK783 := n7_; have GW783 := n8_; have GE783 := n9_; have NB750_783 := n10_; have NB783_750 := n11_; have NB751_783 := n12_; have NB783_751 := n13_; clear n0_ n1_ n2_ n3_ n4_ n5_ n6_ n7_ n8_ n9_ n10_ n11_ n12_ n13_; clear hb hbox hg; have hnb113 := NB783_750.out; have hnc113 := NB750_783.out; have hnb114 := NB783_751.out; have hnc114 := NB751_783.out; have hcz115_0 : w112.cell? ⟨gb783, 0, none⟩ = some (.int .i64 0) := (blk_cell BK783.out 0).trans rfl; have hcz115_1 : w112.cell? ⟨gb783, 1, none⟩ = some (.int .i64 0) := (blk_cell BK783.out 1).trans rfl; have hfz115_0 := blk_frozen BK783.out 0; have hfz115_1 := blk_frozen BK783.out 1; have hnb116 := NB750_751.out; have hnc116 := NB751_750.out; have hcz117_0 : w112.cell? ⟨gb750, 0, none⟩ = some (.int .i64 t740) := (blk_cell BK750.out 0).trans rfl; have hcz117_1 : w112.cell? ⟨gb750, 1, none⟩ = some (.slice Ao19 t741.length co19) := (blk_cell BK750.out 1).trans rfl; have hfz117_0 := blk_frozen BK750.out 0; have hfz117_1 := blk_frozen BK750.out 1) | ((with_reducible refine gate_callee (f := 49) rfl ?_); refine goesL_ (some 155) rfl rfl Try.func49 (by kernel_rfl) rfl #[.slice Ao19 t741.length co19, .agg #[.int .i64 ((rd_T78 t746 x148_4).f0), .int .i64 ((rd_T78 t746 x148_4).f1)]] rfl (by (try simp only [List.map_toArray, List.map_cons, List.map_nil]); first | done | rfl | (simp only [List.length_drop, List.length_take]; rfl)) ?_; (with_reducible refine (storagebarterlaw08_has.calls k4 _ _ t741 ((rd_T78 t746 x148_4).f0) ((rd_T78 t746 x148_4).f1) true _ ?side1 ?side2 A110.out).mono ?_); (case side1 => refine (Kd.R_reads' (e := 78) (base := w.heap.size) (ok := fun k_ => ((some k_ ≠ (.slice Ao66 t752.length co66 : Value).ownBlock ∧ (some k_ ≠ (.slice (some ad782) t746.length co22 : Value).ownBlock ∧ some k_ ≠ (.slice (some ad782) t746.length co22 : Value).ownBlock)) ∧ k_ ≠ gb783)) (n := t741.length) (c := co19) ?_).2.2; exact (by (with_reducible repeat (first | apply Kd.R_alloc | apply Kd.R_drewN | apply Kd.R_drew)); exact (Kd.R_mono (Kd.R_far (p := ⟨gb783, 1, none⟩) (Kd.R_far (p := ⟨gb783, 0, none⟩) (Kd.R_mono HO_751001.out (fun k_ hk => (⟨hk, hk.2⟩ : _ ∧ k_ ≠ gb783))) (fun _ hk => hk.2) (.int .i64 ((rd_T78 t746 x148_4).f0))) (fun _ hk => hk.2) (.int .i64 ((rd_T78 t746 x148_4).f1))) (fun _ h_ => h_.1)))); (case side2 => exact (Kd.R_reads' HO_751001.out).2.1); rintro e w118 ⟨rfl, hb⟩; refine ⟨_, rfl, ?_⟩; have n0_ := Aside0.mk (Kd.R_below (by (with_reducible repeat (first | apply Kd.R_alloc | apply Kd.R_drewN | apply Kd.R_drew)); exact (Kd.R_mono (Kd.R_far (p := ⟨gb783, 1, none⟩) (Kd.R_far (p := ⟨gb783, 0, none⟩) (Kd.R_mono HO_6.out (fun k_ hk => (⟨hk, hk.2⟩ : _ ∧ k_ ≠ gb783))) (fun _ hk => hk.2) (.int .i64 ((rd_T78 t746 x148_4).f0))) (fun _ hk => hk.2) (.int .i64 ((rd_T78 t746 x148_4).f1))) (fun _ h_ => h_.1))) hb); have n1_ := Aside0.mk (Kd.R_below (by (with_reducible repeat (first | apply Kd.R_alloc | apply Kd.R_drewN | apply Kd.R_drew)); exact (Kd.R_mono (Kd.R_far (p := ⟨gb783, 1, none⟩) (Kd.R_far (p := ⟨gb783, 0, none⟩) (Kd.R_mono HO_146.out (fun k_ hk => (⟨hk, hk.2⟩ : _ ∧ k_ ≠ gb783))) (fun _ hk => hk.2) (.int .i64 ((rd_T78 t746 x148_4).f0))) (fun _ hk => hk.2) (.int .i64 ((rd_T78 t746 x148_4).f1))) (fun _ h_ => h_.1))) hb); have n2_ := Aside0.mk (Kd.R_below (by (with_reducible repeat (first | apply Kd.R_alloc | apply Kd.R_drewN | apply Kd.R_drew)); exact (Kd.R_mono (Kd.R_far (p := ⟨gb783, 1, none⟩) (Kd.R_far (p := ⟨gb783, 0, none⟩) (Kd.R_mono HO_751001.out (fun k_ hk => (⟨hk, hk.2⟩ : _ ∧ k_ ≠ gb783))) (fun _ hk => hk.2) (.int .i64 ((rd_T78 t746 x148_4).f0))) (fun _ hk => hk.2) (.int .i64 ((rd_T78 t746 x148_4).f1))) (fun _ h_ => h_.1))) hb); have n3_ := Aside0.mk (Kd.R_below (by (with_reducible repeat (first | apply Kd.R_alloc | apply Kd.R_drewN | apply Kd.R_drew)); exact (Kd.R_mono (Kd.R_far (p := ⟨gb783, 1, none⟩) (Kd.R_far (p := ⟨gb783, 0, none⟩) (Kd.R_mono HO_752001.out (fun k_ hk => (⟨hk, hk.2⟩ : _ ∧ k_ ≠ gb783))) (fun _ hk => hk.2) (.int .i64 ((rd_T78 t746 x148_4).f0))) (fun _ hk => hk.2) (.int .i64 ((rd_T78 t746 x148_4).f1))) (fun _ h_ => h_.1))) hb); have n4_ := Aside0.mk (blk_below (g := gb750) (o := .cells #[.int .i64 t740, .slice Ao19 t741.length co19] 32 (0, 0)) (by (with_reducible repeat (first | refine blk_drewN ?_ _ | refine blk_drew ?_ | refine blk_alloc ?_ _)); refine blk_far ?_ NB750_783.out _; (with_reducible repeat (first | refine blk_drewN ?_ _ | refine blk_drew ?_ | refine blk_alloc ?_ _)); refine blk_far ?_ NB750_783.out _; (with_reducible repeat (first | refine blk_drewN ?_ _ | refine blk_drew ?_ | refine blk_alloc ?_ _)); exact BK750.out) hb); have n5_ := Aside0.mk (blk_below (g := gb751) (o := .cells #[.int .i64 t745, .slice (some ad782) t746.length co22] 32 (0, 0)) (by (with_reducible repeat (first | refine blk_drewN ?_ _ | refine blk_drew ?_ | refine blk_alloc ?_ _)); refine blk_far ?_ NB751_783.out _; (with_reducible repeat (first | refine blk_drewN ?_ _ | refine blk_drew ?_ | refine blk_alloc ?_ _)); refine blk_far ?_ NB751_783.out _; (with_reducible repeat (first | refine blk_drewN ?_ _ | refine blk_drew ?_ | refine blk_alloc ?_ _)); exact BK751.out) hb); have n6_ := Aside0.mk (blk_below (g := gb783) (o := .cells #[.int .i64 ((rd_T78 t746 x148_4).f0), .int .i64 ((rd_T78 t746 x148_4).f1)] 78 (0, 0)) (by (with_reducible repeat (first | refine blk_drewN ?_ _ | refine blk_drew ?_ | refine blk_alloc ?_ _)); refine blk_put (cs := #[.int .i64 ((rd_T78 t746 x148_4).f0), .int .i64 0]) ?_ 1 _ rfl; (with_reducible repeat (first | refine blk_drewN ?_ _ | refine blk_drew ?_ | refine blk_alloc ?_ _)); refine blk_put (cs := #[.int .i64 0, .int .i64 0]) ?_ 0 _ rfl; (with_reducible repeat (first | refine blk_drewN ?_ _ | refine blk_drew ?_ | refine blk_alloc ?_ _)); exact BK783.out) hb); have n7_ := Aside0.mk (below_step (by repeat (first | (with_reducible first | exact HB.out | apply below_alloc | apply pw_below_drewN | apply below_drew1 | refine below_set ?_ GE750.out | refine below_set ?_ GE751.out | refine below_set ?_ GE783.out) | exact HB.out)) hb); clear HO_6; clear HO_146; clear HO_751001; clear HO_752001; clear BK750; clear BK751; clear BK783; clear HB; have HO_6 := n0_; have HO_146 := n1_; have HO_751001 := n2_; have HO_752001 := n3_; have BK750 := n4_; have BK751 := n5_; have BK783 := n6_; have HB := n7_; clear n0_ n1_ n2_ n3_ n4_ n5_ n6_ n7_; (try clear hb); (try clear hb2); (try clear hk); (try clear hi)))
                  go_roundg k4
                  case measure => have := HJ8.out; have := HJ35.out; have := HK3.out; have := HK4.out; omega
                  case rel => exact ⟨(wrap64 (x148_4 + 1)), (by first | rfl | (simp; done) | (simp [*]; done)), H', ⟨by have := HJ8.out; have := HJ35.out; have := HK3.out; have := HK4.out; omega⟩, ⟨by (with_reducible repeat (first | apply Kd.R_alloc | apply Kd.R_drewN | apply Kd.R_drew)); exact Kd.R_mono HO_6.out (fun _ hk => ⟨hk.1.1, ⟨hk.1.2.1, hk.1.2.2⟩⟩)⟩, ⟨by (with_reducible repeat (first | apply Kd.R_alloc | apply Kd.R_drewN | apply Kd.R_drew)); exact Kd.R_mono HO_146.out (fun _ hk => ⟨hk.1.1, hk.1.2⟩)⟩, ⟨by (with_reducible repeat (first | apply Kd.R_alloc | apply Kd.R_drewN | apply Kd.R_drew)); exact Kd.R_mono HO_751001.out (fun _ hk => ⟨hk.1.1, ⟨hk.1.2.1, hk.1.2.2⟩⟩)⟩, ⟨by (with_reducible repeat (first | apply Kd.R_alloc | apply Kd.R_drewN | apply Kd.R_drew)); exact Kd.R_mono HO_752001.out (fun _ hk => ⟨hk.1.1, hk.1.2⟩)⟩, ⟨by (with_reducible repeat (first | refine blk_drewN ?_ _ | refine blk_drew ?_ | refine blk_alloc ?_ _)); exact BK750.out⟩, ⟨by (with_reducible repeat (first | refine blk_drewN ?_ _ | refine blk_drew ?_ | refine blk_alloc ?_ _)); exact BK751.out⟩, ⟨by repeat (first | (with_reducible first | exact HB.out | apply below_alloc | apply pw_below_drewN | apply below_drew1 | refine below_set ?_ GE750.out | refine below_set ?_ GE751.out | refine below_set ?_ GE783.out) | exact HB.out)⟩⟩
                 ·replace c111 := Bool.eq_false_iff.mpr c111
                  subst c111
                  rw [if_neg (show ¬ (false = true) by decide)] at H
                  replace H := Option.bind_eq_some_iff.mp H
                  obtain ⟨t785, A1190, H⟩ := H
                  try dsimp only at H
                  have A119 := Aside0.mk A1190
                  clear A1190
                  by_cases c120 : t785 = true
                  ·subst c120
                   rw [if_pos rfl] at H
                   have H' := Aside0.mk H
                   clear H
                   have p782 : 0 ≤ (x148_4 : Int) := of_decide_eq_true (by first | (with_reducible assumption) | assumption)
                   have q782 : x148_4 < (t746.length : Int) := of_decide_eq_true (by first | (with_reducible assumption) | assumption)
                   obtain ⟨ad782, e782, hx782_0, hx782_1⟩ := at_T78 (Kd.R_reads' HO_146.out).2.2 x148_4 p782 q782
                   cases e782
                   replace p782 := eq_true p782
                   replace q782 := eq_true q782
                   go_wp2_with (first | ((with_reducible refine gate_dst (N := 18) rfl ?_); (try (refine gate_guard (by rfl) ?_; dsimp only)); refine box_event ?hg (N := 18) ?hd (cs := #[.int .i64 0, .int .i64 0]) (t := 78) ?hr ?_; (case hd => rfl); (case hg => rfl); (case hr => first | (go_simp; done) | (go_simp; rfl)); intro gb783 hg w121 hbox hb; have n0_ := Aside0.mk (Kd.R_below (Kd.R_elderB (by (with_reducible repeat (first | apply Kd.R_alloc | apply Kd.R_drewN | apply Kd.R_drew)); exact HO_6.out) gb783 (Nat.le_of_eq hg.symm)) hb); have n1_ := Aside0.mk (Kd.R_below (Kd.R_elderB (by (with_reducible repeat (first | apply Kd.R_alloc | apply Kd.R_drewN | apply Kd.R_drew)); exact HO_146.out) gb783 (Nat.le_of_eq hg.symm)) hb); have n2_ := Aside0.mk (Kd.R_below (Kd.R_elderB (by (with_reducible repeat (first | apply Kd.R_alloc | apply Kd.R_drewN | apply Kd.R_drew)); exact HO_751001.out) gb783 (Nat.le_of_eq hg.symm)) hb); have n3_ := Aside0.mk (Kd.R_below (Kd.R_elderB (by (with_reducible repeat (first | apply Kd.R_alloc | apply Kd.R_drewN | apply Kd.R_drew)); exact HO_752001.out) gb783 (Nat.le_of_eq hg.symm)) hb); have n4_ := Aside0.mk (blk_below (g := gb750) (o := .cells #[.int .i64 t740, .slice Ao19 t741.length co19] 32 (0, 0)) (by (with_reducible repeat (first | refine blk_drewN ?_ _ | refine blk_drew ?_ | refine blk_alloc ?_ _)); exact BK750.out) hb); have n5_ := Aside0.mk (blk_below (g := gb751) (o := .cells #[.int .i64 t745, .slice (some ad782) t746.length co22] 32 (0, 0)) (by (with_reducible repeat (first | refine blk_drewN ?_ _ | refine blk_drew ?_ | refine blk_alloc ?_ _)); exact BK751.out) hb); have n6_ := Aside0.mk (below_step (by repeat (first | (with_reducible first | exact HB.out | apply below_alloc | apply pw_below_drewN | apply below_drew1 | refine below_set ?_ GE750.out | refine below_set ?_ GE751.out) | exact HB.out)) hb); have n7_ := Aside0.mk (hbox); have n8_ := Aside0.mk ((by rw [hg]; exact (below_size (by repeat (first | (with_reducible first | exact HB.out | apply below_alloc | apply pw_below_drewN | apply below_drew1 | refine below_set ?_ GE750.out | refine below_set ?_ GE751.out) | exact HB.out))) : w.heap.size ≤ gb783)); have n9_ := Aside0.mk ((by rw [hg]; exact (below_size (by repeat (first | (with_reducible first | exact HB.out | apply below_alloc | apply pw_below_drewN | apply below_drew1 | refine below_set ?_ GE750.out | refine below_set ?_ GE751.out) | exact HB.out))) : w.heap.size ≤ gb783)); have n10_ := Aside0.mk ((by rw [hg]; exact Nat.ne_of_lt (blk_lt (g := gb750) (o := .cells #[.int .i64 t740, .slice Ao19 t741.length co19] 32 (0, 0)) (by (with_reducible repeat (first | refine blk_drewN ?_ _ | refine blk_drew ?_ | refine blk_alloc ?_ _)); exact BK750.out)) : gb750 ≠ gb783)); have n11_ := Aside0.mk ((by rw [hg]; exact Nat.ne_of_gt (blk_lt (g := gb750) (o := .cells #[.int .i64 t740, .slice Ao19 t741.length co19] 32 (0, 0)) (by (with_reducible repeat (first | refine blk_drewN ?_ _ | refine blk_drew ?_ | refine blk_alloc ?_ _)); exact BK750.out)) : gb783 ≠ gb750)); have n12_ := Aside0.mk ((by rw [hg]; exact Nat.ne_of_lt (blk_lt (g := gb751) (o := .cells #[.int .i64 t745, .slice (some ad782) t746.length co22] 32 (0, 0)) (by (with_reducible repeat (first | refine blk_drewN ?_ _ | refine blk_drew ?_ | refine blk_alloc ?_ _)); exact BK751.out)) : gb751 ≠ gb783)); have n13_ := Aside0.mk ((by rw [hg]; exact Nat.ne_of_gt (blk_lt (g := gb751) (o := .cells #[.int .i64 t745, .slice (some ad782) t746.length co22] 32 (0, 0)) (by (with_reducible repeat (first | refine blk_drewN ?_ _ | refine blk_drew ?_ | refine blk_alloc ?_ _)); exact BK751.out)) : gb783 ≠ gb751)); clear HO_6; clear HO_146; clear HO_751001; clear HO_752001; clear BK750; clear BK751; clear HB; have HO_6 := n0_; have HO_146 := n1_; have HO_751001 := n2_; have HO_752001 := n3_; have BK750 := n4_; have BK751 := n5_; have HB := n6_; have BK783 := n7_; have GW783 := n8_; have GE783 := n9_; have NB750_783 := n10_; have NB783_750 := n11_; have NB751_783 := n12_; have NB783_751 := n13_; clear n0_ n1_ n2_ n3_ n4_ n5_ n6_ n7_ n8_ n9_ n10_ n11_ n12_ n13_; clear hb hbox hg; have hnb122 := NB783_750.out; have hnc122 := NB750_783.out; have hnb123 := NB783_751.out; have hnc123 := NB751_783.out; have hcz124_0 : w121.cell? ⟨gb783, 0, none⟩ = some (.int .i64 0) := (blk_cell BK783.out 0).trans rfl; have hcz124_1 : w121.cell? ⟨gb783, 1, none⟩ = some (.int .i64 0) := (blk_cell BK783.out 1).trans rfl; have hfz124_0 := blk_frozen BK783.out 0; have hfz124_1 := blk_frozen BK783.out 1; have hnb125 := NB750_751.out; have hnc125 := NB751_750.out; have hcz126_0 : w121.cell? ⟨gb750, 0, none⟩ = some (.int .i64 t740) := (blk_cell BK750.out 0).trans rfl; have hcz126_1 : w121.cell? ⟨gb750, 1, none⟩ = some (.slice Ao19 t741.length co19) := (blk_cell BK750.out 1).trans rfl; have hfz126_0 := blk_frozen BK750.out 0; have hfz126_1 := blk_frozen BK750.out 1) | ((with_reducible refine gate_callee (f := 49) rfl ?_); refine goesL_ (some 155) rfl rfl Try.func49 (by kernel_rfl) rfl #[.slice Ao19 t741.length co19, .agg #[.int .i64 ((rd_T78 t746 x148_4).f0), .int .i64 ((rd_T78 t746 x148_4).f1)]] rfl (by (try simp only [List.map_toArray, List.map_cons, List.map_nil]); first | done | rfl | (simp only [List.length_drop, List.length_take]; rfl)) ?_; (with_reducible refine (storagebarterlaw08_has.calls k4 _ _ t741 ((rd_T78 t746 x148_4).f0) ((rd_T78 t746 x148_4).f1) false _ ?side1 ?side2 A110.out).mono ?_); (case side1 => refine (Kd.R_reads' (e := 78) (base := w.heap.size) (ok := fun k_ => ((some k_ ≠ (.slice Ao66 t752.length co66 : Value).ownBlock ∧ (some k_ ≠ (.slice (some ad782) t746.length co22 : Value).ownBlock ∧ some k_ ≠ (.slice (some ad782) t746.length co22 : Value).ownBlock)) ∧ k_ ≠ gb783)) (n := t741.length) (c := co19) ?_).2.2; exact (by (with_reducible repeat (first | apply Kd.R_alloc | apply Kd.R_drewN | apply Kd.R_drew)); exact (Kd.R_mono (Kd.R_far (p := ⟨gb783, 1, none⟩) (Kd.R_far (p := ⟨gb783, 0, none⟩) (Kd.R_mono HO_751001.out (fun k_ hk => (⟨hk, hk.2⟩ : _ ∧ k_ ≠ gb783))) (fun _ hk => hk.2) (.int .i64 ((rd_T78 t746 x148_4).f0))) (fun _ hk => hk.2) (.int .i64 ((rd_T78 t746 x148_4).f1))) (fun _ h_ => h_.1)))); (case side2 => exact (Kd.R_reads' HO_751001.out).2.1); rintro e w127 ⟨rfl, hb⟩; refine ⟨_, rfl, ?_⟩; have n0_ := Aside0.mk (Kd.R_below (by (with_reducible repeat (first | apply Kd.R_alloc | apply Kd.R_drewN | apply Kd.R_drew)); exact (Kd.R_mono (Kd.R_far (p := ⟨gb783, 1, none⟩) (Kd.R_far (p := ⟨gb783, 0, none⟩) (Kd.R_mono HO_6.out (fun k_ hk => (⟨hk, hk.2⟩ : _ ∧ k_ ≠ gb783))) (fun _ hk => hk.2) (.int .i64 ((rd_T78 t746 x148_4).f0))) (fun _ hk => hk.2) (.int .i64 ((rd_T78 t746 x148_4).f1))) (fun _ h_ => h_.1))) hb); have n1_ := Aside0.mk (Kd.R_below (by (with_reducible repeat (first | apply Kd.R_alloc | apply Kd.R_drewN | apply Kd.R_drew)); exact (Kd.R_mono (Kd.R_far (p := ⟨gb783, 1, none⟩) (Kd.R_far (p := ⟨gb783, 0, none⟩) (Kd.R_mono HO_146.out (fun k_ hk => (⟨hk, hk.2⟩ : _ ∧ k_ ≠ gb783))) (fun _ hk => hk.2) (.int .i64 ((rd_T78 t746 x148_4).f0))) (fun _ hk => hk.2) (.int .i64 ((rd_T78 t746 x148_4).f1))) (fun _ h_ => h_.1))) hb); have n2_ := Aside0.mk (Kd.R_below (by (with_reducible repeat (first | apply Kd.R_alloc | apply Kd.R_drewN | apply Kd.R_drew)); exact (Kd.R_mono (Kd.R_far (p := ⟨gb783, 1, none⟩) (Kd.R_far (p := ⟨gb783, 0, none⟩) (Kd.R_mono HO_751001.out (fun k_ hk => (⟨hk, hk.2⟩ : _ ∧ k_ ≠ gb783))) (fun _ hk => hk.2) (.int .i64 ((rd_T78 t746 x148_4).f0))) (fun _ hk => hk.2) (.int .i64 ((rd_T78 t746 x148_4).f1))) (fun _ h_ => h_.1))) hb); have n3_ := Aside0.mk (Kd.R_below (by (with_reducible repeat (first | apply Kd.R_alloc | apply Kd.R_drewN | apply Kd.R_drew)); exact (Kd.R_mono (Kd.R_far (p := ⟨gb783, 1, none⟩) (Kd.R_far (p := ⟨gb783, 0, none⟩) (Kd.R_mono HO_752001.out (fun k_ hk => (⟨hk, hk.2⟩ : _ ∧ k_ ≠ gb783))) (fun _ hk => hk.2) (.int .i64 ((rd_T78 t746 x148_4).f0))) (fun _ hk => hk.2) (.int .i64 ((rd_T78 t746 x148_4).f1))) (fun _ h_ => h_.1))) hb); have n4_ := Aside0.mk (blk_below (g := gb750) (o := .cells #[.int .i64 t740, .slice Ao19 t741.length co19] 32 (0, 0)) (by (with_reducible repeat (first | refine blk_drewN ?_ _ | refine blk_drew ?_ | refine blk_alloc ?_ _)); refine blk_far ?_ NB750_783.out _; (with_reducible repeat (first | refine blk_drewN ?_ _ | refine blk_drew ?_ | refine blk_alloc ?_ _)); refine blk_far ?_ NB750_783.out _; (with_reducible repeat (first | refine blk_drewN ?_ _ | refine blk_drew ?_ | refine blk_alloc ?_ _)); exact BK750.out) hb); have n5_ := Aside0.mk (blk_below (g := gb751) (o := .cells #[.int .i64 t745, .slice (some ad782) t746.length co22] 32 (0, 0)) (by (with_reducible repeat (first | refine blk_drewN ?_ _ | refine blk_drew ?_ | refine blk_alloc ?_ _)); refine blk_far ?_ NB751_783.out _; (with_reducible repeat (first | refine blk_drewN ?_ _ | refine blk_drew ?_ | refine blk_alloc ?_ _)); refine blk_far ?_ NB751_783.out _; (with_reducible repeat (first | refine blk_drewN ?_ _ | refine blk_drew ?_ | refine blk_alloc ?_ _)); exact BK751.out) hb); have n6_ := Aside0.mk (blk_below (g := gb783) (o := .cells #[.int .i64 ((rd_T78 t746 x148_4).f0), .int .i64 ((rd_T78 t746 x148_4).f1)] 78 (0, 0)) (by (with_reducible repeat (first | refine blk_drewN ?_ _ | refine blk_drew ?_ | refine blk_alloc ?_ _)); refine blk_put (cs := #[.int .i64 ((rd_T78 t746 x148_4).f0), .int .i64 0]) ?_ 1 _ rfl; (with_reducible repeat (first | refine blk_drewN ?_ _ | refine blk_drew ?_ | refine blk_alloc ?_ _)); refine blk_put (cs := #[.int .i64 0, .int .i64 0]) ?_ 0 _ rfl; (with_reducible repeat (first | refine blk_drewN ?_ _ | refine blk_drew ?_ | refine blk_alloc ?_ _)); exact BK783.out) hb); have n7_ := Aside0.mk (below_step (by repeat (first | (with_reducible first | exact HB.out | apply below_alloc | apply pw_below_drewN | apply below_drew1 | refine below_set ?_ GE750.out | refine below_set ?_ GE751.out | refine below_set ?_ GE783.out) | exact HB.out)) hb); clear HO_6; clear HO_146; clear HO_751001; clear HO_752001; clear BK750; clear BK751; clear BK783; clear HB; have HO_6 := n0_; have HO_146 := n1_; have HO_751001 := n2_; have HO_752001 := n3_; have BK750 := n4_; have BK751 := n5_; have BK783 := n6_; have HB := n7_; clear n0_ n1_ n2_ n3_ n4_ n5_ n6_ n7_; (try clear hb); (try clear hb2); (try clear hk); (try clear hi); have hcz128_0 : w127.cell? ⟨gb783, 0, none⟩ = some (.int .i64 ((rd_T78 t746 x148_4).f0)) := (blk_cell BK783.out 0).trans rfl; have hcz128_1 : w127.cell? ⟨gb783, 1, none⟩ = some (.int .i64 ((rd_T78 t746 x148_4).f1)) := (blk_cell BK783.out 1).trans rfl; have hfz128_0 := blk_frozen BK783.out 0; have hfz128_1 := blk_frozen BK783.out 1) | (go_at_call 49; (with_reducible refine (storagebarterlaw08_has.calls k4 _ _ t752 ((rd_T78 t746 x148_4).f0) ((rd_T78 t746 x148_4).f1) true _ ?side1 ?side2 A119.out).mono ?_); (case side1 => repeat (first | exact (Kd.R_reads' HO_6.out).2.2 | (with_reducible refine Kd.C_alloc ?_ _) | (with_reducible refine Kd.C_drewN ?_ _) | (with_reducible refine Kd.C_drew ?_))); (case side2 => exact (Kd.R_reads' HO_6.out).2.1); rintro e w129 ⟨rfl, hb⟩; have n0_ := Aside0.mk (Kd.R_below (by (with_reducible repeat (first | apply Kd.R_alloc | apply Kd.R_drewN | apply Kd.R_drew)); exact HO_6.out) hb); have n1_ := Aside0.mk (Kd.R_below (by (with_reducible repeat (first | apply Kd.R_alloc | apply Kd.R_drewN | apply Kd.R_drew)); exact HO_146.out) hb); have n2_ := Aside0.mk (Kd.R_below (by (with_reducible repeat (first | apply Kd.R_alloc | apply Kd.R_drewN | apply Kd.R_drew)); exact HO_751001.out) hb); have n3_ := Aside0.mk (Kd.R_below (by (with_reducible repeat (first | apply Kd.R_alloc | apply Kd.R_drewN | apply Kd.R_drew)); exact HO_752001.out) hb); have n4_ := Aside0.mk (blk_below (g := gb750) (o := .cells #[.int .i64 t740, .slice Ao19 t741.length co19] 32 (0, 0)) (by (with_reducible repeat (first | refine blk_drewN ?_ _ | refine blk_drew ?_ | refine blk_alloc ?_ _)); exact BK750.out) hb); have n5_ := Aside0.mk (blk_below (g := gb751) (o := .cells #[.int .i64 t745, .slice (some ad782) t746.length co22] 32 (0, 0)) (by (with_reducible repeat (first | refine blk_drewN ?_ _ | refine blk_drew ?_ | refine blk_alloc ?_ _)); exact BK751.out) hb); have n6_ := Aside0.mk (blk_below (g := gb783) (o := .cells #[.int .i64 ((rd_T78 t746 x148_4).f0), .int .i64 ((rd_T78 t746 x148_4).f1)] 78 (0, 0)) (by (with_reducible repeat (first | refine blk_drewN ?_ _ | refine blk_drew ?_ | refine blk_alloc ?_ _)); exact BK783.out) hb); have n7_ := Aside0.mk (below_step (by repeat (first | (with_reducible first | exact HB.out | apply below_alloc | apply pw_below_drewN | apply below_drew1 | refine below_set ?_ GE750.out | refine below_set ?_ GE751.out | refine below_set ?_ GE783.out) | exact HB.out)) hb); clear HO_6; clear HO_146; clear HO_751001; clear HO_752001; clear BK750; clear BK751; clear BK783; clear HB; have HO_6 := n0_; have HO_146 := n1_; have HO_751001 := n2_; have HO_752001 := n3_; have BK750 := n4_; have BK751 := n5_; have BK783 := n6_; have HB := n7_; clear n0_ n1_ n2_ n3_ n4_ n5_ n6_ n7_; (try clear hb); (try clear hb2); (try clear hk); (try clear hi)))
                   go_roundg k4
                   case measure => have := HJ8.out; have := HJ35.out; have := HK3.out; have := HK4.out; omega
                   case rel => exact ⟨(wrap64 (x148_4 + 1)), (by first | rfl | (simp; done) | (simp [*]; done)), H', ⟨by have := HJ8.out; have := HJ35.out; have := HK3.out; have := HK4.out; omega⟩, ⟨by (with_reducible repeat (first | apply Kd.R_alloc | apply Kd.R_drewN | apply Kd.R_drew)); exact Kd.R_mono HO_6.out (fun _ hk => ⟨hk.1.1, ⟨hk.1.2.1, hk.1.2.2⟩⟩)⟩, ⟨by (with_reducible repeat (first | apply Kd.R_alloc | apply Kd.R_drewN | apply Kd.R_drew)); exact Kd.R_mono HO_146.out (fun _ hk => ⟨hk.1.1, hk.1.2⟩)⟩, ⟨by (with_reducible repeat (first | apply Kd.R_alloc | apply Kd.R_drewN | apply Kd.R_drew)); exact Kd.R_mono HO_751001.out (fun _ hk => ⟨hk.1.1, ⟨hk.1.2.1, hk.1.2.2⟩⟩)⟩, ⟨by (with_reducible repeat (first | apply Kd.R_alloc | apply Kd.R_drewN | apply Kd.R_drew)); exact Kd.R_mono HO_752001.out (fun _ hk => ⟨hk.1.1, hk.1.2⟩)⟩, ⟨by (with_reducible repeat (first | refine blk_drewN ?_ _ | refine blk_drew ?_ | refine blk_alloc ?_ _)); exact BK750.out⟩, ⟨by (with_reducible repeat (first | refine blk_drewN ?_ _ | refine blk_drew ?_ | refine blk_alloc ?_ _)); exact BK751.out⟩, ⟨by repeat (first | (with_reducible first | exact HB.out | apply below_alloc | apply pw_below_drewN | apply below_drew1 | refine below_set ?_ GE750.out | refine below_set ?_ GE751.out | refine below_set ?_ GE783.out) | exact HB.out)⟩⟩
                  ·replace c120 := Bool.eq_false_iff.mpr c120
                   subst c120
                   rw [if_neg (show ¬ (false = true) by decide)] at H
                   exact absurd (H.trans (congrArg some RT_.out)) (by simp)
                ·rw [if_neg c109] at H
                 exact absurd H (by simp)
               ·rw [if_neg c108] at H
                exact absurd H (by simp)
              ·rw [if_neg c107] at H
               have c107b0 : decide (x148_4 < (t746.length : Int)) = false := decide_eq_false c107
               clear c107
               obtain rfl := Option.some.inj H
               go_wp2
               go_ret
               exact ⟨by first | rfl | (simp [errW_none, errW_some] <;> rfl) | (simp [*, errW_none, errW_some] <;> rfl), by repeat (first | (with_reducible first | exact HB.out | apply below_alloc | apply pw_below_drewN | apply below_drew1 | refine below_set ?_ GE750.out | refine below_set ?_ GE751.out) | exact HB.out)⟩
  ·replace c5 := Bool.eq_false_iff.mpr c5
   subst c5
   rw [if_neg (show ¬ (false = true) by decide)] at H
   obtain rfl := Option.some.inj H
   go_enter Try.func10, Try.ntmps10
   go_wp2_with (first | ((with_reducible refine gate_callee (f := 13) rfl ?_); refine goesL_ (some 19) rfl rfl Try.func13 (by kernel_rfl) rfl #[] rfl (by (try simp only [List.map_toArray, List.map_cons, List.map_nil]); first | done | rfl | (simp only [List.length_drop, List.length_take]; rfl)) ?_; (with_reducible refine (storagebarterlaw08_sane.calls k  true _ A2.out).mono ?_); rintro e w130 ⟨rfl, hb⟩; refine ⟨_, rfl, ?_⟩; have n0_ := Aside0.mk (below_step (by repeat (first | (with_reducible first | exact HB.out | apply below_alloc | apply pw_below_drewN | apply below_drew1) | exact HB.out)) hb); clear HB; have HB := n0_; clear n0_; (try clear hb); (try clear hb2); (try clear hk); (try clear hi)) | ((with_reducible refine gate_callee (f := 14) rfl ?_); refine goesL_ (some 22) rfl rfl Try.func14 (by kernel_rfl) rfl #[.slice A0 l0.length c0] rfl (by (try simp only [List.map_toArray, List.map_cons, List.map_nil]); first | done | rfl | (simp only [List.length_drop, List.length_take]; rfl)) ?_; (with_reducible refine (storagebartermake_Few.calls _ _ l0 false _ ?side1 ?side2 A4.out).mono ?_); (case side1 => repeat (first | exact (Kd.C_below HR0.out HB.out) | (with_reducible refine Kd.C_alloc ?_ _) | (with_reducible refine Kd.C_drewN ?_ _) | (with_reducible refine Kd.C_drew ?_))); (case side2 => exact HC0.out); rintro e w' ⟨rfl, ⟨nd, rfl⟩⟩; refine ⟨_, rfl, ?_⟩; (try (rw [drewN_self w130]; generalize hq_ : World.drewN w130 _ = w130; have n0_ : Aside0 (Below w.heap.size w w130) := ⟨by rw [← hq_]; exact (by repeat (first | (with_reducible first | exact HB.out | apply below_alloc | apply pw_below_drewN | apply below_drew1) | exact HB.out))⟩; clear HB hq_; have HB := n0_; clear n0_))))
   go_ret
   exact ⟨by first | rfl | (simp [errW_none, errW_some] <;> rfl) | (simp [*, errW_none, errW_some] <;> rfl), by repeat (first | (with_reducible first | exact HB.out | apply below_alloc | apply pw_below_drewN | apply below_drew1) | exact HB.out)⟩
 ·replace c3 := Bool.eq_false_iff.mpr c3
  subst c3
  rw [if_neg (show ¬ (false = true) by decide)] at H
  exact absurd (H.trans (congrArg some RT_.out)) (by simp)
noncomputable def storagebarterlaw08_ManifestChanges.Pure : Prop := ∀ (l0 : List Int), l0.length ≤ maxLen → l0.length * 8 ≤ 140737488351232 → (∀ x ∈ l0, (Lit.int .i64 x).wf = true) → ∃ k, storagebarterlaw08_ManifestChanges.f k l0 = some true
end Go.Proofs.Ytodhkbahjomfhaa.Q

namespace Go.Proofs.Ytodhkbahjomfhaa.Gdm
open Go Go.RowKit Go.Proofs.Ytodhkbahjomfhaa.Gm Go.Proofs.Ytodhkbahjomfhaa.Q Go.Proofs.Ytodhkbahjomfhaa.Gput Go.Proofs.YtodhkbahjomfhaaW.PrintWords Go.Proofs.YtodhkbahjomfhaaW.PrintLast Go.Proofs.YtodhkbahjomfhaaW.PrintMore
set_option linter.unusedVariables false
theorem w64 {x : Int} (h : -9223372036854775808 ≤ x ∧ x ≤ 9223372036854775807) : wrap64 x = x := by unfold wrap64; omega
theorem bt_at (s : ByteArray) (a : Nat) (h : a < s.size) : bt s (a : Int) = ((s.data.toList.drop a).headD 0).toNat := by
 have h' : a < s.data.size := h
 unfold bt
 rw [dif_pos (by simpa using h)]
 simp only [Int.toNat_natCast]
 rw [List.drop_eq_getElem_cons (by simpa using h')]
 rfl
theorem bt_lt (s : ByteArray) (i : Int) : 0 ≤ bt s i ∧ bt s i < 256 := by
 unfold bt
 split
 ·have := (s[i.toNat]).toNat_lt; omega
 ·omega
theorem wf64 {n : Int} (h : -9223372036854775808 ≤ n ∧ n ≤ 9223372036854775807) : (Lit.int .i64 n).wf = true := Go.WalkArith.wf_i64 h
theorem wire_PutInt_eq (l : List UInt8) (n : Int) (hl : l.length + 10 ≤ 140737488355328) (hn : -9223372036854775808 ≤ n ∧ n ≤ 9223372036854775807) : wire_PutInt.f (B l) n = some (B (l ++ putI n)) := by
 unfold wire_PutInt.f
 rw [if_pos ⟨by rw [B_size]; exact hl, wf64 hn⟩]
 rfl
theorem tmod_mod (a m : Int) (hm : 0 < m) : (Int.tmod a m + m) % m = a % m := by
 have h := Int.mul_tdiv_add_tmod a m
 have e : Int.tmod a m + m = a + m * (1 - Int.tdiv a m) := by rw [Int.mul_sub]; omega
 rw [e, Int.add_mul_emod_self_left]
theorem tmod_range (a m : Int) (hm : 0 < m) : -m < Int.tmod a m ∧ Int.tmod a m < m := by
 refine ⟨?_, Int.tmod_lt_of_pos a hm⟩
 rcases Int.le_total 0 a with h | h
 ·have := Int.tmod_nonneg m h; omega
 ·have h1 := Int.tmod_nonneg m (show 0 ≤ -a by omega)
  have h2 := Int.tmod_lt_of_pos (-a) hm
  rw [Int.neg_tmod] at h1 h2
  omega
theorem mod_eq (a m : Int) (hm : 0 < m) (hb : m ≤ 4294967296) : storagebartermake_Mod.f a m = some (a % m) := by
 unfold storagebartermake_Mod.f
 have hr := tmod_range a m hm
 rw [if_neg (by omega), w64 (by omega), Int.tmod_eq_emod_of_nonneg (by omega), tmod_mod a m hm]
def dg : Int → List UInt8 → Int
 | d, [] => d
 | d, b :: l => dg ((d * 1000003 + b.toNat + 1) % 2147483647) l
theorem dg_range : ∀ (l : List UInt8) (d : Int), 0 ≤ d ∧ d < 2147483647 → 0 ≤ dg d l ∧ dg d l < 2147483647
 | [], d, h => h
 | b :: l, d, h => dg_range l _ (by omega)
theorem sum_step (s : ByteArray) (d : Int) (i : Nat) (hd : 0 ≤ d ∧ d < 2147483647) (hi : i < s.size) : Int.tmod (wrap64 ((wrap64 ((wrap64 (d * 1000003)) + (wrap64 (bt s i)))) + 1)) 2147483647 = (d * 1000003 + (s.data.toList[i]'(by simpa using hi)).toNat + 1) % 2147483647 := by
 have hb := bt_lt s i
 have hbt : bt s i = (s.data.toList[i]'(by simpa using hi)).toNat := by
  have h := bt_at s i hi
  rw [List.drop_eq_getElem_cons (by simpa using hi)] at h
  exact h
 rw [w64 (x := d * 1000003) (by omega), w64 (x := bt s i) (by omega), w64 (x := d * 1000003 + bt s i) (by omega), w64 (by omega), Int.tmod_eq_emod_of_nonneg (by omega), hbt]
theorem Sum_l0 (s : ByteArray) (hs : s.size ≤ 9223372036854775807) : ∀ (n i k : Nat) (d : Int), s.size - i = n → i ≤ s.size → 0 ≤ d ∧ d < 2147483647 → n < k → digest_Sum.l0 k s d s.size i = some (dg d (s.data.toList.drop i)) := by
 intro n
 induction n with
 | zero =>
  intro i k d hn hi hd hk
  obtain ⟨k, rfl⟩ : ∃ m, k = m + 1 := ⟨k - 1, by omega⟩
  simp only [digest_Sum.l0]
  rw [if_neg (by omega), List.drop_of_length_le (by rw [Array.length_toList]; show s.size ≤ i; omega)]
  rfl
 | succ n ih =>
  intro i k d hn hi hd hk
  obtain ⟨k, rfl⟩ : ∃ m, k = m + 1 := ⟨k - 1, by omega⟩
  have hlt : i < s.size := by omega
  simp only [digest_Sum.l0]
  rw [if_pos (by omega), if_pos (by omega), if_pos (by omega), sum_step s d i hd hlt, w64 (by omega), show ((i : Int) + 1) = ((i + 1 : Nat) : Int) by omega, ih (i + 1) k _ (by omega) (by omega) (by omega) (by omega), List.drop_eq_getElem_cons (show i < s.data.toList.length by simpa using hlt)]
  rfl
theorem Sum_eq (l : List UInt8) (k : Nat) (hl : l.length ≤ 9223372036854775807) (hk : l.length < k) : digest_Sum.f k (B l) = some (dg 1 l) := by
 unfold digest_Sum.f
 exact Sum_l0 (B l) (by rw [B_size]; exact hl) l.length 0 k 1 (by rw [B_size]; omega) (by omega) (by omega) hk
theorem next_ok (L : List Int) (at_ n : Int) (hn : 1 ≤ n) (hb : n ≤ 4294967296) (h0 : 0 ≤ at_) (hl : L.length ≤ 1000000) : ∃ t at', storagebartermake_Deck_Next.f L at_ n = some (t, at') ∧ 0 ≤ t ∧ t < n ∧ 0 ≤ at' := by
 unfold storagebartermake_Deck_Next.f
 rw [if_neg (by omega)]
 by_cases h : at_ ≥ (L.length : Int)
 ·rw [if_pos h]
  exact ⟨0, at_, rfl, by omega, by omega, h0⟩
 ·rw [if_neg h, if_pos h0, if_pos (by omega), mod_eq _ _ (by omega) hb, Option.bind_some]
  exact ⟨_, _, rfl, Int.emod_nonneg _ (by omega), Int.emod_lt_of_pos _ (by omega), by rw [w64 (by omega)]; omega⟩
end Go.Proofs.Ytodhkbahjomfhaa.Gdm
