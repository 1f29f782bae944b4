/- Versions, sizes, changes and what is restored are as the reference says, or the error: for all arguments. -/
import Derived.Test.YtodhkbahjomfhaaCManifestDoes3
import Derived.Test.YtodhkbahjomfhaaCManifestDoes4
import Derived.Shelf.SlSortCmp.QuietGrown
import Derived.StillTailTactics
import Derived.Deep.LoopGhost
import Derived.WalkArith
import Derived.Lib.Hide
import Derived.Test.YtodhkbahjomfhaaCManifestDoes1
import Derived.Shelf.GgSortFunc.RowK
import Derived.Shelf.GgSortFunc.InsertionK
import Derived.Shelf.SlSortCmp.NoneTotal
import Derived.Test.YtodhkbahjomfhaaProg
import Derived.Lib.SlicesCompact
import Derived.Lib.SliceRun
import Derived.StillTactics
namespace Go.Proofs.Ytodhkbahjomfhaa.Q
open Go.RowKit Go.Proofs.YtodhkbahjomfhaaW.PrintWords Go.Proofs.YtodhkbahjomfhaaW.PrintLast Go.Proofs.YtodhkbahjomfhaaW.PrintMore Go.Proofs.Ytodhkbahjomfhaa.Gput Go.Proofs.Ytodhkbahjomfhaa.Gputl
attribute [local go_sem] max2_int min2_int max_two min_two max_three min_three max_four min_four   -- for this text's walks alone
set_option linter.unusedVariables false
set_option linter.unusedSimpArgs false
noncomputable def storagebartermake_Version.f (k : Nat) (s0_0 : List Int) (s0_1 : Int) : Option (Int × (List (S78)) × Int) := (storagebartermake_Deck_Next.f s0_0 s0_1 9).bind fun bt534 => ((storagebartermake_Chunks.f k s0_0 bt534.2).bind fun bt536 => ((storagebarterref08_Of.f k (wrap64 (1 + bt534.1)) bt536.1).bind fun bt540 => (some (bt540.1, bt540.2.1, bt536.2))))
set_option maxHeartbeats 8000000 in
set_option maxRecDepth 100000 in
theorem storagebartermake_Version.calls (k : Nat) (g : Nat) (s0_0 : List Int) (s0_1 : Int) (r1 : Int) (r2 : List (S78)) (r3 : Int) (w0 w : World) (hI : IsS86 w0 w g s0_0 s0_1) (hB : Below w0.heap.size w0 w) (h : storagebartermake_Version.f k s0_0 s0_1 = some (r1, r2, r3)) :
 Calls Try.prog 33 #[.pointer (some ⟨g, 0, none⟩)] w fun e w' => ∃ v1_ : Value, e = .returned (.agg #[.int .i64 r1, v1_]) ∧ Kd.R k78 78 w' w.heap.size (fun _ => True) v1_ r2 ∧ IsS86 w0 w' g s0_0 r3 ∧ Below w0.heap.size w0 w' ∧ KeepBut w w' g none := by
 have hu32 := Try.underlying32
 have HI0 := Aside0.mk hI
 have HK := Aside0.mk (KeepBut.refl w g none)
 have HL := Aside0.mk hB.size
 clear hI
 have HW0 := Aside0.mk hB.size
 have HB := Aside0.mk hB
 clear hB
 have H : ((storagebartermake_Deck_Next.f s0_0 s0_1 9).bind fun bt534 => ((storagebartermake_Chunks.f k s0_0 bt534.2).bind fun bt536 => ((storagebarterref08_Of.f k (wrap64 (1 + bt534.1)) bt536.1).bind fun bt540 => (some (bt540.1, bt540.2.1, bt536.2))))) = some (r1, r2, r3) := h
 clear h
 replace H := Option.bind_eq_some_iff.mp H
 obtain ⟨⟨t534, t535⟩, A20, H⟩ := H
 replace H : ((storagebartermake_Chunks.f k s0_0 t535).bind fun bt536 => ((storagebarterref08_Of.f k (wrap64 (1 + t534)) bt536.1).bind fun bt540 => (some (bt540.1, bt540.2.1, bt536.2)))) = some (r1, r2, r3) := H
 have A2 := Aside0.mk A20
 clear A20
 replace H := Option.bind_eq_some_iff.mp H
 obtain ⟨⟨t536, t539⟩, A30, H⟩ := H
 replace H : ((storagebarterref08_Of.f k (wrap64 (1 + t534)) t536).bind fun bt540 => (some (bt540.1, bt540.2.1, t539))) = some (r1, r2, r3) := H
 have A3 := Aside0.mk A30
 clear A30
 replace H := Option.bind_eq_some_iff.mp H
 obtain ⟨⟨t540, t541, t544⟩, A40, H⟩ := H
 replace H : (some (t540, t541, t539)) = some (r1, r2, r3) := H
 have A4 := Aside0.mk A40
 clear A40
 simp only [Option.some.injEq, Prod.mk.injEq] at H
 obtain ⟨rfl, rfl, rfl⟩ := H
 go_enter Try.func33, Try.ntmps33
 go_wp2_with (first | ((with_reducible refine gate_dst (N := 2) rfl ?_); refine box_event ?hg (N := 2) ?hd (cs := #[.int .i64 0, .slice none 0 0]) (t := 32) ?hr ?_; (case hd => rfl); (case hg => rfl); (case hr => first | (go_simp; done) | (go_simp; rfl)); intro gb533 hg w5 hbox hb; have n0_ := Aside0.mk (IsS86.below (by repeat (first | (with_reducible first | exact HI0.out | apply IsS86.alloc | apply IsS86.drewN | apply IsS86.drew | apply IsS86.set_1) | exact HI0.out)) hb); have n1_ := Aside0.mk (KeepBut.trans (by repeat (first | (with_reducible first | exact HK.out | apply KeepBut.set_ | apply keep_drewN | apply keep_drew | apply keep_alloc) | exact HK.out)) (KeepBut.of_below hb g none) (.inl rfl)); have n2_ := Aside0.mk (below_step (by repeat (first | (with_reducible first | exact HB.out | apply below_alloc | apply pw_below_drewN | apply below_drew1 | refine below_set ?_ (IsS86.ge HI0.out)) | exact HB.out)) hb); have n3_ := Aside0.mk (hbox); have n4_ := Aside0.mk ((by rw [hg]; exact (keep_size (w := w) (g := g) (row := none) (by repeat (first | (with_reducible first | exact HK.out | apply KeepBut.set_ | apply keep_drewN | apply keep_drew | apply keep_alloc) | exact HK.out))) : w.heap.size ≤ gb533)); have n5_ := Aside0.mk ((Nat.le_trans HW0.out (by rw [hg]; exact (keep_size (w := w) (g := g) (row := none) (by repeat (first | (with_reducible first | exact HK.out | apply KeepBut.set_ | apply keep_drewN | apply keep_drew | apply keep_alloc) | exact HK.out))) : w.heap.size ≤ gb533) : w0.heap.size ≤ gb533)); have n6_ := Aside0.mk ((by rw [hg]; exact Nat.ne_of_lt (IsS86.lt (show IsS86 w0 _ g s0_0 s0_1 from by repeat (first | (with_reducible first | exact HI0.out | apply IsS86.alloc | apply IsS86.drewN | apply IsS86.drew | apply IsS86.set_1) | exact HI0.out))) : g ≠ gb533)); have n7_ := Aside0.mk ((by rw [hg]; exact Nat.ne_of_gt (IsS86.lt (show IsS86 w0 _ g s0_0 s0_1 from by repeat (first | (with_reducible first | exact HI0.out | apply IsS86.alloc | apply IsS86.drewN | apply IsS86.drew | apply IsS86.set_1) | exact HI0.out))) : gb533 ≠ g)); clear HI0; clear HK; clear HB; have HI0 := n0_; have HK := n1_; have HB := n2_; have BK533 := n3_; have GW533 := n4_; have GE533 := n5_; have NB0_533 := n6_; have NB533_0 := n7_; clear n0_ n1_ n2_ n3_ n4_ n5_ n6_ n7_; clear hb hbox hg) | ((with_reducible refine gate_callee (f := 19) rfl ?_); refine goesL_ (some 7) rfl rfl Try.func19 (by kernel_rfl) rfl #[.pointer (some ⟨g, 0, none⟩), .int .i64 9] rfl (by (try simp only [List.map_toArray, List.map_cons, List.map_nil]); first | done | rfl | (simp only [List.length_drop, List.length_take]; rfl)) ?_; (with_reducible refine (storagebartermake_Deck_Next.calls g s0_0 s0_1 9 t534 t535 w0 _ ?side1 ?side2 A2.out).mono ?_); (case side1 => repeat (first | (with_reducible first | exact HI0.out | apply IsS86.alloc | apply IsS86.drewN | apply IsS86.drew | apply IsS86.set_1 | refine IsS86.far ?_ NB0_533.out _) | exact HI0.out)); (case side2 => repeat (first | (with_reducible first | exact HB.out | apply below_alloc | apply pw_below_drewN | apply below_drew1 | refine below_set ?_ (IsS86.ge HI0.out) | refine below_set ?_ GE533.out) | exact HB.out)); rintro e w6 ⟨rfl, hi, hb, hk⟩; refine ⟨_, rfl, ?_⟩; have n0_ := Aside0.mk (KeepBut.blk hk (g' := gb533) (o := .cells #[.int .i64 0, .slice none 0 0] 32 (0, 0)) (by (with_reducible repeat (first | refine blk_drewN ?_ _ | refine blk_drew ?_ | refine blk_alloc ?_ _)); exact BK533.out) NB533_0.out (by simp)); have n1_ := Aside0.mk (KeepBut.trans (by repeat (first | (with_reducible first | exact HK.out | apply KeepBut.set_ | apply keep_drewN | apply keep_drew | apply keep_alloc | refine keep_far ?_ GW533.out _) | exact HK.out)) hk (.inl rfl)); have n2_ := Aside0.mk (hb); have n3_ := Aside0.mk (hi); clear BK533; clear HK; clear HB; clear HI0; have BK533 := n0_; have HK := n1_; have HB := n2_; have HI0 := n3_; clear n0_ n1_ n2_ n3_; (try clear hb); (try clear hb2); (try clear hk); (try clear hi)) | ((with_reducible refine gate_callee (f := 17) rfl ?_); refine goesL_ (some 10) rfl rfl Try.func17 (by kernel_rfl) rfl #[.pointer (some ⟨g, 0, none⟩)] rfl (by (try simp only [List.map_toArray, List.map_cons, List.map_nil]); first | done | rfl | (simp only [List.length_drop, List.length_take]; rfl)) ?_; (with_reducible refine (storagebartermake_Chunks.calls k g s0_0 t535 t536 t539 w0 _ ?side1 ?side2 A3.out).mono ?_); (case side1 => repeat (first | (with_reducible first | exact HI0.out | apply IsS86.alloc | apply IsS86.drewN | apply IsS86.drew | apply IsS86.set_1 | refine IsS86.far ?_ NB0_533.out _) | exact HI0.out)); (case side2 => repeat (first | (with_reducible first | exact HB.out | apply below_alloc | apply pw_below_drewN | apply below_drew1 | refine below_set ?_ (IsS86.ge HI0.out) | refine below_set ?_ GE533.out) | exact HB.out)); rintro e w7 ⟨v537, rfl, ho0, hi, hb, hk⟩; refine ⟨_, rfl, ?_⟩; have n0_ := Aside0.mk (KeepBut.blk hk (g' := gb533) (o := .cells #[.int .i64 0, .slice none 0 0] 32 (0, 0)) (by (with_reducible repeat (first | refine blk_drewN ?_ _ | refine blk_drew ?_ | refine blk_alloc ?_ _)); exact BK533.out) NB533_0.out (by simp)); have n1_ := Aside0.mk (Kd.R_lower ho0 (keep_size (w := w) (g := g) (row := none) (by repeat (first | (with_reducible first | exact HK.out | apply KeepBut.set_ | apply keep_drewN | apply keep_drew | apply keep_alloc | refine keep_far ?_ GW533.out _) | exact HK.out)))); have n2_ := Aside0.mk (KeepBut.trans (by repeat (first | (with_reducible first | exact HK.out | apply KeepBut.set_ | apply keep_drewN | apply keep_drew | apply keep_alloc | refine keep_far ?_ GW533.out _) | exact HK.out)) hk (.inl rfl)); have n3_ := Aside0.mk (hb); have n4_ := Aside0.mk (hi); clear BK533; clear HK; clear HB; clear HI0; have BK533 := n0_; have HO538 := n1_; have HK := n2_; have HB := n3_; have HI0 := n4_; clear n0_ n1_ n2_ n3_ n4_; (try clear hb); (try clear hb2); (try clear hk); (try clear hi); (try clear ho0); obtain ⟨Ao8, co8, eo8⟩ := Kd.R_slice HO538.out; subst eo8) | ((with_reducible refine gate_callee (f := 51) rfl ?_); refine goesL_ (some 11) rfl rfl Try.func51 (by kernel_rfl) rfl #[.int .i64 (wrap64 (1 + t534)), .slice Ao8 t536.length co8] rfl (by (try simp only [List.map_toArray, List.map_cons, List.map_nil]); first | done | rfl | (simp only [List.length_drop, List.length_take]; rfl)) ?_; (with_reducible refine (storagebarterref08_Of.calls k (wrap64 (1 + t534)) _ _ t536 t540 t541 t544 _ ?side1 ?side2 A4.out).mono ?_); (case side1 => repeat (first | exact (Kd.R_reads' HO538.out).2.2 | (with_reducible refine Kd.C_alloc ?_ _) | (with_reducible refine Kd.C_drewN ?_ _) | (with_reducible refine Kd.C_drew ?_))); (case side2 => exact (Kd.R_reads' HO538.out).2.1); rintro e w9 ⟨v542, rfl, ho0, hb⟩; refine ⟨_, rfl, ?_⟩; have n0_ := Aside0.mk (Kd.R_below (by (with_reducible repeat (first | apply Kd.R_alloc | apply Kd.R_drewN | apply Kd.R_drew)); exact HO538.out) hb); have n1_ := Aside0.mk (Kd.R_lower ho0 (keep_size (w := w) (g := g) (row := none) (by repeat (first | (with_reducible first | exact HK.out | apply KeepBut.set_ | apply keep_drewN | apply keep_drew | apply keep_alloc | refine keep_far ?_ GW533.out _) | exact HK.out)))); have n2_ := Aside0.mk (IsS86.below (by repeat (first | (with_reducible first | exact HI0.out | apply IsS86.alloc | apply IsS86.drewN | apply IsS86.drew | apply IsS86.set_1 | refine IsS86.far ?_ NB0_533.out _) | exact HI0.out)) hb); have n3_ := Aside0.mk (blk_below (g := gb533) (o := .cells #[.int .i64 0, .slice none 0 0] 32 (0, 0)) (by (with_reducible repeat (first | refine blk_drewN ?_ _ | refine blk_drew ?_ | refine blk_alloc ?_ _)); exact BK533.out) hb); have n4_ := Aside0.mk (KeepBut.trans (by repeat (first | (with_reducible first | exact HK.out | apply KeepBut.set_ | apply keep_drewN | apply keep_drew | apply keep_alloc | refine keep_far ?_ GW533.out _) | exact HK.out)) (KeepBut.of_below hb g none) (.inl rfl)); have n5_ := Aside0.mk (below_step (by repeat (first | (with_reducible first | exact HB.out | apply below_alloc | apply pw_below_drewN | apply below_drew1 | refine below_set ?_ (IsS86.ge HI0.out) | refine below_set ?_ GE533.out) | exact HB.out)) hb); clear HO538; clear HI0; clear BK533; clear HK; clear HB; have HO538 := n0_; have HO543 := n1_; have HI0 := n2_; have BK533 := n3_; have HK := n4_; have HB := n5_; clear n0_ n1_ n2_ n3_ n4_ n5_; (try clear hb); (try clear hb2); (try clear hk); (try clear hi); (try clear ho0)) | ((with_reducible refine gate_dst (N := 3) rfl ?_); refine box_event ?hg (N := 3) ?hd (cs := #[.int .i64 0, .slice none 0 0]) (t := 32) ?hr ?_; (case hd => rfl); (case hg => rfl); (case hr => first | (go_simp; done) | (go_simp; rfl)); intro gb545 hg w10 hbox hb; have n0_ := Aside0.mk (Kd.R_below (by (with_reducible repeat (first | apply Kd.R_alloc | apply Kd.R_drewN | apply Kd.R_drew)); exact HO538.out) hb); have n1_ := Aside0.mk (Kd.R_below (by (with_reducible repeat (first | apply Kd.R_alloc | apply Kd.R_drewN | apply Kd.R_drew)); exact HO543.out) hb); have n2_ := Aside0.mk (IsS86.below (by repeat (first | (with_reducible first | exact HI0.out | apply IsS86.alloc | apply IsS86.drewN | apply IsS86.drew | apply IsS86.set_1 | refine IsS86.far ?_ NB0_533.out _) | exact HI0.out)) hb); have n3_ := Aside0.mk (blk_below (g := gb533) (o := .cells #[.int .i64 0, .slice none 0 0] 32 (0, 0)) (by (with_reducible repeat (first | refine blk_drewN ?_ _ | refine blk_drew ?_ | refine blk_alloc ?_ _)); exact BK533.out) hb); have n4_ := Aside0.mk (KeepBut.trans (by repeat (first | (with_reducible first | exact HK.out | apply KeepBut.set_ | apply keep_drewN | apply keep_drew | apply keep_alloc | refine keep_far ?_ GW533.out _) | exact HK.out)) (KeepBut.of_below hb g none) (.inl rfl)); have n5_ := Aside0.mk (below_step (by repeat (first | (with_reducible first | exact HB.out | apply below_alloc | apply pw_below_drewN | apply below_drew1 | refine below_set ?_ (IsS86.ge HI0.out) | refine below_set ?_ GE533.out) | exact HB.out)) hb); have n6_ := Aside0.mk (hbox); have n7_ := Aside0.mk ((by rw [hg]; exact (keep_size (w := w) (g := g) (row := none) (by repeat (first | (with_reducible first | exact HK.out | apply KeepBut.set_ | apply keep_drewN | apply keep_drew | apply keep_alloc | refine keep_far ?_ GW533.out _) | exact HK.out))) : w.heap.size ≤ gb545)); have n8_ := Aside0.mk ((Nat.le_trans HW0.out (by rw [hg]; exact (keep_size (w := w) (g := g) (row := none) (by repeat (first | (with_reducible first | exact HK.out | apply KeepBut.set_ | apply keep_drewN | apply keep_drew | apply keep_alloc | refine keep_far ?_ GW533.out _) | exact HK.out))) : w.heap.size ≤ gb545) : w0.heap.size ≤ gb545)); have n9_ := Aside0.mk ((by rw [hg]; exact Nat.ne_of_lt (blk_lt (g := gb533) (o := .cells #[.int .i64 0, .slice none 0 0] 32 (0, 0)) (by (with_reducible repeat (first | refine blk_drewN ?_ _ | refine blk_drew ?_ | refine blk_alloc ?_ _)); exact BK533.out)) : gb533 ≠ gb545)); have n10_ := Aside0.mk ((by rw [hg]; exact Nat.ne_of_gt (blk_lt (g := gb533) (o := .cells #[.int .i64 0, .slice none 0 0] 32 (0, 0)) (by (with_reducible repeat (first | refine blk_drewN ?_ _ | refine blk_drew ?_ | refine blk_alloc ?_ _)); exact BK533.out)) : gb545 ≠ gb533)); have n11_ := Aside0.mk ((by rw [hg]; exact Nat.ne_of_lt (IsS86.lt (show IsS86 w0 _ g s0_0 t539 from by repeat (first | (with_reducible first | exact HI0.out | apply IsS86.alloc | apply IsS86.drewN | apply IsS86.drew | apply IsS86.set_1 | refine IsS86.far ?_ NB0_533.out _) | exact HI0.out))) : g ≠ gb545)); have n12_ := Aside0.mk ((by rw [hg]; exact Nat.ne_of_gt (IsS86.lt (show IsS86 w0 _ g s0_0 t539 from by repeat (first | (with_reducible first | exact HI0.out | apply IsS86.alloc | apply IsS86.drewN | apply IsS86.drew | apply IsS86.set_1 | refine IsS86.far ?_ NB0_533.out _) | exact HI0.out))) : gb545 ≠ g)); clear HO538; clear HO543; clear HI0; clear BK533; clear HK; clear HB; have HO538 := n0_; have HO543 := n1_; have HI0 := n2_; have BK533 := n3_; have HK := n4_; have HB := n5_; have BK545 := n6_; have GW545 := n7_; have GE545 := n8_; have NB533_545 := n9_; have NB545_533 := n10_; have NB0_545 := n11_; have NB545_0 := n12_; clear n0_ n1_ n2_ n3_ n4_ n5_ n6_ n7_ n8_ n9_ n10_ n11_ n12_; clear hb hbox hg; have hnb11 := NB545_533.out; have hnc11 := NB533_545.out; have hnb12 := NB545_0.out; have hnc12 := NB0_545.out; have hcz13_0 : w10.cell? ⟨gb545, 0, none⟩ = some (.int .i64 0) := (blk_cell BK545.out 0).trans rfl; have hcz13_1 : w10.cell? ⟨gb545, 1, none⟩ = some (.slice none 0 0) := (blk_cell BK545.out 1).trans rfl; have hfz13_0 := blk_frozen BK545.out 0; have hfz13_1 := blk_frozen BK545.out 1; obtain ⟨Ao14, co14, eo14⟩ := Kd.R_slice HO543.out; subst eo14; have hnb15 := NB533_0.out; have hnc15 := NB0_533.out; have hcz16_0 : w10.cell? ⟨gb533, 0, none⟩ = some (.int .i64 0) := (blk_cell BK533.out 0).trans rfl; have hcz16_1 : w10.cell? ⟨gb533, 1, none⟩ = some (.slice none 0 0) := (blk_cell BK533.out 1).trans rfl; have hfz16_0 := blk_frozen BK533.out 0; have hfz16_1 := blk_frozen BK533.out 1))
 refine bodyPost_ret (results_cell_row rfl _ _ gb533 32 #[.int .i64 t540, .slice Ao14 t541.length co14] (0, 0) _ rfl (by (with_reducible repeat (first | refine blk_drewN ?_ _ | refine blk_drew ?_ | refine blk_alloc ?_ _)); refine blk_put (cs := #[.int .i64 t540, .slice none 0 0]) ?_ 1 _ rfl; (with_reducible repeat (first | refine blk_drewN ?_ _ | refine blk_drew ?_ | refine blk_alloc ?_ _)); refine blk_put (cs := #[.int .i64 0, .slice none 0 0]) ?_ 0 _ rfl; (with_reducible repeat (first | refine blk_drewN ?_ _ | refine blk_drew ?_ | refine blk_alloc ?_ _)); refine blk_far ?_ NB533_545.out _; (with_reducible repeat (first | refine blk_drewN ?_ _ | refine blk_drew ?_ | refine blk_alloc ?_ _)); refine blk_far ?_ NB533_545.out _; (with_reducible repeat (first | refine blk_drewN ?_ _ | refine blk_drew ?_ | refine blk_alloc ?_ _)); exact BK533.out) Try.underlying32 rfl (by kernel_rfl)) rfl ?_
 exact ⟨_, by first | rfl | (simp [errW_none, errW_some] <;> rfl) | (simp [*, errW_none, errW_some] <;> rfl), by (with_reducible repeat (first | apply Kd.R_alloc | apply Kd.R_drewN | apply Kd.R_drew)); exact Kd.R_mono (Kd.R_far (p := ⟨gb533, 1, none⟩) (Kd.R_far (p := ⟨gb533, 0, none⟩) (Kd.R_far (p := ⟨gb545, 1, none⟩) (Kd.R_far (p := ⟨gb545, 0, none⟩) (Kd.R_types (Kd.R_types HO543.out BK545.out (by decide)) BK533.out (by decide)) (fun _ hk => hk.1.2) (.int .i64 t540)) (fun _ hk => hk.1.2) (.slice Ao14 t541.length co14)) (fun _ hk => hk.2) (.int .i64 t540)) (fun _ hk => hk.2) (.slice Ao14 t541.length co14)) (fun _ hk => trivial), by repeat (first | (with_reducible first | exact HI0.out | apply IsS86.alloc | apply IsS86.drewN | apply IsS86.drew | apply IsS86.set_1 | refine IsS86.far ?_ NB0_533.out _ | refine IsS86.far ?_ NB0_545.out _) | exact HI0.out), by repeat (first | (with_reducible first | exact HB.out | apply below_alloc | apply pw_below_drewN | apply below_drew1 | refine below_set ?_ (IsS86.ge HI0.out) | refine below_set ?_ GE533.out | refine below_set ?_ GE545.out) | exact HB.out), by repeat (first | (with_reducible first | exact HK.out | apply KeepBut.set_ | apply keep_drewN | apply keep_drew | apply keep_alloc | refine keep_far ?_ GW533.out _ | refine keep_far ?_ GW545.out _) | exact HK.out)⟩
end Go.Proofs.Ytodhkbahjomfhaa.Q

namespace Go.Proofs.Ytodhkbahjomfhaa.Q
open Go.RowKit Go.Proofs.YtodhkbahjomfhaaW.PrintWords Go.Proofs.YtodhkbahjomfhaaW.PrintLast Go.Proofs.YtodhkbahjomfhaaW.PrintMore Go.Proofs.Ytodhkbahjomfhaa.Gput Go.Proofs.Ytodhkbahjomfhaa.Gputl
attribute [local go_sem] max2_int min2_int max_two min_two max_three min_three max_four min_four   -- for this text's walks alone
set_option linter.unusedVariables false
set_option linter.unusedSimpArgs false
mutual
noncomputable def storagebarterref08_Check.j0 : Nat → Bool → Int → List (S78) → Option (Int)
 | 0, _, _, _ => none
 | k + 1, x12, x547000, x547001 => if x12 = true then (some 1) else (if (x547001.length : Int) > 256 then (some 4) else (storagebarterref08_Check.l0 k x547001 (x547001.length : Int) 0))
noncomputable def storagebarterref08_Check.l0 : Nat → List (S78) → Int → Int → Option (Int)
 | 0, _, _, _ => none
 | k + 1, x18, x19, x20 => if x20 < x19 then (if 0 ≤ x20 then (if x20 < (x18.length : Int) then (if ((rd_T78 x18 x20).f0) < 0 then (some 2) else (if ((rd_T78 x18 x20).f0) ≥ 2147483647 then (some 2) else (if ((rd_T78 x18 x20).f1) < 1 then (some 2) else (if ((rd_T78 x18 x20).f1) > 256 then (some 2) else (storagebarterref08_Check.l0 k x18 x19 (wrap64 (x20 + 1))))))) else (none)) else (none)) else (some 0)
end
noncomputable def storagebarterref08_Check.f (k : Nat) (a0_0 : Int) (l0_1 : List (S78)) : Option (Int) := if a0_0 < 1 then (storagebarterref08_Check.j0 k true a0_0 l0_1) else (storagebarterref08_Check.j0 k (decide (a0_0 ≥ 2147483647)) a0_0 l0_1)
set_option maxHeartbeats 8000000 in
set_option maxRecDepth 100000 in
theorem storagebarterref08_Check.calls (k : Nat) (a0_0 : Int) (A0_1 : Option Addr) (c0_1 : Nat) (l0_1 : List (S78)) (r : Int) (w : World) (hr0_1 : Kd.C k78 w A0_1 l0_1.length l0_1) (hc0_1 : l0_1.length ≤ c0_1) (h : storagebarterref08_Check.f k a0_0 l0_1 = some r) :
 Calls Try.prog 57 #[.agg #[.int .i64 a0_0, .slice A0_1 l0_1.length c0_1]] w fun e w' => e = .returned (.int .i64 r) ∧ Below w.heap.size w w' := by
 have hu32 := Try.underlying32
 have hu78 := Try.underlying78
 have HR0_1 := Aside0.mk hr0_1
 have HC0_1 := Aside0.mk hc0_1
 clear hr0_1 hc0_1
 have HB := Aside0.mk (Below.refl w.heap.size w)
 have H : (if a0_0 < 1 then (storagebarterref08_Check.j0 k true a0_0 l0_1) else (storagebarterref08_Check.j0 k (decide (a0_0 ≥ 2147483647)) a0_0 l0_1)) = some r := h
 clear h
 have HC2 := Aside0.mk H
 clear H
 go_enter Try.func57, Try.ntmps57
 go_upto_region 1 with (first | ((with_reducible refine gate_dst (N := 1) rfl ?_); refine box_event ?hg (N := 1) ?hd (cs := #[.int .i64 a0_0, .slice A0_1 l0_1.length c0_1]) (t := 32) ?hr ?_; (case hd => rfl); (case hg => rfl); (case hr => first | (go_simp; done) | (go_simp; rfl)); intro gb546 hg w3 hbox hb; have n0_ := Aside0.mk (below_step (by repeat (first | (with_reducible first | exact HB.out | apply below_alloc | apply pw_below_drewN | apply below_drew1) | exact HB.out)) hb); have n1_ := Aside0.mk (hbox); have n2_ := Aside0.mk ((by rw [hg]; exact (below_size (by repeat (first | (with_reducible first | exact HB.out | apply below_alloc | apply pw_below_drewN | apply below_drew1) | exact HB.out))) : w.heap.size ≤ gb546)); have n3_ := Aside0.mk ((by rw [hg]; exact (below_size (by repeat (first | (with_reducible first | exact HB.out | apply below_alloc | apply pw_below_drewN | apply below_drew1) | exact HB.out))) : w.heap.size ≤ gb546)); clear HB; have HB := n0_; have BK546 := n1_; have GW546 := n2_; have GE546 := n3_; clear n0_ n1_ n2_ n3_; clear hb hbox hg))
 (try simp only [Act.put, List.setIfInBounds_toArray, List.set_cons_zero, List.set_cons_succ])
 go_cut [12] (fun v12 wc => ∃ (kq : Nat) (x12_1 : Bool), v12 = .bool x12_1 ∧ Aside0 (storagebarterref08_Check.j0 kq x12_1 a0_0 l0_1 = some r) ∧ Aside0 (kq ≤ k) ∧ Aside0 (wc.heap[gb546]? = some (.cells #[.int .i64 a0_0, (.slice A0_1 l0_1.length c0_1)] 32 (0, 0))) ∧ Aside0 (Below w.heap.size w wc))
 case first =>
  have H := HC2.out
  clear HC2
  by_cases c4 : a0_0 < 1
  ·rw [if_pos c4] at H
   have c4b0 : decide (a0_0 < 1) = true := decide_eq_true c4
   clear c4
   (first | rw [c4b0] | (simp only [i64_w, i32_w]; rw [c4b0]) | skip)
   have H' := Aside0.mk H
   clear H
   have hcz5_0 : w3.cell? ⟨gb546, 0, none⟩ = some (.int .i64 a0_0) := (blk_cell BK546.out 0).trans rfl
   have hcz5_1 : w3.cell? ⟨gb546, 1, none⟩ = some (.slice A0_1 l0_1.length c0_1) := (blk_cell BK546.out 1).trans rfl
   have hfz5_0 := blk_frozen BK546.out 0
   have hfz5_1 := blk_frozen BK546.out 1
   go_wp2
   go_meet
   case rel => exact ⟨_, (true), (by first | rfl | (simp; done) | (simp [*]; done)), H', ⟨by first | omega | exact Nat.le_refl _⟩, ⟨by (with_reducible repeat (first | refine blk_drewN ?_ _ | refine blk_drew ?_ | refine blk_alloc ?_ _)); exact BK546.out⟩, ⟨by repeat (first | (with_reducible first | exact HB.out | apply below_alloc | apply pw_below_drewN | apply below_drew1 | refine below_set ?_ GE546.out) | exact HB.out)⟩⟩
  ·rw [if_neg c4] at H
   have c4b0 : decide (a0_0 < 1) = false := decide_eq_false c4
   clear c4
   (first | rw [c4b0] | (simp only [i64_w, i32_w]; rw [c4b0]) | skip)
   have H' := Aside0.mk H
   clear H
   have hcz6_0 : w3.cell? ⟨gb546, 0, none⟩ = some (.int .i64 a0_0) := (blk_cell BK546.out 0).trans rfl
   have hcz6_1 : w3.cell? ⟨gb546, 1, none⟩ = some (.slice A0_1 l0_1.length c0_1) := (blk_cell BK546.out 1).trans rfl
   have hfz6_0 := blk_frozen BK546.out 0
   have hfz6_1 := blk_frozen BK546.out 1
   go_wp2
   go_meet
   case rel => exact ⟨_, (decide (a0_0 ≥ 2147483647)), (by first | rfl | (simp; done) | (simp [*]; done)), H', ⟨by first | omega | exact Nat.le_refl _⟩, ⟨by (with_reducible repeat (first | refine blk_drewN ?_ _ | refine blk_drew ?_ | refine blk_alloc ?_ _)); exact BK546.out⟩, ⟨by repeat (first | (with_reducible first | exact HB.out | apply below_alloc | apply pw_below_drewN | apply below_drew1 | refine below_set ?_ GE546.out) | exact HB.out)⟩⟩
 case rest =>
  clear HC2
  try clear p2
  try clear c4
  try clear c4b0
  try clear c5
  try clear hcz5_0
  try clear hcz5_1
  try clear hcz6_0
  try clear hcz6_1
  try clear hfz5_0
  try clear hfz5_1
  try clear hfz6_0
  try clear hfz6_1
  obtain ⟨kq, x12_1, rfl, HA, HJ1, BK546, HB⟩ := hcut
  cases kq with
  | zero => exact absurd HA.out (by simp [storagebarterref08_Check.j0])
  | succ kj1 =>
   have H := HA.out
   clear HA
   simp only [storagebarterref08_Check.j0] at H
   by_cases c7 : x12_1 = true
   ·subst c7
    have H1 : (some 1) = some r := by rw [if_pos rfl] at H; exact H
    clear H
    have H := H1
    clear H1
    obtain rfl := Option.some.inj H
    go_wp2
    go_ret
    exact ⟨by first | rfl | (simp [errW_none, errW_some] <;> rfl) | (simp [*, errW_none, errW_some] <;> rfl), by repeat (first | (with_reducible first | exact HB.out | apply below_alloc | apply pw_below_drewN | apply below_drew1 | refine below_set ?_ GE546.out) | exact HB.out)⟩
   ·replace c7 := Bool.eq_false_iff.mpr c7
    subst c7
    have H1 : (if (l0_1.length : Int) > 256 then (some 4) else (storagebarterref08_Check.l0 kj1 l0_1 (l0_1.length : Int) 0)) = some r := by rw [if_neg (show ¬ (false = true) by decide)] at H; exact H
    clear H
    have H := H1
    clear H1
    by_cases c8 : (l0_1.length : Int) > 256
    ·rw [if_pos c8] at H
     have c8b0 : decide (256 < (l0_1.length : Int)) = true := decide_eq_true c8
     have c8b1 : decide (256 < l0_1.length) = true := decide_eq_true (by omega)
     clear c8
     obtain rfl := Option.some.inj H
     have hcz9_0 : wc.cell? ⟨gb546, 0, none⟩ = some (.int .i64 a0_0) := (blk_cell BK546.out 0).trans rfl
     have hcz9_1 : wc.cell? ⟨gb546, 1, none⟩ = some (.slice A0_1 l0_1.length c0_1) := (blk_cell BK546.out 1).trans rfl
     have hfz9_0 := blk_frozen BK546.out 0
     have hfz9_1 := blk_frozen BK546.out 1
     go_wp2
     go_ret
     exact ⟨by first | rfl | (simp [errW_none, errW_some] <;> rfl) | (simp [*, errW_none, errW_some] <;> rfl), by repeat (first | (with_reducible first | exact HB.out | apply below_alloc | apply pw_below_drewN | apply below_drew1 | refine below_set ?_ GE546.out) | exact HB.out)⟩
    ·rw [if_neg c8] at H
     have c8b0 : decide (256 < (l0_1.length : Int)) = false := decide_eq_false c8
     have c8b1 : decide (256 < l0_1.length) = false := decide_eq_false (by omega)
     clear c8
     have H' := Aside0.mk H
     clear H
     have hcz10_0 : wc.cell? ⟨gb546, 0, none⟩ = some (.int .i64 a0_0) := (blk_cell BK546.out 0).trans rfl
     have hcz10_1 : wc.cell? ⟨gb546, 1, none⟩ = some (.slice A0_1 l0_1.length c0_1) := (blk_cell BK546.out 1).trans rfl
     have hfz10_0 := blk_frozen BK546.out 0
     have hfz10_1 := blk_frozen BK546.out 1
     go_wp2
     go_loopg [20] kj1 (fun kq v20 w' => ∃ (x20_2 : Int), v20 = .int .i64 x20_2 ∧ Aside0 (storagebarterref08_Check.l0 kq l0_1 (l0_1.length : Int) x20_2 = some r) ∧ Aside0 (kq ≤ kj1) ∧ Aside0 (w'.heap[gb546]? = some (.cells #[.int .i64 a0_0, (.slice A0_1 l0_1.length c0_1)] 32 (0, 0))) ∧ Aside0 (Below w.heap.size w w'))
     case atStart => exact ⟨(0), (by first | rfl | (simp; done) | (simp [*]; done)), H', ⟨Nat.le_refl _⟩, ⟨by (with_reducible repeat (first | refine blk_drewN ?_ _ | refine blk_drew ?_ | refine blk_alloc ?_ _)); exact BK546.out⟩, ⟨by repeat (first | (with_reducible first | exact HB.out | apply below_alloc | apply pw_below_drewN | apply below_drew1 | refine below_set ?_ GE546.out) | exact HB.out)⟩⟩
     case round =>
      clear H'
      try clear p2
      try clear c4
      try clear c4b0
      try clear c5
      try clear c7
      try clear c8
      try clear c8b0
      try clear c8b1
      try clear hcz10_0
      try clear hcz10_1
      try clear hcz5_0
      try clear hcz5_1
      try clear hcz6_0
      try clear hcz6_1
      try clear hcz9_0
      try clear hcz9_1
      try clear hfz10_0
      try clear hfz10_1
      try clear hfz5_0
      try clear hfz5_1
      try clear hfz6_0
      try clear hfz6_1
      try clear hfz9_0
      try clear hfz9_1
      try clear p2
      obtain ⟨x20_2, rfl, HA, HK2, BK546, HB⟩ := hrel
      cases gk with
      | zero => exact absurd HA.out (by simp [storagebarterref08_Check.l0])
      | succ k2 =>
       have H := HA.out
       clear HA
       simp only [storagebarterref08_Check.l0] at H
       by_cases c11 : x20_2 < (l0_1.length : Int)
       ·rw [if_pos c11] at H
        have c11b0 : decide (x20_2 < (l0_1.length : Int)) = true := decide_eq_true c11
        clear c11
        by_cases c12 : 0 ≤ x20_2
        ·rw [if_pos c12] at H
         have c12b0 : decide (0 ≤ x20_2) = true := decide_eq_true c12
         clear c12
         by_cases c13 : x20_2 < (l0_1.length : Int)
         ·rw [if_pos c13] at H
          have c13b0 : decide (x20_2 < (l0_1.length : Int)) = true := decide_eq_true c13
          clear c13
          by_cases c14 : ((rd_T78 l0_1 x20_2).f0) < 0
          ·rw [if_pos c14] at H
           have c14b0 : decide (((rd_T78 l0_1 x20_2).f0) < 0) = true := decide_eq_true c14
           clear c14
           obtain rfl := Option.some.inj H
           have p547 : 0 ≤ (x20_2 : Int) := of_decide_eq_true (by first | (with_reducible assumption) | assumption)
           have q547 : x20_2 < (l0_1.length : Int) := of_decide_eq_true (by first | (with_reducible assumption) | assumption)
           obtain ⟨ad547, e547, hx547_0, hx547_1⟩ := at_T78 HR0_1.out x20_2 p547 q547
           cases e547
           replace hx547_0 := (HB.out.cell (World.block_lt_of_cell? w _ hx547_0)).trans hx547_0
           replace hx547_1 := (HB.out.cell (World.block_lt_of_cell? w _ hx547_1)).trans hx547_1
           replace p547 := eq_true p547
           replace q547 := eq_true q547
           go_wp2_with (first | ((with_reducible refine gate_dst (N := 4) rfl ?_); refine box_event ?hg (N := 4) ?hd (cs := #[.int .i64 0, .int .i64 0]) (t := 78) ?hr ?_; (case hd => rfl); (case hg => rfl); (case hr => first | (go_simp; done) | (go_simp; rfl)); intro gb548 hg w15 hbox hb; have n0_ := Aside0.mk (blk_below (g := gb546) (o := .cells #[.int .i64 a0_0, .slice (some ad547) l0_1.length c0_1] 32 (0, 0)) (by (with_reducible repeat (first | refine blk_drewN ?_ _ | refine blk_drew ?_ | refine blk_alloc ?_ _)); exact BK546.out) hb); have n1_ := Aside0.mk (below_step (by repeat (first | (with_reducible first | exact HB.out | apply below_alloc | apply pw_below_drewN | apply below_drew1 | refine below_set ?_ GE546.out) | exact HB.out)) hb); have n2_ := Aside0.mk (hbox); have n3_ := Aside0.mk ((by rw [hg]; exact (below_size (by repeat (first | (with_reducible first | exact HB.out | apply below_alloc | apply pw_below_drewN | apply below_drew1 | refine below_set ?_ GE546.out) | exact HB.out))) : w.heap.size ≤ gb548)); have n4_ := Aside0.mk ((by rw [hg]; exact (below_size (by repeat (first | (with_reducible first | exact HB.out | apply below_alloc | apply pw_below_drewN | apply below_drew1 | refine below_set ?_ GE546.out) | exact HB.out))) : w.heap.size ≤ gb548)); have n5_ := Aside0.mk ((by rw [hg]; exact Nat.ne_of_lt (blk_lt (g := gb546) (o := .cells #[.int .i64 a0_0, .slice (some ad547) l0_1.length c0_1] 32 (0, 0)) (by (with_reducible repeat (first | refine blk_drewN ?_ _ | refine blk_drew ?_ | refine blk_alloc ?_ _)); exact BK546.out)) : gb546 ≠ gb548)); have n6_ := Aside0.mk ((by rw [hg]; exact Nat.ne_of_gt (blk_lt (g := gb546) (o := .cells #[.int .i64 a0_0, .slice (some ad547) l0_1.length c0_1] 32 (0, 0)) (by (with_reducible repeat (first | refine blk_drewN ?_ _ | refine blk_drew ?_ | refine blk_alloc ?_ _)); exact BK546.out)) : gb548 ≠ gb546)); clear BK546; clear HB; have BK546 := n0_; have HB := n1_; have BK548 := n2_; have GW548 := n3_; have GE548 := n4_; have NB546_548 := n5_; have NB548_546 := n6_; clear n0_ n1_ n2_ n3_ n4_ n5_ n6_; clear hb hbox hg; have hnb16 := NB548_546.out; have hnc16 := NB546_548.out; have hcz17_0 : w15.cell? ⟨gb548, 0, none⟩ = some (.int .i64 0) := (blk_cell BK548.out 0).trans rfl; have hcz17_1 : w15.cell? ⟨gb548, 1, none⟩ = some (.int .i64 0) := (blk_cell BK548.out 1).trans rfl; have hfz17_0 := blk_frozen BK548.out 0; have hfz17_1 := blk_frozen BK548.out 1))
           go_ret
           exact ⟨by first | rfl | (simp [errW_none, errW_some] <;> rfl) | (simp [*, errW_none, errW_some] <;> rfl), by repeat (first | (with_reducible first | exact HB.out | apply below_alloc | apply pw_below_drewN | apply below_drew1 | refine below_set ?_ GE546.out | refine below_set ?_ GE548.out) | exact HB.out)⟩
          ·rw [if_neg c14] at H
           have c14b0 : decide (((rd_T78 l0_1 x20_2).f0) < 0) = false := decide_eq_false c14
           clear c14
           by_cases c18 : ((rd_T78 l0_1 x20_2).f0) ≥ 2147483647
           ·rw [if_pos c18] at H
            have c18b0 : decide (2147483647 ≤ ((rd_T78 l0_1 x20_2).f0)) = true := decide_eq_true c18
            clear c18
            obtain rfl := Option.some.inj H
            have p547 : 0 ≤ (x20_2 : Int) := of_decide_eq_true (by first | (with_reducible assumption) | assumption)
            have q547 : x20_2 < (l0_1.length : Int) := of_decide_eq_true (by first | (with_reducible assumption) | assumption)
            obtain ⟨ad547, e547, hx547_0, hx547_1⟩ := at_T78 HR0_1.out x20_2 p547 q547
            cases e547
            replace hx547_0 := (HB.out.cell (World.block_lt_of_cell? w _ hx547_0)).trans hx547_0
            replace hx547_1 := (HB.out.cell (World.block_lt_of_cell? w _ hx547_1)).trans hx547_1
            replace p547 := eq_true p547
            replace q547 := eq_true q547
            go_wp2_with (first | ((with_reducible refine gate_dst (N := 4) rfl ?_); refine box_event ?hg (N := 4) ?hd (cs := #[.int .i64 0, .int .i64 0]) (t := 78) ?hr ?_; (case hd => rfl); (case hg => rfl); (case hr => first | (go_simp; done) | (go_simp; rfl)); intro gb548 hg w19 hbox hb; have n0_ := Aside0.mk (blk_below (g := gb546) (o := .cells #[.int .i64 a0_0, .slice (some ad547) l0_1.length c0_1] 32 (0, 0)) (by (with_reducible repeat (first | refine blk_drewN ?_ _ | refine blk_drew ?_ | refine blk_alloc ?_ _)); exact BK546.out) hb); have n1_ := Aside0.mk (below_step (by repeat (first | (with_reducible first | exact HB.out | apply below_alloc | apply pw_below_drewN | apply below_drew1 | refine below_set ?_ GE546.out) | exact HB.out)) hb); have n2_ := Aside0.mk (hbox); have n3_ := Aside0.mk ((by rw [hg]; exact (below_size (by repeat (first | (with_reducible first | exact HB.out | apply below_alloc | apply pw_below_drewN | apply below_drew1 | refine below_set ?_ GE546.out) | exact HB.out))) : w.heap.size ≤ gb548)); have n4_ := Aside0.mk ((by rw [hg]; exact (below_size (by repeat (first | (with_reducible first | exact HB.out | apply below_alloc | apply pw_below_drewN | apply below_drew1 | refine below_set ?_ GE546.out) | exact HB.out))) : w.heap.size ≤ gb548)); have n5_ := Aside0.mk ((by rw [hg]; exact Nat.ne_of_lt (blk_lt (g := gb546) (o := .cells #[.int .i64 a0_0, .slice (some ad547) l0_1.length c0_1] 32 (0, 0)) (by (with_reducible repeat (first | refine blk_drewN ?_ _ | refine blk_drew ?_ | refine blk_alloc ?_ _)); exact BK546.out)) : gb546 ≠ gb548)); have n6_ := Aside0.mk ((by rw [hg]; exact Nat.ne_of_gt (blk_lt (g := gb546) (o := .cells #[.int .i64 a0_0, .slice (some ad547) l0_1.length c0_1] 32 (0, 0)) (by (with_reducible repeat (first | refine blk_drewN ?_ _ | refine blk_drew ?_ | refine blk_alloc ?_ _)); exact BK546.out)) : gb548 ≠ gb546)); clear BK546; clear HB; have BK546 := n0_; have HB := n1_; have BK548 := n2_; have GW548 := n3_; have GE548 := n4_; have NB546_548 := n5_; have NB548_546 := n6_; clear n0_ n1_ n2_ n3_ n4_ n5_ n6_; clear hb hbox hg; have hnb20 := NB548_546.out; have hnc20 := NB546_548.out; have hcz21_0 : w19.cell? ⟨gb548, 0, none⟩ = some (.int .i64 0) := (blk_cell BK548.out 0).trans rfl; have hcz21_1 : w19.cell? ⟨gb548, 1, none⟩ = some (.int .i64 0) := (blk_cell BK548.out 1).trans rfl; have hfz21_0 := blk_frozen BK548.out 0; have hfz21_1 := blk_frozen BK548.out 1))
            go_ret
            exact ⟨by first | rfl | (simp [errW_none, errW_some] <;> rfl) | (simp [*, errW_none, errW_some] <;> rfl), by repeat (first | (with_reducible first | exact HB.out | apply below_alloc | apply pw_below_drewN | apply below_drew1 | refine below_set ?_ GE546.out | refine below_set ?_ GE548.out) | exact HB.out)⟩
           ·rw [if_neg c18] at H
            have c18b0 : decide (2147483647 ≤ ((rd_T78 l0_1 x20_2).f0)) = false := decide_eq_false c18
            clear c18
            by_cases c22 : ((rd_T78 l0_1 x20_2).f1) < 1
            ·rw [if_pos c22] at H
             have c22b0 : decide (((rd_T78 l0_1 x20_2).f1) < 1) = true := decide_eq_true c22
             clear c22
             obtain rfl := Option.some.inj H
             have p547 : 0 ≤ (x20_2 : Int) := of_decide_eq_true (by first | (with_reducible assumption) | assumption)
             have q547 : x20_2 < (l0_1.length : Int) := of_decide_eq_true (by first | (with_reducible assumption) | assumption)
             obtain ⟨ad547, e547, hx547_0, hx547_1⟩ := at_T78 HR0_1.out x20_2 p547 q547
             cases e547
             replace hx547_0 := (HB.out.cell (World.block_lt_of_cell? w _ hx547_0)).trans hx547_0
             replace hx547_1 := (HB.out.cell (World.block_lt_of_cell? w _ hx547_1)).trans hx547_1
             replace p547 := eq_true p547
             replace q547 := eq_true q547
             go_wp2_with (first | ((with_reducible refine gate_dst (N := 4) rfl ?_); refine box_event ?hg (N := 4) ?hd (cs := #[.int .i64 0, .int .i64 0]) (t := 78) ?hr ?_; (case hd => rfl); (case hg => rfl); (case hr => first | (go_simp; done) | (go_simp; rfl)); intro gb548 hg w23 hbox hb; have n0_ := Aside0.mk (blk_below (g := gb546) (o := .cells #[.int .i64 a0_0, .slice (some ad547) l0_1.length c0_1] 32 (0, 0)) (by (with_reducible repeat (first | refine blk_drewN ?_ _ | refine blk_drew ?_ | refine blk_alloc ?_ _)); exact BK546.out) hb); have n1_ := Aside0.mk (below_step (by repeat (first | (with_reducible first | exact HB.out | apply below_alloc | apply pw_below_drewN | apply below_drew1 | refine below_set ?_ GE546.out) | exact HB.out)) hb); have n2_ := Aside0.mk (hbox); have n3_ := Aside0.mk ((by rw [hg]; exact (below_size (by repeat (first | (with_reducible first | exact HB.out | apply below_alloc | apply pw_below_drewN | apply below_drew1 | refine below_set ?_ GE546.out) | exact HB.out))) : w.heap.size ≤ gb548)); have n4_ := Aside0.mk ((by rw [hg]; exact (below_size (by repeat (first | (with_reducible first | exact HB.out | apply below_alloc | apply pw_below_drewN | apply below_drew1 | refine below_set ?_ GE546.out) | exact HB.out))) : w.heap.size ≤ gb548)); have n5_ := Aside0.mk ((by rw [hg]; exact Nat.ne_of_lt (blk_lt (g := gb546) (o := .cells #[.int .i64 a0_0, .slice (some ad547) l0_1.length c0_1] 32 (0, 0)) (by (with_reducible repeat (first | refine blk_drewN ?_ _ | refine blk_drew ?_ | refine blk_alloc ?_ _)); exact BK546.out)) : gb546 ≠ gb548)); have n6_ := Aside0.mk ((by rw [hg]; exact Nat.ne_of_gt (blk_lt (g := gb546) (o := .cells #[.int .i64 a0_0, .slice (some ad547) l0_1.length c0_1] 32 (0, 0)) (by (with_reducible repeat (first | refine blk_drewN ?_ _ | refine blk_drew ?_ | refine blk_alloc ?_ _)); exact BK546.out)) : gb548 ≠ gb546)); clear BK546; clear HB; have BK546 := n0_; have HB := n1_; have BK548 := n2_; have GW548 := n3_; have GE548 := n4_; have NB546_548 := n5_; have NB548_546 := n6_; clear n0_ n1_ n2_ n3_ n4_ n5_ n6_; clear hb hbox hg; have hnb24 := NB548_546.out; have hnc24 := NB546_548.out; have hcz25_0 : w23.cell? ⟨gb548, 0, none⟩ = some (.int .i64 0) := (blk_cell BK548.out 0).trans rfl; have hcz25_1 : w23.cell? ⟨gb548, 1, none⟩ = some (.int .i64 0) := (blk_cell BK548.out 1).trans rfl; have hfz25_0 := blk_frozen BK548.out 0; have hfz25_1 := blk_frozen BK548.out 1))
             go_ret
             exact ⟨by first | rfl | (simp [errW_none, errW_some] <;> rfl) | (simp [*, errW_none, errW_some] <;> rfl), by repeat (first | (with_reducible first | exact HB.out | apply below_alloc | apply pw_below_drewN | apply below_drew1 | refine below_set ?_ GE546.out | refine below_set ?_ GE548.out) | exact HB.out)⟩
            ·rw [if_neg c22] at H
             have c22b0 : decide (((rd_T78 l0_1 x20_2).f1) < 1) = false := decide_eq_false c22
             clear c22
             by_cases c26 : ((rd_T78 l0_1 x20_2).f1) > 256
             ·rw [if_pos c26] at H
              have c26b0 : decide (256 < ((rd_T78 l0_1 x20_2).f1)) = true := decide_eq_true c26
              clear c26
              obtain rfl := Option.some.inj H
              have p547 : 0 ≤ (x20_2 : Int) := of_decide_eq_true (by first | (with_reducible assumption) | assumption)
              have q547 : x20_2 < (l0_1.length : Int) := of_decide_eq_true (by first | (with_reducible assumption) | assumption)
              obtain ⟨ad547, e547, hx547_0, hx547_1⟩ := at_T78 HR0_1.out x20_2 p547 q547
              cases e547
              replace hx547_0 := (HB.out.cell (World.block_lt_of_cell? w _ hx547_0)).trans hx547_0
              replace hx547_1 := (HB.out.cell (World.block_lt_of_cell? w _ hx547_1)).trans hx547_1
              replace p547 := eq_true p547
              replace q547 := eq_true q547
              go_wp2_with (first | ((with_reducible refine gate_dst (N := 4) rfl ?_); refine box_event ?hg (N := 4) ?hd (cs := #[.int .i64 0, .int .i64 0]) (t := 78) ?hr ?_; (case hd => rfl); (case hg => rfl); (case hr => first | (go_simp; done) | (go_simp; rfl)); intro gb548 hg w27 hbox hb; have n0_ := Aside0.mk (blk_below (g := gb546) (o := .cells #[.int .i64 a0_0, .slice (some ad547) l0_1.length c0_1] 32 (0, 0)) (by (with_reducible repeat (first | refine blk_drewN ?_ _ | refine blk_drew ?_ | refine blk_alloc ?_ _)); exact BK546.out) hb); have n1_ := Aside0.mk (below_step (by repeat (first | (with_reducible first | exact HB.out | apply below_alloc | apply pw_below_drewN | apply below_drew1 | refine below_set ?_ GE546.out) | exact HB.out)) hb); have n2_ := Aside0.mk (hbox); have n3_ := Aside0.mk ((by rw [hg]; exact (below_size (by repeat (first | (with_reducible first | exact HB.out | apply below_alloc | apply pw_below_drewN | apply below_drew1 | refine below_set ?_ GE546.out) | exact HB.out))) : w.heap.size ≤ gb548)); have n4_ := Aside0.mk ((by rw [hg]; exact (below_size (by repeat (first | (with_reducible first | exact HB.out | apply below_alloc | apply pw_below_drewN | apply below_drew1 | refine below_set ?_ GE546.out) | exact HB.out))) : w.heap.size ≤ gb548)); have n5_ := Aside0.mk ((by rw [hg]; exact Nat.ne_of_lt (blk_lt (g := gb546) (o := .cells #[.int .i64 a0_0, .slice (some ad547) l0_1.length c0_1] 32 (0, 0)) (by (with_reducible repeat (first | refine blk_drewN ?_ _ | refine blk_drew ?_ | refine blk_alloc ?_ _)); exact BK546.out)) : gb546 ≠ gb548)); have n6_ := Aside0.mk ((by rw [hg]; exact Nat.ne_of_gt (blk_lt (g := gb546) (o := .cells #[.int .i64 a0_0, .slice (some ad547) l0_1.length c0_1] 32 (0, 0)) (by (with_reducible repeat (first | refine blk_drewN ?_ _ | refine blk_drew ?_ | refine blk_alloc ?_ _)); exact BK546.out)) : gb548 ≠ gb546)); clear BK546; clear HB; have BK546 := n0_; have HB := n1_; have BK548 := n2_; have GW548 := n3_; have GE548 := n4_; have NB546_548 := n5_; have NB548_546 := n6_; clear n0_ n1_ n2_ n3_ n4_ n5_ n6_; clear hb hbox hg; have hnb28 := NB548_546.out; have hnc28 := NB546_548.out; have hcz29_0 : w27.cell? ⟨gb548, 0, none⟩ = some (.int .i64 0) := (blk_cell BK548.out 0).trans rfl; have hcz29_1 : w27.cell? ⟨gb548, 1, none⟩ = some (.int .i64 0) := (blk_cell BK548.out 1).trans rfl; have hfz29_0 := blk_frozen BK548.out 0; have hfz29_1 := blk_frozen BK548.out 1))
              go_ret
              exact ⟨by first | rfl | (simp [errW_none, errW_some] <;> rfl) | (simp [*, errW_none, errW_some] <;> rfl), by repeat (first | (with_reducible first | exact HB.out | apply below_alloc | apply pw_below_drewN | apply below_drew1 | refine below_set ?_ GE546.out | refine below_set ?_ GE548.out) | exact HB.out)⟩
             ·rw [if_neg c26] at H
              have c26b0 : decide (256 < ((rd_T78 l0_1 x20_2).f1)) = false := decide_eq_false c26
              clear c26
              have H' := Aside0.mk H
              clear H
              have p547 : 0 ≤ (x20_2 : Int) := of_decide_eq_true (by first | (with_reducible assumption) | assumption)
              have q547 : x20_2 < (l0_1.length : Int) := of_decide_eq_true (by first | (with_reducible assumption) | assumption)
              obtain ⟨ad547, e547, hx547_0, hx547_1⟩ := at_T78 HR0_1.out x20_2 p547 q547
              cases e547
              replace hx547_0 := (HB.out.cell (World.block_lt_of_cell? w _ hx547_0)).trans hx547_0
              replace hx547_1 := (HB.out.cell (World.block_lt_of_cell? w _ hx547_1)).trans hx547_1
              replace p547 := eq_true p547
              replace q547 := eq_true q547
              go_wp2_with (first | ((with_reducible refine gate_dst (N := 4) rfl ?_); refine box_event ?hg (N := 4) ?hd (cs := #[.int .i64 0, .int .i64 0]) (t := 78) ?hr ?_; (case hd => rfl); (case hg => rfl); (case hr => first | (go_simp; done) | (go_simp; rfl)); intro gb548 hg w30 hbox hb; have n0_ := Aside0.mk (blk_below (g := gb546) (o := .cells #[.int .i64 a0_0, .slice (some ad547) l0_1.length c0_1] 32 (0, 0)) (by (with_reducible repeat (first | refine blk_drewN ?_ _ | refine blk_drew ?_ | refine blk_alloc ?_ _)); exact BK546.out) hb); have n1_ := Aside0.mk (below_step (by repeat (first | (with_reducible first | exact HB.out | apply below_alloc | apply pw_below_drewN | apply below_drew1 | refine below_set ?_ GE546.out) | exact HB.out)) hb); have n2_ := Aside0.mk (hbox); have n3_ := Aside0.mk ((by rw [hg]; exact (below_size (by repeat (first | (with_reducible first | exact HB.out | apply below_alloc | apply pw_below_drewN | apply below_drew1 | refine below_set ?_ GE546.out) | exact HB.out))) : w.heap.size ≤ gb548)); have n4_ := Aside0.mk ((by rw [hg]; exact (below_size (by repeat (first | (with_reducible first | exact HB.out | apply below_alloc | apply pw_below_drewN | apply below_drew1 | refine below_set ?_ GE546.out) | exact HB.out))) : w.heap.size ≤ gb548)); have n5_ := Aside0.mk ((by rw [hg]; exact Nat.ne_of_lt (blk_lt (g := gb546) (o := .cells #[.int .i64 a0_0, .slice (some ad547) l0_1.length c0_1] 32 (0, 0)) (by (with_reducible repeat (first | refine blk_drewN ?_ _ | refine blk_drew ?_ | refine blk_alloc ?_ _)); exact BK546.out)) : gb546 ≠ gb548)); have n6_ := Aside0.mk ((by rw [hg]; exact Nat.ne_of_gt (blk_lt (g := gb546) (o := .cells #[.int .i64 a0_0, .slice (some ad547) l0_1.length c0_1] 32 (0, 0)) (by (with_reducible repeat (first | refine blk_drewN ?_ _ | refine blk_drew ?_ | refine blk_alloc ?_ _)); exact BK546.out)) : gb548 ≠ gb546)); clear BK546; clear HB; have BK546 := n0_; have HB := n1_; have BK548 := n2_; have GW548 := n3_; have GE548 := n4_; have NB546_548 := n5_; have NB548_546 := n6_; clear n0_ n1_ n2_ n3_ n4_ n5_ n6_; clear hb hbox hg; have hnb31 := NB548_546.out; have hnc31 := NB546_548.out; have hcz32_0 : w30.cell? ⟨gb548, 0, none⟩ = some (.int .i64 0) := (blk_cell BK548.out 0).trans rfl; have hcz32_1 : w30.cell? ⟨gb548, 1, none⟩ = some (.int .i64 0) := (blk_cell BK548.out 1).trans rfl; have hfz32_0 := blk_frozen BK548.out 0; have hfz32_1 := blk_frozen BK548.out 1))
              go_roundg k2
              case measure => have := HJ1.out; have := HK2.out; omega
              case rel => exact ⟨(wrap64 (x20_2 + 1)), (by first | rfl | (simp; done) | (simp [*]; done)), H', ⟨by have := HJ1.out; have := HK2.out; omega⟩, ⟨by (with_reducible repeat (first | refine blk_drewN ?_ _ | refine blk_drew ?_ | refine blk_alloc ?_ _)); refine blk_far ?_ NB546_548.out _; (with_reducible repeat (first | refine blk_drewN ?_ _ | refine blk_drew ?_ | refine blk_alloc ?_ _)); refine blk_far ?_ NB546_548.out _; (with_reducible repeat (first | refine blk_drewN ?_ _ | refine blk_drew ?_ | refine blk_alloc ?_ _)); exact BK546.out⟩, ⟨by repeat (first | (with_reducible first | exact HB.out | apply below_alloc | apply pw_below_drewN | apply below_drew1 | refine below_set ?_ GE546.out | refine below_set ?_ GE548.out) | exact HB.out)⟩⟩
         ·rw [if_neg c13] at H
          exact absurd H (by simp)
        ·rw [if_neg c12] at H
         exact absurd H (by simp)
       ·rw [if_neg c11] at H
        have c11b0 : decide (x20_2 < (l0_1.length : Int)) = false := decide_eq_false c11
        clear c11
        obtain rfl := Option.some.inj H
        go_wp2
        go_ret
        exact ⟨by first | rfl | (simp [errW_none, errW_some] <;> rfl) | (simp [*, errW_none, errW_some] <;> rfl), by repeat (first | (with_reducible first | exact HB.out | apply below_alloc | apply pw_below_drewN | apply below_drew1 | refine below_set ?_ GE546.out) | exact HB.out)⟩
end Go.Proofs.Ytodhkbahjomfhaa.Q

namespace Go.Proofs.Ytodhkbahjomfhaa.Q
open Go.RowKit Go.Proofs.YtodhkbahjomfhaaW.PrintWords Go.Proofs.YtodhkbahjomfhaaW.PrintLast Go.Proofs.YtodhkbahjomfhaaW.PrintMore Go.Proofs.Ytodhkbahjomfhaa.Gput Go.Proofs.Ytodhkbahjomfhaa.Gputl
attribute [local go_sem] max2_int min2_int max_two min_two max_three min_three max_four min_four   -- for this text's walks alone
set_option linter.unusedVariables false
set_option linter.unusedSimpArgs false
attribute [local go_sem high] eqA78
mutual
noncomputable def storagebarterref08_Restore.l0 : Nat → List ByteArray → ByteArray → List (S78) → Int → Int → Option (ByteArray × Int)
 | 0, _, _, _, _, _ => none
 | k + 1, x1, x7, x20, x21, x22 => if x22 < x21 then (if 0 ≤ x22 then (if x22 < (x20.length : Int) then (storagebarterref08_Restore.l1 k x1 x7 false (⟨#[]⟩ : ByteArray) x20 x21 x22 x1 (x1.length : Int) 0 ((rd_T78 x20 x22).f0) ((rd_T78 x20 x22).f1)) else (none)) else (none)) else (some (x7, 0))
noncomputable def storagebarterref08_Restore.l1 : Nat → List ByteArray → ByteArray → Bool → ByteArray → List (S78) → Int → Int → List ByteArray → Int → Int → Int → Int → Option (ByteArray × Int)
 | 0, _, _, _, _, _, _, _, _, _, _, _, _ => none
 | k + 1, x1, x7, x10, x11, x20, x21, x22, x26, x27, x28, x838000, x838001 => if x28 < x27 then (if 0 ≤ x28 then (if x28 < (x26.length : Int) then (if ((rdOf ByteArray.empty x26 x28).size : Int) = x838001 then ((storagebarterref08_Name.f k (rdOf ByteArray.empty x26 x28)).bind fun bt839 => (storagebarterref08_Restore.j2 k x1 x7 x10 x11 (rdOf ByteArray.empty x26 x28) x20 x21 x22 x26 x27 x28 (!(bt839.1 == x838000) || (!(bt839.2 == x838001))) x838000 x838001)) else (storagebarterref08_Restore.j2 k x1 x7 x10 x11 (rdOf ByteArray.empty x26 x28) x20 x21 x22 x26 x27 x28 true x838000 x838001)) else (none)) else (none)) else (if x10 = true then (if x7.size + x11.size ≤ 9223372036854775807 then (storagebarterref08_Restore.l0 k x1 (x7 ++ x11) x20 x21 (wrap64 (x22 + 1))) else (none)) else (some ((⟨#[]⟩ : ByteArray), 6)))
noncomputable def storagebarterref08_Restore.j2 : Nat → List ByteArray → ByteArray → Bool → ByteArray → ByteArray → List (S78) → Int → Int → List ByteArray → Int → Int → Bool → Int → Int → Option (ByteArray × Int)
 | 0, _, _, _, _, _, _, _, _, _, _, _, _, _, _ => none
 | k + 1, x1, x7, x10, x11, x13, x20, x21, x22, x26, x27, x28, x42, x838000, x838001 => if x42 = true then (storagebarterref08_Restore.l1 k x1 x7 x10 x11 x20 x21 x22 x26 x27 (wrap64 (x28 + 1)) x838000 x838001) else (if x10 = true then (if x13.toList = x11.toList then (storagebarterref08_Restore.l1 k x1 x7 true x13 x20 x21 x22 x26 x27 (wrap64 (x28 + 1)) x838000 x838001) else (some ((⟨#[]⟩ : ByteArray), 8))) else (storagebarterref08_Restore.l1 k x1 x7 true x13 x20 x21 x22 x26 x27 (wrap64 (x28 + 1)) x838000 x838001))
end
noncomputable def storagebarterref08_Restore.f (k : Nat) (a0_0 : Int) (l0_1 : List (S78)) (l1 : List ByteArray) : Option (ByteArray × Int) := (storagebarterref08_Check.f k a0_0 l0_1).bind fun t835 => (if t835 = 0 then (storagebarterref08_Restore.l0 k l1 (⟨#[]⟩ : ByteArray) l0_1 (l0_1.length : Int) 0) else (some ((⟨#[]⟩ : ByteArray), t835)))
noncomputable def storagebarterref08_Restore.T12 : Bool × List (List Nat × List Nat) := (true, [([], []), ([0], [0]), ([], []), ([2], [2]), ([1, 3], [1, 3]), ([4], [4]), ([5], [5]), ([6, 5, 5], [5, 6]), ([5], [5]), ([7, 8, 5], [5, 7, 8]), ([5, 9], [5, 9])])
noncomputable def storagebarterref08_Restore.B12 : List Nat := [0, 1, 0, 4, 15, 31, 63, 127, 63, 511, 1023]
theorem storagebarterref08_Restore.tab12 : rtab .any (opsOf Try.f53 12) = storagebarterref08_Restore.T12 := by kernel_rfl
theorem storagebarterref08_Restore.bits12 : waitsOk storagebarterref08_Restore.T12.2 storagebarterref08_Restore.B12 = true := by kernel_rfl
set_option maxHeartbeats 8000000 in
set_option maxRecDepth 100000 in
theorem storagebarterref08_Restore.calls (k : Nat) (a0_0 : Int) (A0_1 : Option Addr) (c0_1 : Nat) (l0_1 : List (S78)) (A1 : Option Addr) (c1 : Nat) (l1 : List ByteArray) (r1 : ByteArray) (r2 : Int) (w : World) (hr0_1 : Kd.C k78 w A0_1 l0_1.length l0_1) (hc0_1 : l0_1.length ≤ c0_1) (hr1 : Kd.C Kd.string w A1 l1.length l1) (hc1 : l1.length ≤ c1) (h : storagebarterref08_Restore.f k a0_0 l0_1 l1 = some (r1, r2)) :
 Calls Try.prog 53 #[.agg #[.int .i64 a0_0, .slice A0_1 l0_1.length c0_1], .slice A1 l1.length c1] w fun e w' => e = .returned (.tuple #[.string r1, .int .i64 r2]) ∧ Below w.heap.size w w' := by
 have hu32 := Try.underlying32
 have hu78 := Try.underlying78
 have HR0_1 := Aside0.mk hr0_1
 have HC0_1 := Aside0.mk hc0_1
 clear hr0_1 hc0_1
 have HR1 := Aside0.mk hr1
 have HC1 := Aside0.mk hc1
 clear hr1 hc1
 have HB := Aside0.mk (Below.refl w.heap.size w)
 have H : ((storagebarterref08_Check.f k a0_0 l0_1).bind fun t835 => (if t835 = 0 then (storagebarterref08_Restore.l0 k l1 (⟨#[]⟩ : ByteArray) l0_1 (l0_1.length : Int) 0) else (some ((⟨#[]⟩ : ByteArray), t835)))) = some (r1, r2) := h
 clear h
 replace H := Option.bind_eq_some_iff.mp H
 obtain ⟨t835, A30, H⟩ := H
 replace H : (if t835 = 0 then (storagebarterref08_Restore.l0 k l1 (⟨#[]⟩ : ByteArray) l0_1 (l0_1.length : Int) 0) else (some ((⟨#[]⟩ : ByteArray), t835))) = some (r1, r2) := H
 have A3 := Aside0.mk A30
 clear A30
 by_cases c4 : t835 = 0
 ·rw [if_pos c4] at H
  have c4b0 : (t835 == 0) = true := beq_iff_eq.mpr c4
  have c4b1 : (t835 != 0) = false := bne_eq_false_iff_eq.mpr c4
  clear c4
  have H' := Aside0.mk H
  clear H
  go_enter Try.func53, Try.ntmps53
  go_wp2_with (first | ((with_reducible refine gate_dst (N := 2) rfl ?_); refine box_event ?hg (N := 2) ?hd (cs := #[.int .i64 a0_0, .slice A0_1 l0_1.length c0_1]) (t := 32) ?hr ?_; (case hd => rfl); (case hg => rfl); (case hr => first | (go_simp; done) | (go_simp; rfl)); intro gb834 hg w5 hbox hb; have n0_ := Aside0.mk (below_step (by repeat (first | (with_reducible first | exact HB.out | apply below_alloc | apply pw_below_drewN | apply below_drew1) | exact HB.out)) hb); have n1_ := Aside0.mk (hbox); have n2_ := Aside0.mk ((by rw [hg]; exact (below_size (by repeat (first | (with_reducible first | exact HB.out | apply below_alloc | apply pw_below_drewN | apply below_drew1) | exact HB.out))) : w.heap.size ≤ gb834)); have n3_ := Aside0.mk ((by rw [hg]; exact (below_size (by repeat (first | (with_reducible first | exact HB.out | apply below_alloc | apply pw_below_drewN | apply below_drew1) | exact HB.out))) : w.heap.size ≤ gb834)); clear HB; have HB := n0_; have BK834 := n1_; have GW834 := n2_; have GE834 := n3_; clear n0_ n1_ n2_ n3_; clear hb hbox hg; have hcz6_0 : w5.cell? ⟨gb834, 0, none⟩ = some (.int .i64 a0_0) := (blk_cell BK834.out 0).trans rfl; have hcz6_1 : w5.cell? ⟨gb834, 1, none⟩ = some (.slice A0_1 l0_1.length c0_1) := (blk_cell BK834.out 1).trans rfl; have hfz6_0 := blk_frozen BK834.out 0; have hfz6_1 := blk_frozen BK834.out 1) | ((with_reducible refine gate_callee (f := 57) rfl ?_); refine goesL_ (some 15) rfl rfl Try.func57 (by kernel_rfl) rfl #[.agg #[.int .i64 a0_0, .slice A0_1 l0_1.length c0_1]] rfl (by (try simp only [List.map_toArray, List.map_cons, List.map_nil]); first | done | rfl | (simp only [List.length_drop, List.length_take]; rfl)) ?_; (with_reducible refine (storagebarterref08_Check.calls k a0_0 _ _ l0_1 t835 _ ?side1 ?side2 A3.out).mono ?_); (case side1 => repeat (first | exact (Kd.C_below HR0_1.out HB.out) | (with_reducible refine Kd.C_alloc ?_ _) | (with_reducible refine Kd.C_drewN ?_ _) | (with_reducible refine Kd.C_drew ?_))); (case side2 => exact HC0_1.out); rintro e w7 ⟨rfl, hb⟩; refine ⟨_, rfl, ?_⟩; have n0_ := Aside0.mk (blk_below (g := gb834) (o := .cells #[.int .i64 a0_0, .slice A0_1 l0_1.length c0_1] 32 (0, 0)) (by (with_reducible repeat (first | refine blk_drewN ?_ _ | refine blk_drew ?_ | refine blk_alloc ?_ _)); exact BK834.out) hb); have n1_ := Aside0.mk (below_step (by repeat (first | (with_reducible first | exact HB.out | apply below_alloc | apply pw_below_drewN | apply below_drew1 | refine below_set ?_ GE834.out) | exact HB.out)) hb); clear BK834; clear HB; have BK834 := n0_; have HB := n1_; clear n0_ n1_; (try clear hb); (try clear hb2); (try clear hk); (try clear hi); have hcz8_0 : w7.cell? ⟨gb834, 0, none⟩ = some (.int .i64 a0_0) := (blk_cell BK834.out 0).trans rfl; have hcz8_1 : w7.cell? ⟨gb834, 1, none⟩ = some (.slice A0_1 l0_1.length c0_1) := (blk_cell BK834.out 1).trans rfl; have hfz8_0 := blk_frozen BK834.out 0; have hfz8_1 := blk_frozen BK834.out 1))
  go_loopg [7, 22] k (fun kq v7 v22 w' => ∃ (x7_1 : ByteArray) (x22_1 : Int), v7 = .string x7_1 ∧ v22 = .int .i64 x22_1 ∧ Aside0 (storagebarterref08_Restore.l0 kq l1 x7_1 l0_1 (l0_1.length : Int) x22_1 = some (r1, r2)) ∧ Aside0 (kq ≤ k) ∧ Aside0 (w'.heap[gb834]? = some (.cells #[.int .i64 a0_0, (.slice A0_1 l0_1.length c0_1)] 32 (0, 0))) ∧ Aside0 (Below w.heap.size w w'))
  case atStart => exact ⟨((⟨#[]⟩ : ByteArray)), (0), (by first | rfl | (simp; done) | (simp [*]; done)), (by first | rfl | (simp; done) | (simp [*]; done)), H', ⟨Nat.le_refl _⟩, ⟨by (with_reducible repeat (first | refine blk_drewN ?_ _ | refine blk_drew ?_ | refine blk_alloc ?_ _)); exact BK834.out⟩, ⟨by repeat (first | (with_reducible first | exact HB.out | apply below_alloc | apply pw_below_drewN | apply below_drew1 | refine below_set ?_ GE834.out) | exact HB.out)⟩⟩
  case round =>
   clear H'
   try clear c1
   try clear p2
   try clear c4
   try clear c4b0
   try clear c4b1
   try clear c5
   try clear hcz6_0
   try clear hcz6_1
   try clear hcz8_0
   try clear hcz8_1
   try clear hfz6_0
   try clear hfz6_1
   try clear hfz8_0
   try clear hfz8_1
   obtain ⟨x7_1, x22_1, rfl, rfl, HA, HK1, BK834, HB⟩ := hrel
   cases gk with
   | zero => exact absurd HA.out (by simp [storagebarterref08_Restore.l0])
   | succ k1 =>
    have H := HA.out
    clear HA
    simp only [storagebarterref08_Restore.l0] at H
    by_cases c9 : x22_1 < (l0_1.length : Int)
    ·rw [if_pos c9] at H
     have c9b0 : decide (x22_1 < (l0_1.length : Int)) = true := decide_eq_true c9
     clear c9
     by_cases c10 : 0 ≤ x22_1
     ·rw [if_pos c10] at H
      have c10b0 : decide (0 ≤ x22_1) = true := decide_eq_true c10
      clear c10
      by_cases c11 : x22_1 < (l0_1.length : Int)
      ·rw [if_pos c11] at H
       have c11b0 : decide (x22_1 < (l0_1.length : Int)) = true := decide_eq_true c11
       clear c11
       have H' := Aside0.mk H
       clear H
       have p836 : 0 ≤ (x22_1 : Int) := of_decide_eq_true (by first | (with_reducible assumption) | assumption)
       have q836 : x22_1 < (l0_1.length : Int) := of_decide_eq_true (by first | (with_reducible assumption) | assumption)
       obtain ⟨ad836, e836, hx836_0, hx836_1⟩ := at_T78 HR0_1.out x22_1 p836 q836
       cases e836
       replace hx836_0 := (HB.out.cell (World.block_lt_of_cell? w _ hx836_0)).trans hx836_0
       replace hx836_1 := (HB.out.cell (World.block_lt_of_cell? w _ hx836_1)).trans hx836_1
       replace p836 := eq_true p836
       replace q836 := eq_true q836
       go_wp2_with (first | ((with_reducible refine gate_dst (N := 9) rfl ?_); refine box_event ?hg (N := 9) ?hd (cs := #[.int .i64 0, .int .i64 0]) (t := 78) ?hr ?_; (case hd => rfl); (case hg => rfl); (case hr => first | (go_simp; done) | (go_simp; rfl)); intro gb837 hg w12 hbox hb; have n0_ := Aside0.mk (blk_below (g := gb834) (o := .cells #[.int .i64 a0_0, .slice (some ad836) l0_1.length c0_1] 32 (0, 0)) (by (with_reducible repeat (first | refine blk_drewN ?_ _ | refine blk_drew ?_ | refine blk_alloc ?_ _)); exact BK834.out) hb); have n1_ := Aside0.mk (below_step (by repeat (first | (with_reducible first | exact HB.out | apply below_alloc | apply pw_below_drewN | apply below_drew1 | refine below_set ?_ GE834.out) | exact HB.out)) hb); have n2_ := Aside0.mk (hbox); have n3_ := Aside0.mk ((by rw [hg]; exact (below_size (by repeat (first | (with_reducible first | exact HB.out | apply below_alloc | apply pw_below_drewN | apply below_drew1 | refine below_set ?_ GE834.out) | exact HB.out))) : w.heap.size ≤ gb837)); have n4_ := Aside0.mk ((by rw [hg]; exact (below_size (by repeat (first | (with_reducible first | exact HB.out | apply below_alloc | apply pw_below_drewN | apply below_drew1 | refine below_set ?_ GE834.out) | exact HB.out))) : w.heap.size ≤ gb837)); have n5_ := Aside0.mk ((by rw [hg]; exact Nat.ne_of_lt (blk_lt (g := gb834) (o := .cells #[.int .i64 a0_0, .slice (some ad836) l0_1.length c0_1] 32 (0, 0)) (by (with_reducible repeat (first | refine blk_drewN ?_ _ | refine blk_drew ?_ | refine blk_alloc ?_ _)); exact BK834.out)) : gb834 ≠ gb837)); have n6_ := Aside0.mk ((by rw [hg]; exact Nat.ne_of_gt (blk_lt (g := gb834) (o := .cells #[.int .i64 a0_0, .slice (some ad836) l0_1.length c0_1] 32 (0, 0)) (by (with_reducible repeat (first | refine blk_drewN ?_ _ | refine blk_drew ?_ | refine blk_alloc ?_ _)); exact BK834.out)) : gb837 ≠ gb834)); clear BK834; clear HB; have BK834 := n0_; have HB := n1_; have BK837 := n2_; have GW837 := n3_; have GE837 := n4_; have NB834_837 := n5_; have NB837_834 := n6_; clear n0_ n1_ n2_ n3_ n4_ n5_ n6_; clear hb hbox hg; have hnb13 := NB837_834.out; have hnc13 := NB834_837.out; have hcz14_0 : w12.cell? ⟨gb837, 0, none⟩ = some (.int .i64 0) := (blk_cell BK837.out 0).trans rfl; have hcz14_1 : w12.cell? ⟨gb837, 1, none⟩ = some (.int .i64 0) := (blk_cell BK837.out 1).trans rfl; have hfz14_0 := blk_frozen BK837.out 0; have hfz14_1 := blk_frozen BK837.out 1))
       go_loopg [10, 11, 28] k1 (fun kq v10 v11 v28 w' => ∃ (x10_2 : Bool) (x11_2 : ByteArray) (x28_2 : Int), v10 = .bool x10_2 ∧ v11 = .string x11_2 ∧ v28 = .int .i64 x28_2 ∧ Aside0 (storagebarterref08_Restore.l1 kq l1 x7_1 x10_2 x11_2 l0_1 (l0_1.length : Int) x22_1 l1 (l1.length : Int) x28_2 ((rd_T78 l0_1 x22_1).f0) ((rd_T78 l0_1 x22_1).f1) = some (r1, r2)) ∧ Aside0 (kq ≤ k1) ∧ Aside0 (w'.heap[gb834]? = some (.cells #[.int .i64 a0_0, (.slice (some ad836) l0_1.length c0_1)] 32 (0, 0))) ∧ Aside0 (w'.heap[gb837]? = some (.cells #[.int .i64 ((rd_T78 l0_1 x22_1).f0), .int .i64 ((rd_T78 l0_1 x22_1).f1)] 78 (0, 0))) ∧ Aside0 (Below w.heap.size w w'))
       case atStart => exact ⟨(false), ((⟨#[]⟩ : ByteArray)), (0), (by first | rfl | (simp; done) | (simp [*]; done)), (by first | rfl | (simp; done) | (simp [*]; done)), (by first | rfl | (simp; done) | (simp [*]; done)), H', ⟨Nat.le_refl _⟩, ⟨by (with_reducible repeat (first | refine blk_drewN ?_ _ | refine blk_drew ?_ | refine blk_alloc ?_ _)); refine blk_far ?_ NB834_837.out _; (with_reducible repeat (first | refine blk_drewN ?_ _ | refine blk_drew ?_ | refine blk_alloc ?_ _)); refine blk_far ?_ NB834_837.out _; (with_reducible repeat (first | refine blk_drewN ?_ _ | refine blk_drew ?_ | refine blk_alloc ?_ _)); exact BK834.out⟩, ⟨by (with_reducible repeat (first | refine blk_drewN ?_ _ | refine blk_drew ?_ | refine blk_alloc ?_ _)); refine blk_put (cs := #[.int .i64 ((rd_T78 l0_1 x22_1).f0), .int .i64 0]) ?_ 1 _ rfl; (with_reducible repeat (first | refine blk_drewN ?_ _ | refine blk_drew ?_ | refine blk_alloc ?_ _)); refine blk_put (cs := #[.int .i64 0, .int .i64 0]) ?_ 0 _ rfl; (with_reducible repeat (first | refine blk_drewN ?_ _ | refine blk_drew ?_ | refine blk_alloc ?_ _)); exact BK837.out⟩, ⟨by repeat (first | (with_reducible first | exact HB.out | apply below_alloc | apply pw_below_drewN | apply below_drew1 | refine below_set ?_ GE834.out | refine below_set ?_ GE837.out) | exact HB.out)⟩⟩
       case round =>
        clear H'
        try clear c1
        try clear p2
        try clear c4
        try clear c4b0
        try clear c4b1
        try clear c5
        try clear p8
        try clear q8
        try clear hx8
        try clear c9
        try clear c9b0
        try clear c10
        try clear c10b0
        try clear c11
        try clear c11b0
        try clear c13
        try clear hcz14_0
        try clear hcz14_1
        try clear hcz6_0
        try clear hcz6_1
        try clear hcz8_0
        try clear hcz8_1
        try clear hfz14_0
        try clear hfz14_1
        try clear hfz6_0
        try clear hfz6_1
        try clear hfz8_0
        try clear hfz8_1
        try clear hx836_0
        try clear hx836_1
        try clear p2
        try clear p836
        try clear q836
        obtain ⟨x10_2, x11_2, x28_2, rfl, rfl, rfl, HA, HK2, BK834, BK837, HB⟩ := hrel
        cases gk with
        | zero => exact absurd HA.out (by simp [storagebarterref08_Restore.l1])
        | succ k2 =>
         have H := HA.out
         clear HA
         simp only [storagebarterref08_Restore.l1] at H
         by_cases c15 : x28_2 < (l1.length : Int)
         ·rw [if_pos c15] at H
          have c15b0 : decide (x28_2 < (l1.length : Int)) = true := decide_eq_true c15
          clear c15
          by_cases c16 : 0 ≤ x28_2
          ·rw [if_pos c16] at H
           have c16b0 : decide (0 ≤ x28_2) = true := decide_eq_true c16
           clear c16
           by_cases c17 : x28_2 < (l1.length : Int)
           ·rw [if_pos c17] at H
            have c17b0 : decide (x28_2 < (l1.length : Int)) = true := decide_eq_true c17
            clear c17
            have HC18 := Aside0.mk H
            clear H
            have p838 : 0 ≤ (x28_2 : Int) := of_decide_eq_true (by first | (with_reducible assumption) | assumption)
            have q838 : x28_2 < (l1.length : Int) := of_decide_eq_true (by first | (with_reducible assumption) | assumption)
            obtain ⟨ad838, e838, hx838_0⟩ := Kd.at_string HR1.out x28_2 p838 q838
            cases e838
            replace hx838_0 := (HB.out.cell (World.block_lt_of_cell? w _ hx838_0)).trans hx838_0
            replace p838 := eq_true p838
            replace q838 := eq_true q838
            go_upto_region 12 with (fail)
            go_cut [42] (fun v42 wc => ∃ (kq : Nat) (x42_17 : Bool), v42 = .bool x42_17 ∧ Aside0 (storagebarterref08_Restore.j2 kq l1 x7_1 x10_2 x11_2 (rdOf ByteArray.empty l1 x28_2) l0_1 (l0_1.length : Int) x22_1 l1 (l1.length : Int) x28_2 x42_17 ((rd_T78 l0_1 x22_1).f0) ((rd_T78 l0_1 x22_1).f1) = some (r1, r2)) ∧ Aside0 (kq ≤ k2) ∧ Aside0 (wc.heap[gb834]? = some (.cells #[.int .i64 a0_0, (.slice (some ad836) l0_1.length c0_1)] 32 (0, 0))) ∧ Aside0 (wc.heap[gb837]? = some (.cells #[.int .i64 ((rd_T78 l0_1 x22_1).f0), .int .i64 ((rd_T78 l0_1 x22_1).f1)] 78 (0, 0))) ∧ Aside0 (Below w.heap.size w wc))
            case first =>
             have H := HC18.out
             clear HC18
             by_cases c19 : ((rdOf ByteArray.empty l1 x28_2).size : Int) = ((rd_T78 l0_1 x22_1).f1)
             ·rw [if_pos c19] at H
              have c19b0 : (((rdOf ByteArray.empty l1 x28_2).size : Int) == ((rd_T78 l0_1 x22_1).f1)) = true := beq_iff_eq.mpr c19
              have c19b1 : (((rdOf ByteArray.empty l1 x28_2).size : Int) != ((rd_T78 l0_1 x22_1).f1)) = false := bne_eq_false_iff_eq.mpr c19
              clear c19
              (first | rw [c19b0] | (simp only [i64_w, i32_w]; rw [c19b0]) | skip)
              replace H := Option.bind_eq_some_iff.mp H
              obtain ⟨⟨t839, t840⟩, A200, H⟩ := H
              replace H : (storagebarterref08_Restore.j2 k2 l1 x7_1 x10_2 x11_2 (rdOf ByteArray.empty l1 x28_2) l0_1 (l0_1.length : Int) x22_1 l1 (l1.length : Int) x28_2 (!(t839 == ((rd_T78 l0_1 x22_1).f0)) || (!(t840 == ((rd_T78 l0_1 x22_1).f1)))) ((rd_T78 l0_1 x22_1).f0) ((rd_T78 l0_1 x22_1).f1)) = some (r1, r2) := H
              have A20 := Aside0.mk A200
              clear A200
              have H' := Aside0.mk H
              clear H
              try go_wp2
              have n0_ := Aside0.mk (blk_drew BK834.out)
              have n1_ := Aside0.mk (blk_drew BK837.out)
              have n2_ := Aside0.mk (below_drew1 HB.out)
              clear BK834
              clear BK837
              clear HB
              have BK834 := n0_
              have BK837 := n1_
              have HB := n2_
              clear n0_ n1_ n2_
              refine start_ (n := 11) (S := fun w' => w'.cell? ⟨gb837, 0, none⟩ = some (.int .i64 ((rd_T78 l0_1 x22_1).f0)) ∧ w'.cell? ⟨gb837, 1, none⟩ = some (.int .i64 ((rd_T78 l0_1 x22_1).f1))) (ds := []) #[false, false, false, false, false, false, false, false, false, false, false] (by kernel_rfl) rfl rfl ⟨(blk_cell BK837.out 0).trans rfl, (blk_cell BK837.out 1).trans rfl⟩ (fun hHeld => ?_); refine with_tabW storagebarterref08_Restore.tab12 storagebarterref08_Restore.bits12 (fun HT_ HW_ => ?_)
              generalize wr.drew = w21 at BK834 BK837 HB hHeld ⊢
              refine pu 0 32 (v := ?_) (a' := ?_) HT_ rfl rfl (by kernel_rfl) (fun _ _ _ h => h) (Or.inl ⟨by rfl, ?_⟩) ?_ ?_
              rotate_left; (intro w'; go_simp; with_reducible rfl); rotate_left; (simp only [Act.put, Sa, Sz, Ss, i64_w, i32_w]; rfl)
              refine pu 1 33 (v := ?_) (a' := ?_) HT_ rfl rfl (by kernel_rfl) (fun _ _ _ h => h) (Or.inl ⟨by rfl, ?_⟩) ?_ ?_
              rotate_left; (intro w'; go_simp; with_reducible rfl); rotate_left; (simp only [Act.put, Sa, Sz, Ss, i64_w, i32_w]; rfl)
              refine pu 2 34 (v := ?_) (a' := ?_) HT_ rfl rfl (by kernel_rfl) (fun _ _ _ h => h) (Or.inl ⟨by rfl, ?_⟩) ?_ ?_
              rotate_left; (intro w'; go_simp; with_reducible rfl); rotate_left; (simp only [Act.put, Sa, Sz, Ss, i64_w, i32_w]; rfl)
              refine tk 3 35 (v := ?_) (a' := ?_) HT_ HW_ rfl rfl (by kernel_rfl) (fun _ _ _ h => h) (Or.inl ⟨by rfl, ?_⟩) hHeld ?_ ?_
              rotate_left; (rintro w' ⟨s0, s1⟩; go_simp; with_reducible rfl); rotate_left; (simp only [Act.put, Sa, Sz, Ss, i64_w, i32_w]; rfl)
              refine pu 4 36 (v := ?_) (a' := ?_) HT_ rfl rfl (by kernel_rfl) (fun _ _ _ h => h) (Or.inl ⟨by rfl, ?_⟩) ?_ ?_
              rotate_left; (intro w'; go_simp; with_reducible rfl); rotate_left; (simp only [Act.put, Sa, Sz, Ss, i64_w, i32_w]; rfl)
              refine pu 5 37 (v := ?_) (a' := ?_) HT_ rfl rfl (by kernel_rfl) (fun _ _ _ h => h) (Or.inl ⟨by rfl, ?_⟩) ?_ ?_
              rotate_left; (intro w'; go_simp; with_reducible rfl); rotate_left; (simp only [Act.put, Sa, Sz, Ss, i64_w, i32_w]; rfl)
              refine pu 6 38 (v := ?_) (a' := ?_) HT_ rfl rfl (by kernel_rfl) (fun _ _ _ h => h) (Or.inl ⟨by rfl, ?_⟩) ?_ ?_
              rotate_left; (intro w'; go_simp; with_reducible rfl); rotate_left; (simp only [Act.put, Sa, Sz, Ss, i64_w, i32_w]; rfl)
              refine tk 8 40 (v := ?_) (a' := ?_) HT_ HW_ rfl rfl (by kernel_rfl) (fun _ _ _ h => h) (Or.inl ⟨by rfl, ?_⟩) hHeld ?_ ?_
              rotate_left; (rintro w' ⟨s0, s1⟩; go_simp; with_reducible rfl); rotate_left; (simp only [Act.put, Sa, Sz, Ss, i64_w, i32_w]; rfl)
              refine one_ (i := 7) (N := some 39) #[true, true, true, true, true, true, true, true, true, false, false] rfl rfl (one_of HT_.out (by kernel_rfl)) (by decide) (fun K hK => ?_)
              refine goes_ Try.func87 (by kernel_rfl) rfl #[.string (rdOf ByteArray.empty l1 x28_2)] (by rfl) rfl rfl (by (try simp only [List.map_toArray, List.map_cons, List.map_nil]); first | done | rfl | (simp only [List.length_drop, List.length_take]; rfl)) ?_
              with_reducible refine (storagebarterref08_Name.calls k2 (rdOf ByteArray.empty l1 x28_2) t839 t840 _ A20.out).mono ?_
              rintro e w22 ⟨rfl, hb⟩
              refine ⟨_, rfl, ?_⟩
              have n0_ := Aside0.mk (blk_below (g := gb834) (o := .cells #[.int .i64 a0_0, .slice (some ad836) l0_1.length c0_1] 32 (0, 0)) (by (with_reducible repeat (first | refine blk_drewN ?_ _ | refine blk_drew ?_ | refine blk_alloc ?_ _)); exact BK834.out) hb)
              have n1_ := Aside0.mk (blk_below (g := gb837) (o := .cells #[.int .i64 ((rd_T78 l0_1 x22_1).f0), .int .i64 ((rd_T78 l0_1 x22_1).f1)] 78 (0, 0)) (by (with_reducible repeat (first | refine blk_drewN ?_ _ | refine blk_drew ?_ | refine blk_alloc ?_ _)); exact BK837.out) hb)
              have n2_ := Aside0.mk (below_step (by repeat (first | (with_reducible first | exact HB.out | apply below_alloc | apply pw_below_drewN | apply below_drew1 | refine below_set ?_ GE834.out | refine below_set ?_ GE837.out) | exact HB.out)) hb)
              clear BK834
              clear BK837
              clear HB
              have BK834 := n0_
              have BK837 := n1_
              have HB := n2_
              clear n0_ n1_ n2_
              (try clear hb)
              (try clear hb2)
              (try clear hk)
              (try clear hi)
              refine hK.out _ _ ⟨(blk_cell BK837.out 0).trans rfl, (blk_cell BK837.out 1).trans rfl⟩ (fun hHeld => ?_)
              clear hK K
              refine norm_ (a' := ?_) ?_ ?_
              rotate_left
              ·show Act.put _ (some 39) _ = _
               simp only [Act.put, Sa, Sz, Ss, i64_w, i32_w]
               rfl
              refine pu 9 41 (v := ?_) (a' := ?_) HT_ rfl rfl (by kernel_rfl) (fun _ _ _ h => h) (Or.inl ⟨by rfl, ?_⟩) ?_ ?_
              rotate_left; (intro w'; go_simp; with_reducible rfl); rotate_left; (simp only [Act.put, Sa, Sz, Ss, i64_w, i32_w]; rfl)
              refine pu 10 42 (v := ?_) (a' := ?_) HT_ rfl rfl (by kernel_rfl) (fun _ _ _ h => h) (Or.inl ⟨by rfl, ?_⟩) ?_ ?_
              rotate_left; (intro w'; go_simp; with_reducible rfl); rotate_left; (simp only [Act.put, Sa, Sz, Ss, i64_w, i32_w]; rfl)
              refine done_ (done_of HT_.out (by kernel_rfl)) ?_
              try go_wp2
              go_meet
              case rel => exact ⟨_, ((!(t839 == ((rd_T78 l0_1 x22_1).f0)) || (!(t840 == ((rd_T78 l0_1 x22_1).f1))))), (by first | rfl | (simp; done) | (simp [*]; done)), H', ⟨by have := HK1.out; have := HK2.out; first | omega | exact Nat.le_refl _⟩, ⟨by (with_reducible repeat (first | refine blk_drewN ?_ _ | refine blk_drew ?_ | refine blk_alloc ?_ _)); exact BK834.out⟩, ⟨by (with_reducible repeat (first | refine blk_drewN ?_ _ | refine blk_drew ?_ | refine blk_alloc ?_ _)); exact BK837.out⟩, ⟨by repeat (first | (with_reducible first | exact HB.out | apply below_alloc | apply pw_below_drewN | apply below_drew1 | refine below_set ?_ GE834.out | refine below_set ?_ GE837.out) | exact HB.out)⟩⟩
             ·rw [if_neg c19] at H
              have c19b0 : (((rdOf ByteArray.empty l1 x28_2).size : Int) == ((rd_T78 l0_1 x22_1).f1)) = false := beq_eq_false_iff_ne.mpr c19
              have c19b1 : (((rdOf ByteArray.empty l1 x28_2).size : Int) != ((rd_T78 l0_1 x22_1).f1)) = true := bne_iff_ne.mpr c19
              (first | rw [c19b0] | (simp only [i64_w, i32_w]; rw [c19b0]) | skip)
              have H' := Aside0.mk H
              clear H
              try go_wp2
              have n0_ := Aside0.mk (blk_drew BK834.out)
              have n1_ := Aside0.mk (blk_drew BK837.out)
              have n2_ := Aside0.mk (below_drew1 HB.out)
              clear BK834
              clear BK837
              clear HB
              have BK834 := n0_
              have BK837 := n1_
              have HB := n2_
              clear n0_ n1_ n2_
              refine start_ (n := 11) (S := fun w' => w'.cell? ⟨gb837, 0, none⟩ = some (.int .i64 ((rd_T78 l0_1 x22_1).f0)) ∧ w'.cell? ⟨gb837, 1, none⟩ = some (.int .i64 ((rd_T78 l0_1 x22_1).f1))) (ds := []) #[false, false, false, false, false, false, false, false, false, false, false] (by kernel_rfl) rfl rfl ⟨(blk_cell BK837.out 0).trans rfl, (blk_cell BK837.out 1).trans rfl⟩ (fun hHeld => ?_); refine with_tabW storagebarterref08_Restore.tab12 storagebarterref08_Restore.bits12 (fun HT_ HW_ => ?_)
              generalize wr.drew = w23 at BK834 BK837 HB hHeld ⊢
              refine pu 0 32 (v := ?_) (a' := ?_) HT_ rfl rfl (by kernel_rfl) (fun _ _ _ h => h) (Or.inl ⟨by rfl, ?_⟩) ?_ ?_
              rotate_left; (intro w'; go_simp; with_reducible rfl); rotate_left; (simp only [Act.put, Sa, Sz, Ss, i64_w, i32_w]; rfl)
              refine pu 1 33 (v := ?_) (a' := ?_) HT_ rfl rfl (by kernel_rfl) (fun _ _ _ h => h) (Or.inl ⟨by rfl, ?_⟩) ?_ ?_
              rotate_left; (intro w'; go_simp; with_reducible rfl); rotate_left; (simp only [Act.put, Sa, Sz, Ss, i64_w, i32_w]; rfl)
              refine pu 2 34 (v := ?_) (a' := ?_) HT_ rfl rfl (by kernel_rfl) (fun _ _ _ h => h) (Or.inl ⟨by rfl, ?_⟩) ?_ ?_
              rotate_left; (intro w'; go_simp; with_reducible rfl); rotate_left; (simp only [Act.put, Sa, Sz, Ss, i64_w, i32_w]; rfl)
              refine tk 3 35 (v := ?_) (a' := ?_) HT_ HW_ rfl rfl (by kernel_rfl) (fun _ _ _ h => h) (Or.inl ⟨by rfl, ?_⟩) hHeld ?_ ?_
              rotate_left; (rintro w' ⟨s0, s1⟩; go_simp; with_reducible rfl); rotate_left; (simp only [Act.put, Sa, Sz, Ss, i64_w, i32_w]; rfl)
              refine pu 4 36 (v := ?_) (a' := ?_) HT_ rfl rfl (by kernel_rfl) (fun _ _ _ h => h) (Or.inl ⟨by rfl, ?_⟩) ?_ ?_
              rotate_left; (intro w'; go_simp; with_reducible rfl); rotate_left; (simp only [Act.put, Sa, Sz, Ss, i64_w, i32_w]; rfl)
              refine pu 5 37 (v := ?_) (a' := ?_) HT_ rfl rfl (by kernel_rfl) (fun _ _ _ h => h) (Or.inl ⟨by rfl, ?_⟩) ?_ ?_
              rotate_left; (intro w'; go_simp; with_reducible rfl); rotate_left; (simp only [Act.put, Sa, Sz, Ss, i64_w, i32_w]; rfl)
              refine pu 6 38 (v := undef) (a' := ?_) HT_ rfl rfl (by kernel_rfl) (fun _ _ _ h => h) (Or.inr ⟨by rfl, rfl⟩) ?_ ?_
              rotate_left; (simp only [Act.put, Sa, Sz, Ss, i64_w, i32_w]; rfl)
              refine pu 7 39 (v := undef) (a' := ?_) HT_ rfl rfl (by kernel_rfl) (fun _ _ _ h => h) (Or.inr ⟨by rfl, rfl⟩) ?_ ?_
              rotate_left; (simp only [Act.put, Sa, Sz, Ss, i64_w, i32_w]; rfl)
              refine pu 8 40 (v := undef) (a' := ?_) HT_ rfl rfl (by kernel_rfl) (fun _ _ _ h => h) (Or.inr ⟨by rfl, rfl⟩) ?_ ?_
              rotate_left; (simp only [Act.put, Sa, Sz, Ss, i64_w, i32_w]; rfl)
              refine pu 9 41 (v := undef) (a' := ?_) HT_ rfl rfl (by kernel_rfl) (fun _ _ _ h => h) (Or.inr ⟨by rfl, rfl⟩) ?_ ?_
              rotate_left; (simp only [Act.put, Sa, Sz, Ss, i64_w, i32_w]; rfl)
              refine pu 10 42 (v := ?_) (a' := ?_) HT_ rfl rfl (by kernel_rfl) (fun _ _ _ h => h) (Or.inl ⟨by rfl, ?_⟩) ?_ ?_
              rotate_left; (intro w'; go_simp; with_reducible rfl); rotate_left; (simp only [Act.put, Sa, Sz, Ss, i64_w, i32_w]; rfl)
              refine done_ (done_of HT_.out (by kernel_rfl)) ?_
              try go_wp2
              go_meet
              case rel => exact ⟨_, (true), (by first | rfl | (simp; done) | (simp [*]; done)), H', ⟨by have := HK1.out; have := HK2.out; first | omega | exact Nat.le_refl _⟩, ⟨by (with_reducible repeat (first | refine blk_drewN ?_ _ | refine blk_drew ?_ | refine blk_alloc ?_ _)); exact BK834.out⟩, ⟨by (with_reducible repeat (first | refine blk_drewN ?_ _ | refine blk_drew ?_ | refine blk_alloc ?_ _)); exact BK837.out⟩, ⟨by repeat (first | (with_reducible first | exact HB.out | apply below_alloc | apply pw_below_drewN | apply below_drew1 | refine below_set ?_ GE834.out | refine below_set ?_ GE837.out) | exact HB.out)⟩⟩
            case rest =>
             clear HC18
             try clear c1
             try clear p2
             try clear c4
             try clear c4b0
             try clear c4b1
             try clear c5
             try clear c8
             try clear p8
             try clear q8
             try clear hx8
             try clear c9
             try clear c9b0
             try clear c10
             try clear c10b0
             try clear c11
             try clear c11b0
             try clear c13
             try clear c15
             try clear c15b0
             try clear c16
             try clear c16b0
             try clear c17
             try clear c17b0
             try clear c19
             try clear c19b0
             try clear c19b1
             try clear hcz14_0
             try clear hcz14_1
             try clear hcz6_0
             try clear hcz6_1
             try clear hcz8_0
             try clear hcz8_1
             try clear hfz14_0
             try clear hfz14_1
             try clear hfz6_0
             try clear hfz6_1
             try clear hfz8_0
             try clear hfz8_1
             try clear hx836_0
             try clear hx836_1
             try clear hx838_0
             try clear p2
             try clear p8
             try clear p836
             try clear p838
             try clear q8
             try clear q836
             try clear q838
             obtain ⟨kq, x42_17, rfl, HA, HJ17, BK834, BK837, HB⟩ := hcut
             cases kq with
             | zero => exact absurd HA.out (by simp [storagebarterref08_Restore.j2])
             | succ kj17 =>
              have H := HA.out
              clear HA
              simp only [storagebarterref08_Restore.j2] at H
              by_cases c24 : x42_17 = true
              ·subst c24
               have H1 : (storagebarterref08_Restore.l1 kj17 l1 x7_1 x10_2 x11_2 l0_1 (l0_1.length : Int) x22_1 l1 (l1.length : Int) (wrap64 (x28_2 + 1)) ((rd_T78 l0_1 x22_1).f0) ((rd_T78 l0_1 x22_1).f1)) = some (r1, r2) := by rw [if_pos rfl] at H; exact H
               clear H
               have H := H1
               clear H1
               have H' := Aside0.mk H
               clear H
               go_wp2
               go_roundg kj17
               case measure => have := HK1.out; have := HK2.out; have := HJ17.out; omega
               case rel => exact ⟨(x10_2), (x11_2), (wrap64 (x28_2 + 1)), (by first | rfl | (simp; done) | (simp [*]; done)), (by first | rfl | (simp; done) | (simp [*]; done)), (by first | rfl | (simp; done) | (simp [*]; done)), H', ⟨by have := HK1.out; have := HK2.out; have := HJ17.out; omega⟩, ⟨by (with_reducible repeat (first | refine blk_drewN ?_ _ | refine blk_drew ?_ | refine blk_alloc ?_ _)); exact BK834.out⟩, ⟨by (with_reducible repeat (first | refine blk_drewN ?_ _ | refine blk_drew ?_ | refine blk_alloc ?_ _)); exact BK837.out⟩, ⟨by repeat (first | (with_reducible first | exact HB.out | apply below_alloc | apply pw_below_drewN | apply below_drew1 | refine below_set ?_ GE834.out | refine below_set ?_ GE837.out) | exact HB.out)⟩⟩
              ·replace c24 := Bool.eq_false_iff.mpr c24
               subst c24
               have H1 : (if x10_2 = true then (if (rdOf ByteArray.empty l1 x28_2).toList = x11_2.toList then (storagebarterref08_Restore.l1 kj17 l1 x7_1 true (rdOf ByteArray.empty l1 x28_2) l0_1 (l0_1.length : Int) x22_1 l1 (l1.length : Int) (wrap64 (x28_2 + 1)) ((rd_T78 l0_1 x22_1).f0) ((rd_T78 l0_1 x22_1).f1)) else (some ((⟨#[]⟩ : ByteArray), 8))) else (storagebarterref08_Restore.l1 kj17 l1 x7_1 true (rdOf ByteArray.empty l1 x28_2) l0_1 (l0_1.length : Int) x22_1 l1 (l1.length : Int) (wrap64 (x28_2 + 1)) ((rd_T78 l0_1 x22_1).f0) ((rd_T78 l0_1 x22_1).f1))) = some (r1, r2) := by rw [if_neg (show ¬ (false = true) by decide)] at H; exact H
               clear H
               have H := H1
               clear H1
               by_cases c25 : x10_2 = true
               ·subst c25
                have H1 : (if (rdOf ByteArray.empty l1 x28_2).toList = x11_2.toList then (storagebarterref08_Restore.l1 kj17 l1 x7_1 true (rdOf ByteArray.empty l1 x28_2) l0_1 (l0_1.length : Int) x22_1 l1 (l1.length : Int) (wrap64 (x28_2 + 1)) ((rd_T78 l0_1 x22_1).f0) ((rd_T78 l0_1 x22_1).f1)) else (some ((⟨#[]⟩ : ByteArray), 8))) = some (r1, r2) := by rw [if_pos rfl] at H; exact H
                clear H
                have H := H1
                clear H1
                by_cases c26 : (rdOf ByteArray.empty l1 x28_2).toList = x11_2.toList
                ·rw [if_pos c26] at H
                 have c26b0 : ((rdOf ByteArray.empty l1 x28_2).toList == x11_2.toList) = true := beq_iff_eq.mpr c26
                 have c26b1 : ((rdOf ByteArray.empty l1 x28_2).toList != x11_2.toList) = false := bne_eq_false_iff_eq.mpr c26
                 clear c26
                 have H' := Aside0.mk H
                 clear H
                 go_wp2
                 go_roundg kj17
                 case measure => have := HK1.out; have := HK2.out; have := HJ17.out; omega
                 case rel => exact ⟨(true), ((rdOf ByteArray.empty l1 x28_2)), (wrap64 (x28_2 + 1)), (by first | rfl | (simp; done) | (simp [*]; done)), (by first | rfl | (simp; done) | (simp [*]; done)), (by first | rfl | (simp; done) | (simp [*]; done)), H', ⟨by have := HK1.out; have := HK2.out; have := HJ17.out; omega⟩, ⟨by (with_reducible repeat (first | refine blk_drewN ?_ _ | refine blk_drew ?_ | refine blk_alloc ?_ _)); exact BK834.out⟩, ⟨by (with_reducible repeat (first | refine blk_drewN ?_ _ | refine blk_drew ?_ | refine blk_alloc ?_ _)); exact BK837.out⟩, ⟨by repeat (first | (with_reducible first | exact HB.out | apply below_alloc | apply pw_below_drewN | apply below_drew1 | refine below_set ?_ GE834.out | refine below_set ?_ GE837.out) | exact HB.out)⟩⟩
                ·rw [if_neg c26] at H
                 have c26b0 : ((rdOf ByteArray.empty l1 x28_2).toList == x11_2.toList) = false := beq_eq_false_iff_ne.mpr c26
                 have c26b1 : ((rdOf ByteArray.empty l1 x28_2).toList != x11_2.toList) = true := bne_iff_ne.mpr c26
                 simp only [Option.some.injEq, Prod.mk.injEq] at H
                 obtain ⟨rfl, rfl⟩ := H
                 go_wp2
                 go_ret2
                 exact ⟨by first | rfl | (simp [errW_none, errW_some] <;> rfl) | (simp [*, errW_none, errW_some] <;> rfl), by repeat (first | (with_reducible first | exact HB.out | apply below_alloc | apply pw_below_drewN | apply below_drew1 | refine below_set ?_ GE834.out | refine below_set ?_ GE837.out) | exact HB.out)⟩
               ·replace c25 := Bool.eq_false_iff.mpr c25
                subst c25
                have H1 : (storagebarterref08_Restore.l1 kj17 l1 x7_1 true (rdOf ByteArray.empty l1 x28_2) l0_1 (l0_1.length : Int) x22_1 l1 (l1.length : Int) (wrap64 (x28_2 + 1)) ((rd_T78 l0_1 x22_1).f0) ((rd_T78 l0_1 x22_1).f1)) = some (r1, r2) := by rw [if_neg (show ¬ (false = true) by decide)] at H; exact H
                clear H
                have H := H1
                clear H1
                have H' := Aside0.mk H
                clear H
                go_wp2
                go_roundg kj17
                case measure => have := HK1.out; have := HK2.out; have := HJ17.out; omega
                case rel => exact ⟨(true), ((rdOf ByteArray.empty l1 x28_2)), (wrap64 (x28_2 + 1)), (by first | rfl | (simp; done) | (simp [*]; done)), (by first | rfl | (simp; done) | (simp [*]; done)), (by first | rfl | (simp; done) | (simp [*]; done)), H', ⟨by have := HK1.out; have := HK2.out; have := HJ17.out; omega⟩, ⟨by (with_reducible repeat (first | refine blk_drewN ?_ _ | refine blk_drew ?_ | refine blk_alloc ?_ _)); exact BK834.out⟩, ⟨by (with_reducible repeat (first | refine blk_drewN ?_ _ | refine blk_drew ?_ | refine blk_alloc ?_ _)); exact BK837.out⟩, ⟨by repeat (first | (with_reducible first | exact HB.out | apply below_alloc | apply pw_below_drewN | apply below_drew1 | refine below_set ?_ GE834.out | refine below_set ?_ GE837.out) | exact HB.out)⟩⟩
           ·rw [if_neg c17] at H
            exact absurd H (by simp)
          ·rw [if_neg c16] at H
           exact absurd H (by simp)
         ·rw [if_neg c15] at H
          have c15b0 : decide (x28_2 < (l1.length : Int)) = false := decide_eq_false c15
          clear c15
          by_cases c27 : x10_2 = true
          ·subst c27
           have H1 : (if x7_1.size + x11_2.size ≤ 9223372036854775807 then (storagebarterref08_Restore.l0 k2 l1 (x7_1 ++ x11_2) l0_1 (l0_1.length : Int) (wrap64 (x22_1 + 1))) else (none)) = some (r1, r2) := by rw [if_pos rfl] at H; exact H
           clear H
           have H := H1
           clear H1
           by_cases c28 : x7_1.size + x11_2.size ≤ 9223372036854775807
           ·rw [if_pos c28] at H
            have c28b0 := eq_true c28
            have c28b1 : decide (x7_1.size + x11_2.size ≤ 9223372036854775807) = true := decide_eq_true c28
            try have c28b2 : (9223372036854775807 < x7_1.size + x11_2.size) = False := eq_false (Nat.not_lt.2 c28)
            have H' := Aside0.mk H
            clear H
            go_wp2
            go_roundg k2
            case measure => have := HK1.out; have := HK2.out; omega
            case rel => exact ⟨(x7_1 ++ x11_2), (wrap64 (x22_1 + 1)), (by first | rfl | (simp; done) | (simp [*]; done)), (by first | rfl | (simp; done) | (simp [*]; done)), H', ⟨by have := HK1.out; have := HK2.out; omega⟩, ⟨by (with_reducible repeat (first | refine blk_drewN ?_ _ | refine blk_drew ?_ | refine blk_alloc ?_ _)); exact BK834.out⟩, ⟨by repeat (first | (with_reducible first | exact HB.out | apply below_alloc | apply pw_below_drewN | apply below_drew1 | refine below_set ?_ GE834.out | refine below_set ?_ GE837.out) | exact HB.out)⟩⟩
           ·rw [if_neg c28] at H
            exact absurd H (by simp)
          ·replace c27 := Bool.eq_false_iff.mpr c27
           subst c27
           have H1 : (some ((⟨#[]⟩ : ByteArray), 6)) = some (r1, r2) := by rw [if_neg (show ¬ (false = true) by decide)] at H; exact H
           clear H
           have H := H1
           clear H1
           simp only [Option.some.injEq, Prod.mk.injEq] at H
           obtain ⟨rfl, rfl⟩ := H
           go_wp2
           go_ret2
           exact ⟨by first | rfl | (simp [errW_none, errW_some] <;> rfl) | (simp [*, errW_none, errW_some] <;> rfl), by repeat (first | (with_reducible first | exact HB.out | apply below_alloc | apply pw_below_drewN | apply below_drew1 | refine below_set ?_ GE834.out | refine below_set ?_ GE837.out) | exact HB.out)⟩
      ·rw [if_neg c11] at H
       exact absurd H (by simp)
     ·rw [if_neg c10] at H
      exact absurd H (by simp)
    ·rw [if_neg c9] at H
     have c9b0 : decide (x22_1 < (l0_1.length : Int)) = false := decide_eq_false c9
     clear c9
     simp only [Option.some.injEq, Prod.mk.injEq] at H
     obtain ⟨rfl, rfl⟩ := H
     go_wp2
     go_ret2
     exact ⟨by first | rfl | (simp [errW_none, errW_some] <;> rfl) | (simp [*, errW_none, errW_some] <;> rfl), by repeat (first | (with_reducible first | exact HB.out | apply below_alloc | apply pw_below_drewN | apply below_drew1 | refine below_set ?_ GE834.out) | exact HB.out)⟩
 ·rw [if_neg c4] at H
  have c4b0 : (t835 == 0) = false := beq_eq_false_iff_ne.mpr c4
  have c4b1 : (t835 != 0) = true := bne_iff_ne.mpr c4
  simp only [Option.some.injEq, Prod.mk.injEq] at H
  obtain ⟨rfl, rfl⟩ := H
  go_enter Try.func53, Try.ntmps53
  go_wp2_with (first | ((with_reducible refine gate_dst (N := 2) rfl ?_); refine box_event ?hg (N := 2) ?hd (cs := #[.int .i64 a0_0, .slice A0_1 l0_1.length c0_1]) (t := 32) ?hr ?_; (case hd => rfl); (case hg => rfl); (case hr => first | (go_simp; done) | (go_simp; rfl)); intro gb834 hg w29 hbox hb; have n0_ := Aside0.mk (below_step (by repeat (first | (with_reducible first | exact HB.out | apply below_alloc | apply pw_below_drewN | apply below_drew1) | exact HB.out)) hb); have n1_ := Aside0.mk (hbox); have n2_ := Aside0.mk ((by rw [hg]; exact (below_size (by repeat (first | (with_reducible first | exact HB.out | apply below_alloc | apply pw_below_drewN | apply below_drew1) | exact HB.out))) : w.heap.size ≤ gb834)); have n3_ := Aside0.mk ((by rw [hg]; exact (below_size (by repeat (first | (with_reducible first | exact HB.out | apply below_alloc | apply pw_below_drewN | apply below_drew1) | exact HB.out))) : w.heap.size ≤ gb834)); clear HB; have HB := n0_; have BK834 := n1_; have GW834 := n2_; have GE834 := n3_; clear n0_ n1_ n2_ n3_; clear hb hbox hg; have hcz30_0 : w29.cell? ⟨gb834, 0, none⟩ = some (.int .i64 a0_0) := (blk_cell BK834.out 0).trans rfl; have hcz30_1 : w29.cell? ⟨gb834, 1, none⟩ = some (.slice A0_1 l0_1.length c0_1) := (blk_cell BK834.out 1).trans rfl; have hfz30_0 := blk_frozen BK834.out 0; have hfz30_1 := blk_frozen BK834.out 1) | ((with_reducible refine gate_callee (f := 57) rfl ?_); refine goesL_ (some 15) rfl rfl Try.func57 (by kernel_rfl) rfl #[.agg #[.int .i64 a0_0, .slice A0_1 l0_1.length c0_1]] rfl (by (try simp only [List.map_toArray, List.map_cons, List.map_nil]); first | done | rfl | (simp only [List.length_drop, List.length_take]; rfl)) ?_; (with_reducible refine (storagebarterref08_Check.calls k a0_0 _ _ l0_1 t835 _ ?side1 ?side2 A3.out).mono ?_); (case side1 => repeat (first | exact (Kd.C_below HR0_1.out HB.out) | (with_reducible refine Kd.C_alloc ?_ _) | (with_reducible refine Kd.C_drewN ?_ _) | (with_reducible refine Kd.C_drew ?_))); (case side2 => exact HC0_1.out); rintro e w31 ⟨rfl, hb⟩; refine ⟨_, rfl, ?_⟩; have n0_ := Aside0.mk (blk_below (g := gb834) (o := .cells #[.int .i64 a0_0, .slice A0_1 l0_1.length c0_1] 32 (0, 0)) (by (with_reducible repeat (first | refine blk_drewN ?_ _ | refine blk_drew ?_ | refine blk_alloc ?_ _)); exact BK834.out) hb); have n1_ := Aside0.mk (below_step (by repeat (first | (with_reducible first | exact HB.out | apply below_alloc | apply pw_below_drewN | apply below_drew1 | refine below_set ?_ GE834.out) | exact HB.out)) hb); clear BK834; clear HB; have BK834 := n0_; have HB := n1_; clear n0_ n1_; (try clear hb); (try clear hb2); (try clear hk); (try clear hi)))
  go_ret2
  exact ⟨by first | rfl | (simp [errW_none, errW_some] <;> rfl) | (simp [*, errW_none, errW_some] <;> rfl), by repeat (first | (with_reducible first | exact HB.out | apply below_alloc | apply pw_below_drewN | apply below_drew1 | refine below_set ?_ GE834.out) | exact HB.out)⟩
end Go.Proofs.Ytodhkbahjomfhaa.Q

namespace Go.Proofs.Ytodhkbahjomfhaa.Q
open Go.RowKit Go.Proofs.YtodhkbahjomfhaaW.PrintWords Go.Proofs.YtodhkbahjomfhaaW.PrintLast Go.Proofs.YtodhkbahjomfhaaW.PrintMore Go.Proofs.Ytodhkbahjomfhaa.Gput Go.Proofs.Ytodhkbahjomfhaa.Gputl
attribute [local go_sem] max2_int min2_int max_two min_two max_three min_three max_four min_four   -- for this text's walks alone
set_option linter.unusedVariables false
set_option linter.unusedSimpArgs false
noncomputable def storagebarterref08_Size.l0 : Nat → Int → List (S78) → Int → Int → Option (Int × Int)
 | 0, _, _, _, _ => none
 | k + 1, x5, x14, x15, x16 => if x16 < x15 then (if 0 ≤ x16 then (if x16 < (x14.length : Int) then (storagebarterref08_Size.l0 k (wrap64 (x5 + ((rd_T78 x14 x16).f1))) x14 x15 (wrap64 (x16 + 1))) else (none)) else (none)) else (some (x5, 0))
noncomputable def storagebarterref08_Size.f (k : Nat) (a0_0 : Int) (l0_1 : List (S78)) : Option (Int × Int) := (storagebarterref08_Check.f k a0_0 l0_1).bind fun t842 => (if t842 = 0 then (storagebarterref08_Size.l0 k 0 l0_1 (l0_1.length : Int) 0) else (some (0, t842)))
set_option maxHeartbeats 8000000 in
set_option maxRecDepth 100000 in
theorem storagebarterref08_Size.calls (k : Nat) (a0_0 : Int) (A0_1 : Option Addr) (c0_1 : Nat) (l0_1 : List (S78)) (r1 : Int) (r2 : Int) (w : World) (hr0_1 : Kd.C k78 w A0_1 l0_1.length l0_1) (hc0_1 : l0_1.length ≤ c0_1) (h : storagebarterref08_Size.f k a0_0 l0_1 = some (r1, r2)) :
 Calls Try.prog 54 #[.agg #[.int .i64 a0_0, .slice A0_1 l0_1.length c0_1]] w fun e w' => e = .returned (.tuple #[.int .i64 r1, .int .i64 r2]) ∧ Below w.heap.size w w' := by
 have hu32 := Try.underlying32
 have hu78 := Try.underlying78
 have HR0_1 := Aside0.mk hr0_1
 have HC0_1 := Aside0.mk hc0_1
 clear hr0_1 hc0_1
 have HB := Aside0.mk (Below.refl w.heap.size w)
 have H : ((storagebarterref08_Check.f k a0_0 l0_1).bind fun t842 => (if t842 = 0 then (storagebarterref08_Size.l0 k 0 l0_1 (l0_1.length : Int) 0) else (some (0, t842)))) = some (r1, r2) := h
 clear h
 replace H := Option.bind_eq_some_iff.mp H
 obtain ⟨t842, A20, H⟩ := H
 replace H : (if t842 = 0 then (storagebarterref08_Size.l0 k 0 l0_1 (l0_1.length : Int) 0) else (some (0, t842))) = some (r1, r2) := H
 have A2 := Aside0.mk A20
 clear A20
 by_cases c3 : t842 = 0
 ·rw [if_pos c3] at H
  have c3b0 : (t842 == 0) = true := beq_iff_eq.mpr c3
  have c3b1 : (t842 != 0) = false := bne_eq_false_iff_eq.mpr c3
  clear c3
  have H' := Aside0.mk H
  clear H
  go_enter Try.func54, Try.ntmps54
  go_wp2_with (first | ((with_reducible refine gate_dst (N := 1) rfl ?_); refine box_event ?hg (N := 1) ?hd (cs := #[.int .i64 a0_0, .slice A0_1 l0_1.length c0_1]) (t := 32) ?hr ?_; (case hd => rfl); (case hg => rfl); (case hr => first | (go_simp; done) | (go_simp; rfl)); intro gb841 hg w4 hbox hb; have n0_ := Aside0.mk (below_step (by repeat (first | (with_reducible first | exact HB.out | apply below_alloc | apply pw_below_drewN | apply below_drew1) | exact HB.out)) hb); have n1_ := Aside0.mk (hbox); have n2_ := Aside0.mk ((by rw [hg]; exact (below_size (by repeat (first | (with_reducible first | exact HB.out | apply below_alloc | apply pw_below_drewN | apply below_drew1) | exact HB.out))) : w.heap.size ≤ gb841)); have n3_ := Aside0.mk ((by rw [hg]; exact (below_size (by repeat (first | (with_reducible first | exact HB.out | apply below_alloc | apply pw_below_drewN | apply below_drew1) | exact HB.out))) : w.heap.size ≤ gb841)); clear HB; have HB := n0_; have BK841 := n1_; have GW841 := n2_; have GE841 := n3_; clear n0_ n1_ n2_ n3_; clear hb hbox hg; have hcz5_0 : w4.cell? ⟨gb841, 0, none⟩ = some (.int .i64 a0_0) := (blk_cell BK841.out 0).trans rfl; have hcz5_1 : w4.cell? ⟨gb841, 1, none⟩ = some (.slice A0_1 l0_1.length c0_1) := (blk_cell BK841.out 1).trans rfl; have hfz5_0 := blk_frozen BK841.out 0; have hfz5_1 := blk_frozen BK841.out 1) | ((with_reducible refine gate_callee (f := 57) rfl ?_); refine goesL_ (some 9) rfl rfl Try.func57 (by kernel_rfl) rfl #[.agg #[.int .i64 a0_0, .slice A0_1 l0_1.length c0_1]] rfl (by (try simp only [List.map_toArray, List.map_cons, List.map_nil]); first | done | rfl | (simp only [List.length_drop, List.length_take]; rfl)) ?_; (with_reducible refine (storagebarterref08_Check.calls k a0_0 _ _ l0_1 t842 _ ?side1 ?side2 A2.out).mono ?_); (case side1 => repeat (first | exact (Kd.C_below HR0_1.out HB.out) | (with_reducible refine Kd.C_alloc ?_ _) | (with_reducible refine Kd.C_drewN ?_ _) | (with_reducible refine Kd.C_drew ?_))); (case side2 => exact HC0_1.out); rintro e w6 ⟨rfl, hb⟩; refine ⟨_, rfl, ?_⟩; have n0_ := Aside0.mk (blk_below (g := gb841) (o := .cells #[.int .i64 a0_0, .slice A0_1 l0_1.length c0_1] 32 (0, 0)) (by (with_reducible repeat (first | refine blk_drewN ?_ _ | refine blk_drew ?_ | refine blk_alloc ?_ _)); exact BK841.out) hb); have n1_ := Aside0.mk (below_step (by repeat (first | (with_reducible first | exact HB.out | apply below_alloc | apply pw_below_drewN | apply below_drew1 | refine below_set ?_ GE841.out) | exact HB.out)) hb); clear BK841; clear HB; have BK841 := n0_; have HB := n1_; clear n0_ n1_; (try clear hb); (try clear hb2); (try clear hk); (try clear hi); have hcz7_0 : w6.cell? ⟨gb841, 0, none⟩ = some (.int .i64 a0_0) := (blk_cell BK841.out 0).trans rfl; have hcz7_1 : w6.cell? ⟨gb841, 1, none⟩ = some (.slice A0_1 l0_1.length c0_1) := (blk_cell BK841.out 1).trans rfl; have hfz7_0 := blk_frozen BK841.out 0; have hfz7_1 := blk_frozen BK841.out 1))
  go_loopg [5, 16] k (fun kq v5 v16 w' => ∃ (x5_1 : Int) (x16_1 : Int), v5 = .int .i64 x5_1 ∧ v16 = .int .i64 x16_1 ∧ Aside0 (storagebarterref08_Size.l0 kq x5_1 l0_1 (l0_1.length : Int) x16_1 = some (r1, r2)) ∧ Aside0 (kq ≤ k) ∧ Aside0 (w'.heap[gb841]? = some (.cells #[.int .i64 a0_0, (.slice A0_1 l0_1.length c0_1)] 32 (0, 0))) ∧ Aside0 (Below w.heap.size w w'))
  case atStart => exact ⟨(0), (0), (by first | rfl | (simp; done) | (simp [*]; done)), (by first | rfl | (simp; done) | (simp [*]; done)), H', ⟨Nat.le_refl _⟩, ⟨by (with_reducible repeat (first | refine blk_drewN ?_ _ | refine blk_drew ?_ | refine blk_alloc ?_ _)); exact BK841.out⟩, ⟨by repeat (first | (with_reducible first | exact HB.out | apply below_alloc | apply pw_below_drewN | apply below_drew1 | refine below_set ?_ GE841.out) | exact HB.out)⟩⟩
  case round =>
   clear H'
   try clear p2
   try clear c3
   try clear c3b0
   try clear c3b1
   try clear c5
   try clear hcz5_0
   try clear hcz5_1
   try clear hcz7_0
   try clear hcz7_1
   try clear hfz5_0
   try clear hfz5_1
   try clear hfz7_0
   try clear hfz7_1
   obtain ⟨x5_1, x16_1, rfl, rfl, HA, HK1, BK841, HB⟩ := hrel
   cases gk with
   | zero => exact absurd HA.out (by simp [storagebarterref08_Size.l0])
   | succ k1 =>
    have H := HA.out
    clear HA
    simp only [storagebarterref08_Size.l0] at H
    by_cases c8 : x16_1 < (l0_1.length : Int)
    ·rw [if_pos c8] at H
     have c8b0 : decide (x16_1 < (l0_1.length : Int)) = true := decide_eq_true c8
     clear c8
     by_cases c9 : 0 ≤ x16_1
     ·rw [if_pos c9] at H
      have c9b0 : decide (0 ≤ x16_1) = true := decide_eq_true c9
      clear c9
      by_cases c10 : x16_1 < (l0_1.length : Int)
      ·rw [if_pos c10] at H
       have c10b0 : decide (x16_1 < (l0_1.length : Int)) = true := decide_eq_true c10
       clear c10
       have H' := Aside0.mk H
       clear H
       have p843 : 0 ≤ (x16_1 : Int) := of_decide_eq_true (by first | (with_reducible assumption) | assumption)
       have q843 : x16_1 < (l0_1.length : Int) := of_decide_eq_true (by first | (with_reducible assumption) | assumption)
       obtain ⟨ad843, e843, hx843_0, hx843_1⟩ := at_T78 HR0_1.out x16_1 p843 q843
       cases e843
       replace hx843_0 := (HB.out.cell (World.block_lt_of_cell? w _ hx843_0)).trans hx843_0
       replace hx843_1 := (HB.out.cell (World.block_lt_of_cell? w _ hx843_1)).trans hx843_1
       replace p843 := eq_true p843
       replace q843 := eq_true q843
       go_wp2_with (first | ((with_reducible refine gate_dst (N := 7) rfl ?_); refine box_event ?hg (N := 7) ?hd (cs := #[.int .i64 0, .int .i64 0]) (t := 78) ?hr ?_; (case hd => rfl); (case hg => rfl); (case hr => first | (go_simp; done) | (go_simp; rfl)); intro gb844 hg w11 hbox hb; have n0_ := Aside0.mk (blk_below (g := gb841) (o := .cells #[.int .i64 a0_0, .slice (some ad843) l0_1.length c0_1] 32 (0, 0)) (by (with_reducible repeat (first | refine blk_drewN ?_ _ | refine blk_drew ?_ | refine blk_alloc ?_ _)); exact BK841.out) hb); have n1_ := Aside0.mk (below_step (by repeat (first | (with_reducible first | exact HB.out | apply below_alloc | apply pw_below_drewN | apply below_drew1 | refine below_set ?_ GE841.out) | exact HB.out)) hb); have n2_ := Aside0.mk (hbox); have n3_ := Aside0.mk ((by rw [hg]; exact (below_size (by repeat (first | (with_reducible first | exact HB.out | apply below_alloc | apply pw_below_drewN | apply below_drew1 | refine below_set ?_ GE841.out) | exact HB.out))) : w.heap.size ≤ gb844)); have n4_ := Aside0.mk ((by rw [hg]; exact (below_size (by repeat (first | (with_reducible first | exact HB.out | apply below_alloc | apply pw_below_drewN | apply below_drew1 | refine below_set ?_ GE841.out) | exact HB.out))) : w.heap.size ≤ gb844)); have n5_ := Aside0.mk ((by rw [hg]; exact Nat.ne_of_lt (blk_lt (g := gb841) (o := .cells #[.int .i64 a0_0, .slice (some ad843) l0_1.length c0_1] 32 (0, 0)) (by (with_reducible repeat (first | refine blk_drewN ?_ _ | refine blk_drew ?_ | refine blk_alloc ?_ _)); exact BK841.out)) : gb841 ≠ gb844)); have n6_ := Aside0.mk ((by rw [hg]; exact Nat.ne_of_gt (blk_lt (g := gb841) (o := .cells #[.int .i64 a0_0, .slice (some ad843) l0_1.length c0_1] 32 (0, 0)) (by (with_reducible repeat (first | refine blk_drewN ?_ _ | refine blk_drew ?_ | refine blk_alloc ?_ _)); exact BK841.out)) : gb844 ≠ gb841)); clear BK841; clear HB; have BK841 := n0_; have HB := n1_; have BK844 := n2_; have GW844 := n3_; have GE844 := n4_; have NB841_844 := n5_; have NB844_841 := n6_; clear n0_ n1_ n2_ n3_ n4_ n5_ n6_; clear hb hbox hg; have hnb12 := NB844_841.out; have hnc12 := NB841_844.out; have hcz13_0 : w11.cell? ⟨gb844, 0, none⟩ = some (.int .i64 0) := (blk_cell BK844.out 0).trans rfl; have hcz13_1 : w11.cell? ⟨gb844, 1, none⟩ = some (.int .i64 0) := (blk_cell BK844.out 1).trans rfl; have hfz13_0 := blk_frozen BK844.out 0; have hfz13_1 := blk_frozen BK844.out 1))
       go_roundg k1
       case measure => have := HK1.out; omega
       case rel => exact ⟨(wrap64 (x5_1 + ((rd_T78 l0_1 x16_1).f1))), (wrap64 (x16_1 + 1)), (by first | rfl | (simp; done) | (simp [*]; done)), (by first | rfl | (simp; done) | (simp [*]; done)), H', ⟨by have := HK1.out; omega⟩, ⟨by (with_reducible repeat (first | refine blk_drewN ?_ _ | refine blk_drew ?_ | refine blk_alloc ?_ _)); refine blk_far ?_ NB841_844.out _; (with_reducible repeat (first | refine blk_drewN ?_ _ | refine blk_drew ?_ | refine blk_alloc ?_ _)); refine blk_far ?_ NB841_844.out _; (with_reducible repeat (first | refine blk_drewN ?_ _ | refine blk_drew ?_ | refine blk_alloc ?_ _)); exact BK841.out⟩, ⟨by repeat (first | (with_reducible first | exact HB.out | apply below_alloc | apply pw_below_drewN | apply below_drew1 | refine below_set ?_ GE841.out | refine below_set ?_ GE844.out) | exact HB.out)⟩⟩
      ·rw [if_neg c10] at H
       exact absurd H (by simp)
     ·rw [if_neg c9] at H
      exact absurd H (by simp)
    ·rw [if_neg c8] at H
     have c8b0 : decide (x16_1 < (l0_1.length : Int)) = false := decide_eq_false c8
     clear c8
     simp only [Option.some.injEq, Prod.mk.injEq] at H
     obtain ⟨rfl, rfl⟩ := H
     go_wp2
     go_ret2
     exact ⟨by first | rfl | (simp [errW_none, errW_some] <;> rfl) | (simp [*, errW_none, errW_some] <;> rfl), by repeat (first | (with_reducible first | exact HB.out | apply below_alloc | apply pw_below_drewN | apply below_drew1 | refine below_set ?_ GE841.out) | exact HB.out)⟩
 ·rw [if_neg c3] at H
  have c3b0 : (t842 == 0) = false := beq_eq_false_iff_ne.mpr c3
  have c3b1 : (t842 != 0) = true := bne_iff_ne.mpr c3
  simp only [Option.some.injEq, Prod.mk.injEq] at H
  obtain ⟨rfl, rfl⟩ := H
  go_enter Try.func54, Try.ntmps54
  go_wp2_with (first | ((with_reducible refine gate_dst (N := 1) rfl ?_); refine box_event ?hg (N := 1) ?hd (cs := #[.int .i64 a0_0, .slice A0_1 l0_1.length c0_1]) (t := 32) ?hr ?_; (case hd => rfl); (case hg => rfl); (case hr => first | (go_simp; done) | (go_simp; rfl)); intro gb841 hg w14 hbox hb; have n0_ := Aside0.mk (below_step (by repeat (first | (with_reducible first | exact HB.out | apply below_alloc | apply pw_below_drewN | apply below_drew1) | exact HB.out)) hb); have n1_ := Aside0.mk (hbox); have n2_ := Aside0.mk ((by rw [hg]; exact (below_size (by repeat (first | (with_reducible first | exact HB.out | apply below_alloc | apply pw_below_drewN | apply below_drew1) | exact HB.out))) : w.heap.size ≤ gb841)); have n3_ := Aside0.mk ((by rw [hg]; exact (below_size (by repeat (first | (with_reducible first | exact HB.out | apply below_alloc | apply pw_below_drewN | apply below_drew1) | exact HB.out))) : w.heap.size ≤ gb841)); clear HB; have HB := n0_; have BK841 := n1_; have GW841 := n2_; have GE841 := n3_; clear n0_ n1_ n2_ n3_; clear hb hbox hg; have hcz15_0 : w14.cell? ⟨gb841, 0, none⟩ = some (.int .i64 a0_0) := (blk_cell BK841.out 0).trans rfl; have hcz15_1 : w14.cell? ⟨gb841, 1, none⟩ = some (.slice A0_1 l0_1.length c0_1) := (blk_cell BK841.out 1).trans rfl; have hfz15_0 := blk_frozen BK841.out 0; have hfz15_1 := blk_frozen BK841.out 1) | ((with_reducible refine gate_callee (f := 57) rfl ?_); refine goesL_ (some 9) rfl rfl Try.func57 (by kernel_rfl) rfl #[.agg #[.int .i64 a0_0, .slice A0_1 l0_1.length c0_1]] rfl (by (try simp only [List.map_toArray, List.map_cons, List.map_nil]); first | done | rfl | (simp only [List.length_drop, List.length_take]; rfl)) ?_; (with_reducible refine (storagebarterref08_Check.calls k a0_0 _ _ l0_1 t842 _ ?side1 ?side2 A2.out).mono ?_); (case side1 => repeat (first | exact (Kd.C_below HR0_1.out HB.out) | (with_reducible refine Kd.C_alloc ?_ _) | (with_reducible refine Kd.C_drewN ?_ _) | (with_reducible refine Kd.C_drew ?_))); (case side2 => exact HC0_1.out); rintro e w16 ⟨rfl, hb⟩; refine ⟨_, rfl, ?_⟩; have n0_ := Aside0.mk (blk_below (g := gb841) (o := .cells #[.int .i64 a0_0, .slice A0_1 l0_1.length c0_1] 32 (0, 0)) (by (with_reducible repeat (first | refine blk_drewN ?_ _ | refine blk_drew ?_ | refine blk_alloc ?_ _)); exact BK841.out) hb); have n1_ := Aside0.mk (below_step (by repeat (first | (with_reducible first | exact HB.out | apply below_alloc | apply pw_below_drewN | apply below_drew1 | refine below_set ?_ GE841.out) | exact HB.out)) hb); clear BK841; clear HB; have BK841 := n0_; have HB := n1_; clear n0_ n1_; (try clear hb); (try clear hb2); (try clear hk); (try clear hi)))
  go_ret2
  exact ⟨by first | rfl | (simp [errW_none, errW_some] <;> rfl) | (simp [*, errW_none, errW_some] <;> rfl), by repeat (first | (with_reducible first | exact HB.out | apply below_alloc | apply pw_below_drewN | apply below_drew1 | refine below_set ?_ GE841.out) | exact HB.out)⟩
end Go.Proofs.Ytodhkbahjomfhaa.Q

namespace Go.Proofs.Ytodhkbahjomfhaa.Q
open Go Go.RowKit Go.Sort Go.Proofs Go.Proofs.YtodhkbahjomfhaaW.PrintWords Go.Proofs.YtodhkbahjomfhaaW.PrintLast Go.Proofs.YtodhkbahjomfhaaW.PrintMore
set_option linter.unusedVariables false
def cmpI (x y : Int) : Int := if x < y then -1 else if y < x then 1 else 0
def orI (x y : Int) : Int := if x = 0 then y else x
set_option maxRecDepth 100000 in
theorem isNaN_x (x : Int) (w : World) : Calls Try.prog 140 #[.int .i64 x] w fun e w' => e = .returned (.bool false) ∧ w' = w := by
 go_enter Try.func140, Try.ntmps140
 go_wp2
 go_ret
 exact ⟨rfl, rfl⟩
set_option maxRecDepth 100000 in
theorem cmpI_x (x y : Int) (w : World) : Calls Try.prog 126 #[.int .i64 x, .int .i64 y] w fun e w' => e = .returned (.int .i64 (cmpI x y)) ∧ w' = w := by
 by_cases h1 : x < y
 ·rw [show cmpI x y = -1 by unfold cmpI; rw [if_pos h1]]
  have hd := decide_eq_true h1
  go_enter Try.func126, Try.ntmps126
  go_wp2_with (go_at_call 140; with_reducible refine (isNaN_x _ _).mono ?_; rintro e w5 ⟨rfl, rfl⟩)
  go_ret
  exact ⟨rfl, rfl⟩
 ·have hd := decide_eq_false h1
  by_cases h2 : y < x
  ·rw [show cmpI x y = 1 by unfold cmpI; rw [if_neg h1, if_pos h2]]
   have hd2 := decide_eq_true h2
   go_enter Try.func126, Try.ntmps126
   go_wp2_with (go_at_call 140; with_reducible refine (isNaN_x _ _).mono ?_; rintro e w5 ⟨rfl, rfl⟩)
   go_ret
   exact ⟨rfl, rfl⟩
  ·rw [show cmpI x y = 0 by unfold cmpI; rw [if_neg h1, if_neg h2]]
   have hd2 := decide_eq_false h2
   go_enter Try.func126, Try.ntmps126
   go_wp2_with (go_at_call 140; with_reducible refine (isNaN_x _ _).mono ?_; rintro e w5 ⟨rfl, rfl⟩)
   go_ret
   exact ⟨rfl, rfl⟩
set_option maxRecDepth 100000 in
set_option maxHeartbeats 1000000 in
theorem orI_x (x y : Int) (g : Nat) (w : World) (h0 : w.cell? ⟨g, 0, none⟩ = some (.int .i64 x)) (h1 : w.cell? ⟨g, 1, none⟩ = some (.int .i64 y)) :
 Calls Try.prog 125 #[.slice (some ⟨g, 0, none⟩) 2 2] w fun e w' => e = .returned (.int .i64 (orI x y)) ∧ w' = w := by
 by_cases hx : x = 0
 ·subst hx
  by_cases hy : y = 0
  ·subst hy
   go_enter Try.func125, Try.ntmps125
   go_wp2
   refine wp_loop_rounds 3 ?_
   rw [rounds_succ]
   go_wp2
   rw [rounds_succ]
   go_wp2
   rw [rounds_succ]
   go_wp2
   go_ret
   exact ⟨rfl, rfl⟩
  ·have hb : (y == 0) = false := beq_eq_false_iff_ne.mpr hy
   go_enter Try.func125, Try.ntmps125
   go_wp2
   refine wp_loop_rounds 2 ?_
   rw [rounds_succ]
   go_wp2
   rw [rounds_succ]
   go_wp2
   go_ret
   exact ⟨rfl, rfl⟩
 ·rw [show orI x y = x by unfold orI; rw [if_neg hx]]
  have hb : (x == 0) = false := beq_eq_false_iff_ne.mpr hx
  go_enter Try.func125, Try.ntmps125
  go_wp2
  refine wp_loop_rounds 1 ?_
  rw [rounds_succ]
  go_wp2
  go_ret
  exact ⟨rfl, rfl⟩
def cmpN (x y : Int × Int) : Int := orI (cmpI x.1 y.1) (cmpI x.2 y.2)
set_option maxRecDepth 100000 in
set_option maxHeartbeats 2000000 in
theorem compare_x (x y : Int × Int) (w : World) : Calls Try.prog 105 #[.agg #[.int .i64 x.1, .int .i64 x.2], .agg #[.int .i64 y.1, .int .i64 y.2]] w fun e w' => e = .returned (.int .i64 (cmpN x y)) ∧ ∃ q os', w' = grow (w.drewN q) os' := by
 have mixed : (Try.prog).follows .mixedOrders = true := by kernel_rfl
 have hu78 := Try.underlying78
 obtain ⟨x1, x2⟩ := x
 obtain ⟨y1, y2⟩ := y
 have c1 := cmpI_x x1 y1
 have c2 := cmpI_x x2 y2
 have co := orI_x (cmpI x1 y1) (cmpI x2 y2)
 unfold cmpN
 generalize cmpI x1 y1 = r1 at c1 co ⊢
 generalize cmpI x2 y2 = r2 at c2 co ⊢
 generalize orI r1 r2 = r at co ⊢
 go_enter Try.func105, Try.ntmps105
 go_wp2_with fail
 refine wp_region_still_tail 10 (by kernel_rfl) (by kernel_rfl) ?_
 generalize hW : ((w.alloc (Obj.cells #[Value.int IntKind.i64 x1, Value.int IntKind.i64 x2] 78)).alloc (Obj.cells #[Value.int IntKind.i64 y1, Value.int IntKind.i64 y2] 78)) = W0
 have k0 : W0.heap[w.heap.size]? = some (.cells #[Value.int IntKind.i64 x1, Value.int IntKind.i64 x2] 78 (0, 0)) := by rw [← hW]; exact blk_alloc (heap_alloc_new w _) _
 have k1 : W0.heap[w.heap.size + 1]? = some (.cells #[Value.int IntKind.i64 y1, Value.int IntKind.i64 y2] 78 (0, 0)) := by
  have := heap_alloc_new (w.alloc (Obj.cells #[Value.int IntKind.i64 x1, Value.int IntKind.i64 x2] 78)) (Obj.cells #[Value.int IntKind.i64 y1, Value.int IntKind.i64 y2] 78)
  rw [hW] at this
  simpa using this
 have hx0 : W0.drew.cell? ⟨w.heap.size, 0, none⟩ = some (.int .i64 x1) := (blk_cell (blk_drew k0) 0).trans rfl
 have hx1 : W0.drew.cell? ⟨w.heap.size, 1, none⟩ = some (.int .i64 x2) := (blk_cell (blk_drew k0) 1).trans rfl
 have hy0 : W0.drew.cell? ⟨w.heap.size + 1, 0, none⟩ = some (.int .i64 y1) := (blk_cell (blk_drew k1) 0).trans rfl
 have hy1 : W0.drew.cell? ⟨w.heap.size + 1, 1, none⟩ = some (.int .i64 y2) := (blk_cell (blk_drew k1) 1).trans rfl
 have HW : Aside0 (∃ os', W0.drew = grow (w.drewN 1) os') := ⟨⟨_, by rw [← hW, alloc_eq_grow, alloc_eq_grow, grow_grow]; rfl⟩⟩
 change wpStill _ _ W0.drew (fun a' => wpList _ _ _ _ a' W0.drew) _ _
 clear k0 k1 hW
 generalize W0.drew = W at hx0 hx1 hy0 hy1 HW ⊢
 clear W0
 simp only [List.take_succ_cons, List.take_zero, List.drop_succ_cons, List.drop_zero]
 iterate 4 still_step
 still_call (c1 _)
 iterate 4 still_step
 still_call (c2 _)
 refine wpStill_nil ?_
 go_wp2_with (go_at_call 125; refine (co _ _ (blk_cell (heap_alloc_new W (.cells #[.int .i64 r1, .int .i64 r2] 3)) 0) (blk_cell (heap_alloc_new W (.cells #[.int .i64 r1, .int .i64 r2] 3)) 1)).mono ?_; rintro e w5 ⟨rfl, rfl⟩)
 go_ret
 obtain ⟨os, hos⟩ := HW.out
 exact ⟨rfl, 1, os ++ #[.cells #[.int .i64 r1, .int .i64 r2] 3], by rw [hos, alloc_eq_grow, grow_grow]⟩
end Go.Proofs.Ytodhkbahjomfhaa.Q

namespace Go.Proofs.Ytodhkbahjomfhaa.Gfl
open Go Go.RowKit Go.Sort Go.Proofs Go.Proofs.YtodhkbahjomfhaaW.PrintWords Go.Proofs.YtodhkbahjomfhaaW.PrintLast Go.Proofs.YtodhkbahjomfhaaW.PrintMore
set_option linter.unusedVariables false
structure Flat {α : Type} [Inhabited α] (d : Kd α) (k : Nat) (enc : α → List Value) : Prop where
 sz : d.sz = k
 pos : 0 < k
 len : ∀ x, (enc x).length = k
 one : ∀ x, ∀ v ∈ enc x, v.oneCell' = true
 op : ∀ {w base ok x cs}, d.M w base ok x cs → cs = enc x
 mkM : ∀ w base ok x, d.M w base ok x (enc x)
section
variable {α : Type} [Inhabited α] {d : Kd α} {k : Nat} {enc : α → List Value} {e : Nat} {w : World} {base : Nat} {ok : Nat → Prop} {v : Value} {xs : List α}
theorem cell_at {inner : List Value} {cs : List Value} {i j : Nat} (h : (inner.drop i).take k = cs) (hj : j < k) : inner[i + j]? = cs[j]? := by
 rw [← h, List.getElem?_take_of_lt hj, List.getElem?_drop]
theorem R_holds (F : Flat d k enc) (h : d.R e w base ok v xs) : (v = .slice none 0 0 ∧ xs = []) ∨
 ∃ g cap cur, v = .slice (some ⟨g, 0, none⟩) xs.length cap ∧ ok g ∧ base ≤ g ∧ w.heap[g]? = some (.cells cur e (0, 0)) ∧ xs.length ≤ cap ∧ cap ≤ maxLen ∧ cur.size = cap * k ∧ HoldsK enc k w g 0 xs.toArray := by
 obtain ⟨h0, inner, ho, hr⟩ := h
 rcases ho.2 with ⟨rfl, hn⟩ | ⟨g, cap, cur, rfl, hg, hb, h1, h2, h3, h4⟩
 ·exact .inl ⟨rfl, List.eq_nil_of_length_eq_zero hn⟩
 ·rw [F.sz] at h3 h4 hr
  refine .inr ⟨g, cap, cur, rfl, h0 g rfl, hg, hb, h1, h2, h3, fun t ht => ?_⟩
  have ht' : t < xs.length * k := by simpa using ht
  have k0 := F.pos
  have hi : t / k < xs.length := (Nat.div_lt_iff_lt_mul k0).2 ht'
  have hm : t % k < k := Nat.mod_lt _ k0
  refine ⟨?_, by simp [World.frozen?, hb]⟩
  have hp := F.op (hr.2 (t / k) _ (List.getElem?_eq_getElem hi))
  have hc := cell_at hp hm
  rw [show t / k * k + t % k = t by rw [Nat.mul_comm]; exact Nat.div_add_mod t k, ← h4, List.getElem?_take_of_lt ht', Array.getElem?_toList] at hc
  simp only [World.cell?, hb, Nat.zero_add, Option.isSome_none, Bool.false_eq_true, if_false, id_eq]
  rw [hc, get_flatK _ _ _ t (by simpa using ht')]
  have hl : t % k < (enc xs[t / k]).length := by rw [F.len]; exact hm
  rw [List.getElem?_eq_getElem hl]
  simp [hi, hl]
theorem heap_put {g n : Nat} {os : Array Obj} {cur : Array Value} {fr : Nat × Nat} (dk : Array α) (hb : w.heap[g]? = some (.cells cur e fr)) :
 (grow (putRowK enc k (Sort.ahead w n) g 0 dk) os).heap[g]? = some (.cells (putCells id 0 (flatK enc k dk) cur) e fr) := by
 have hg : g < w.heap.size := (Array.getElem?_eq_some_iff.1 hb).1
 rw [heap_grow_old _ _ (by simpa [putRowK] using hg)]
 simp [putRowK, putRow, mapBlock, Sort.ahead, Array.getElem?_modify, hb, onCells]
theorem grown_put {g n : Nat} {os : Array Obj} (dk : Array α) : w.grownBy (grow (putRowK enc k (Sort.ahead w n) g 0 dk) os) (some g) := by
 refine ⟨rfl, rfl, rfl, by simp [putRowK], fun j hj hne => ?_⟩
 rw [heap_grow_old _ _ (by simpa [putRowK] using hj)]
 have : g ≠ j := fun e => hne (by rw [e])
 simp [putRowK, putRow, mapBlock, Sort.ahead, Array.getElem?_modify, this]
theorem R_put (F : Flat d k enc) {g n cap m : Nat} {os : Array Obj} {cur : Array Value} (dk : Array α) (hb : w.heap[g]? = some (.cells cur e (0, 0))) (hok : ok g) (hbase : base ≤ g) (hd : dk.size ≤ cap) (h2 : cap ≤ maxLen) (h3 : cur.size = cap * k) (hm : m ≤ dk.size) :
 d.R e (grow (putRowK enc k (Sort.ahead w n) g 0 dk) os) base ok (.slice (some ⟨g, 0, none⟩) m cap) (dk.toList.take m) := by
 have hl : (dk.toList.take m).length = m := by rw [List.length_take, Array.length_toList]; omega
 have hmk : m * k ≤ dk.size * k := Nat.mul_le_mul_right k hm
 have hdk : dk.size * k ≤ cap * k := Nat.mul_le_mul_right k hd
 refine ⟨fun j hj => by simp [Value.ownBlock] at hj; subst hj; exact hok, (putCells id 0 (flatK enc k dk) cur).toList.take (m * k), ?_, ?_⟩
 ·rw [hl, F.sz]
  refine ⟨by simp [putCells]; omega, .inr ⟨g, cap, _, rfl, hbase, heap_put dk hb, by omega, h2, by simp [putCells, h3], rfl⟩⟩
 ·rw [F.sz]
  refine ⟨by rw [hl]; simp [putCells]; omega, fun j p hp => ?_⟩
  have hj : j < m := by
   have := (List.getElem?_eq_some_iff.1 hp).1
   omega
  have hjd : j < dk.size := by omega
  have hp' : dk[j]! = p := by
   rw [List.getElem?_take_of_lt hj, Array.getElem?_toList] at hp
   rw [getElem!_pos dk j hjd]
   rw [Array.getElem?_eq_getElem hjd] at hp
   exact Option.some.inj hp
  have hjk : j * k + k ≤ m * k := by rw [← Nat.succ_mul]; exact Nat.mul_le_mul_right k hj
  have : (((putCells id 0 (flatK enc k dk) cur).toList.take (m * k)).drop (j * k)).take k = enc p := by
   apply List.ext_getElem?
   intro i
   by_cases hi : i < k
   ·rw [List.getElem?_take_of_lt hi, List.getElem?_drop, List.getElem?_take_of_lt (by omega), Array.getElem?_toList]
    have hlt : j * k + i < dk.size * k := by omega
    have hc : j * k + i < cur.size := by omega
    have e1 : (j * k + i) / k = j := (blk_iff k j _ F.pos).1 ⟨by omega, by omega⟩
    have e2 : (j * k + i) % k = i := by rw [Nat.mod_eq_sub_div_mul, e1]; omega
    have hg := get_flatK enc k dk (j * k + i) hlt
    rw [e1, e2, hp'] at hg
    have hle : i < (enc p).length := by rw [F.len]; exact hi
    rw [List.getElem?_eq_getElem hle]
    rw [getElem!_pos (enc p) i hle] at hg
    simp only [putCells, Array.getElem?_mapIdx, Array.getElem?_eq_getElem hc, Option.map_some, Nat.zero_le, true_and, Nat.zero_add, size_flatK, if_pos hlt, Nat.sub_zero, id_eq]
    rw [hg]
   ·rw [List.getElem?_eq_none (by simp; omega), List.getElem?_eq_none (by rw [F.len]; omega)]
  rw [this]
  exact F.mkM _ _ _ _
end
end Go.Proofs.Ytodhkbahjomfhaa.Gfl

namespace Go.Proofs
open Go.Shelf
def Try.laysSn_ren : Go.Shelf.Ren := ⟨fun | 6 => 104 | 15 => 124 | 14 => 123 | 28 => 138 | 29 => 139 | 20 => 130 | 21 => 131 | 22 => 132 | 23 => 133 | 24 => 134 | 25 => 135 | 26 => 136 | 27 => 137 | 46 => 145 | 47 => 146 | 48 => 147 | 49 => 148 | 50 => 149 | 57 => 152 | n => n, fun | 22 => 30 | 24 => 78 | 25 => 152 | 3 => 3 | 39 => 142 | 0 => 0 | 53 => 186 | 55 => 141 | 4 => 4 | 46 => 179 | 45 => 178 | 50 => 183 | 5 => 5 | 9 => 9 | 66 => 192 | 70 => 117 | 76 => 197 | 77 => 198 | n => n, fun | n => n⟩
theorem Try.laysSn : Go.Proofs.SlLaysF0.n6 Try.prog Try.laysSn_ren := {
 mixed := by kernel_rfl
 f6 := ⟨Try.f104.name, by decide, Try.func104.trans (congrArg some (by kernel_rfl))⟩
 f14 := ⟨Try.f123.name, by decide, Try.func123.trans (congrArg some (by kernel_rfl))⟩
 f15 := Try.func124.trans (congrArg some (by kernel_rfl))
 f20 := ⟨Try.f130.name, by decide, Try.func130.trans (congrArg some (by kernel_rfl))⟩
 f21 := ⟨Try.f131.name, by decide, Try.func131.trans (congrArg some (by kernel_rfl))⟩
 f22 := ⟨Try.f132.name, by decide, Try.func132.trans (congrArg some (by kernel_rfl))⟩
 f23 := ⟨Try.f133.name, by decide, Try.func133.trans (congrArg some (by kernel_rfl))⟩
 f24 := ⟨Try.f134.name, by decide, Try.func134.trans (congrArg some (by kernel_rfl))⟩
 f25 := ⟨Try.f135.name, by decide, Try.func135.trans (congrArg some (by kernel_rfl))⟩
 f26 := ⟨Try.f136.name, by decide, Try.func136.trans (congrArg some (by kernel_rfl))⟩
 f27 := ⟨Try.f137.name, by decide, Try.func137.trans (congrArg some (by kernel_rfl))⟩
 f28 := Try.func138.trans (congrArg some (by kernel_rfl))
 f29 := Try.func139.trans (congrArg some (by kernel_rfl))
 f46 := ⟨Try.f145.name, by decide, Try.func145.trans (congrArg some (by kernel_rfl))⟩
 f47 := Try.func146.trans (congrArg some (by kernel_rfl))
 f48 := Try.func147.trans (congrArg some (by kernel_rfl))
 f49 := ⟨Try.f148.name, by decide, Try.func148.trans (congrArg some (by kernel_rfl))⟩
 f50 := ⟨Try.f149.name, by decide, Try.func149.trans (congrArg some (by kernel_rfl))⟩
 f57 := ⟨Try.f152.name, by decide, Try.func152.trans (congrArg some (by kernel_rfl))⟩
 t0 := Try.underlying0
 a0 := Try.isAgg0
 z0 := Try.sizeOf0
 v0 := Try.zeroValue0
 t3 := Try.underlying3
 a3 := Try.isAgg3
 z3 := Try.sizeOf3
 v3 := Try.zeroValue3
 t4 := Try.underlying4
 a4 := Try.isAgg4
 z4 := Try.sizeOf4
 v4 := Try.zeroValue4
 t5 := Try.underlying5
 a5 := Try.isAgg5
 z5 := Try.sizeOf5
 v5 := Try.zeroValue5
 t9 := Try.underlying9
 a9 := Try.isAgg9
 z9 := Try.sizeOf9
 v9 := Try.zeroValue9
 t22 := Try.underlying30
 a22 := Try.isAgg30
 z22 := Try.sizeOf30
 v22 := Try.zeroValue30
 t25 := Try.underlying152
 a25 := Try.isAgg152
 z25 := Try.sizeOf152
 v25 := Try.zeroValue152
 t39 := Try.underlying142
 a39 := Try.isAgg142
 z39 := Try.sizeOf142
 v39 := Try.zeroValue142
 t45 := Try.underlying178
 a45 := Try.isAgg178
 z45 := Try.sizeOf178
 v45 := Try.zeroValue178
 t46 := Try.underlying179
 a46 := Try.isAgg179
 z46 := Try.sizeOf179
 v46 := Try.zeroValue179
 t50 := Try.underlying183
 a50 := Try.isAgg183
 z50 := Try.sizeOf183
 v50 := Try.zeroValue183
 t53 := Try.underlying186
 a53 := Try.isAgg186
 z53 := Try.sizeOf186
 v53 := Try.zeroValue186
 t55 := Try.underlying141
 a55 := Try.isAgg141
 z55 := Try.sizeOf141
 v55 := Try.zeroValue141
 t66 := Try.underlying192
 a66 := Try.isAgg192
 z66 := Try.sizeOf192
 v66 := Try.zeroValue192
 t70 := Try.underlying117
 a70 := Try.isAgg117
 z70 := Try.sizeOf117
 v70 := Try.zeroValue117
 t76 := Try.underlying197
 a76 := Try.isAgg197
 z76 := Try.sizeOf197
 v76 := Try.zeroValue197
 t77 := Try.underlying198
 a77 := Try.isAgg198
 z77 := Try.sizeOf198
 v77 := Try.zeroValue198 }
end Go.Proofs

namespace Go.Proofs.Ytodhkbahjomfhaa.Q
open Go Go.RowKit Go.Sort Go.Shelf Go.Proofs Go.Proofs.Ytodhkbahjomfhaa.Gfl Go.Proofs.YtodhkbahjomfhaaW.PrintWords Go.Proofs.YtodhkbahjomfhaaW.PrintLast Go.Proofs.YtodhkbahjomfhaaW.PrintMore
set_option linter.unusedVariables false
instance : Inhabited S78 := ⟨⟨0, 0⟩⟩
def enN (x : S78) : List Value := [.int .i64 x.f0, .int .i64 x.f1]
theorem flatN : Flat k78 2 enN where
 sz := rfl
 pos := by decide
 len := fun _ => rfl
 one := fun x v hv => by simp only [enN, List.mem_cons, List.not_mem_nil, or_false] at hv; rcases hv with rfl | rfl <;> rfl
 op := fun h => k78_openM h
 mkM := fun w base ok x => k78_mkM w base ok x
def cfN (x y : S78) : Int := cmpN (x.f0, x.f1) (y.f0, y.f1)
def ltN (x y : S78) : Prop := x.f0 < y.f0 ∨ x.f0 = y.f0 ∧ x.f1 < y.f1
theorem ltN_eq (x y : S78) : ltOf cfN x y = true ↔ ltN x y := by
 unfold ltOf cfN cmpN orI cmpI ltN
 simp only
 by_cases h1 : x.f0 < y.f0
 ·simp [h1]
 ·by_cases h2 : y.f0 < x.f0
  ·simp [h1, h2]
   omega
  ·by_cases h3 : x.f1 < y.f1
   ·simp [h1, h2, h3]
    omega
   ·by_cases h4 : y.f1 < x.f1 <;> simp [h1, h2, h3, h4]
theorem ltN_not (x y : S78) : ltOf cfN x y = false ↔ ¬ ltN x y := by
 rw [← ltN_eq, Bool.not_eq_true]
theorem swoN : SWO (ltOf cfN) where
 irrefl x := by rw [ltN_not]; unfold ltN; omega
 trans x y z h1 h2 := by rw [ltN_eq] at *; unfold ltN at *; omega
 ntrans x y z h1 h2 := by rw [ltN_not] at *; unfold ltN at *; omega
theorem totN (x y : S78) (h1 : ltOf cfN x y = false) (h2 : ltOf cfN y x = false) : x = y := by
 rw [ltN_not] at h1 h2
 unfold ltN at h1 h2
 obtain ⟨a, b⟩ := x
 obtain ⟨c, d⟩ := y
 simp only at h1 h2
 obtain ⟨rfl, rfl⟩ : a = c ∧ b = d := by omega
 rfl
noncomputable def srtN (l : List S78) : List S78 := l.mergeSort fun x y => !(ltOf cfN) y x
theorem layN (blk off size : Nat) (w : World) : CmpLays Try.prog 105 #[] enN 2 cfN blk off size w :=
 fun _ _ _ _ x y => compare_x (x.f0, x.f1) (y.f0, y.f1) _
theorem sortN_calls {w0 w : World} {base : Nat} {ok : Nat → Prop} {v : Value} {xs : List S78} (h : Kd.R k78 78 w base ok v xs) (hB : Below base w0 w) (hl : xs.length < 4611686018427387904) :
 Calls Try.prog 104 #[v, .func (.func 105) #[] #[]] w fun en w' => en = .returned (.tuple #[]) ∧ Kd.R k78 78 w' base ok v (srtN xs) ∧ w.grownBy w' v.ownBlock ∧ Below base w0 w' := by
 have eg : ∀ args w, (callFunc 105 args).run Try.prog w = .ok (.enter 105 args) w := enters_of Try.func105 (by kernel_rfl) rfl
 rcases R_holds flatN h with ⟨rfl, rfl⟩ | ⟨g, cap, cur, rfl, hok, hg, hb, h1, h2, h3, hH⟩
 ·have hcon := AnyF.slices_SortFunc_none (P := Try.prog) Try.laysSn none 0 (.func (.func 105) #[] #[]) w
  refine hcon.mono ?_
  rintro en w' ⟨rfl, rfl⟩
  exact ⟨rfl, by simpa [srtN] using h, ⟨rfl, rfl, rfl, Nat.le_refl _, fun _ _ _ => rfl⟩, hB⟩
 ·have hcon := AnyQ.slices_SortFunc_total Try.laysSn 2 Try.isAgg78 Try.sizeOf78 enN flatN.len flatN.one cfN swoN 105 #[] g 0 cap xs.toArray w eg (layN g 0 _ w) hH (Array.getElem?_eq_some_iff.1 hb).1 (by simpa using hl) totN
  refine hcon.mono ?_
  rintro en w' ⟨rfl, n, os, rfl⟩
  have hls : (srtN xs).length = xs.length := List.length_mergeSort xs
  have hR := R_put (w := w) (n := n) (os := os) (m := xs.length) (base := base) (ok := ok) flatN (srtN xs).toArray hb hok hg (by simpa [hls] using h1) h2 h3 (by simp [hls])
  have hG := grown_put (w := w) (g := g) (n := n) (os := os) (k := 2) (enc := enN) (srtN xs).toArray
  rw [← hls, List.take_length, hls] at hR
  exact ⟨rfl, hR, hG, hB.grown hG (Nat.le_trans hg (Nat.le_of_lt (Array.getElem?_eq_some_iff.1 hb).1)) (fun j hj => by cases hj; exact hg)⟩
end Go.Proofs.Ytodhkbahjomfhaa.Q

namespace Go.Proofs.Ytodhkbahjomfhaa.Q
open Go
instance decN : DecidableEq S78 := fun x y => decidable_of_iff (x.f0 = y.f0 ∧ x.f1 = y.f1) (by cases x; cases y; simp)
end Go.Proofs.Ytodhkbahjomfhaa.Q

namespace Go.Proofs.Ytodhkbahjomfhaa.Q
attribute [local go_sem high] eqA78
open Go Go.RowKit Go.Sort Go.Lib Go.Proofs Go.Proofs.Ytodhkbahjomfhaa.Gfl Go.Proofs.YtodhkbahjomfhaaW.PrintWords Go.Proofs.YtodhkbahjomfhaaW.PrintLast Go.Proofs.YtodhkbahjomfhaaW.PrintMore
set_option linter.unusedVariables false
section
variable {α : Type} [Inhabited α] {k : Nat} {enc : α → List Value}
theorem setMany_set (hk : ∀ x, (enc x).length = k) (d : Array α) (i : Nat) (hi : i < d.size) (x : α) : setMany (flatK enc k d) (i * k) (enc x) = flatK enc k (d.setIfInBounds i x) := by
 refine ext_get! (by simp) fun t ht => ?_
 have ht' : t < d.size * k := by simpa using ht
 have k0 : 0 < k := by
  rcases Nat.eq_zero_or_pos k with h | h
  ·subst h; simp at ht'
  ·exact h
 rw [get_setMany _ _ _ t (by simpa using ht'), get_flatK _ _ _ t ht', get_flatK _ _ _ t (by simpa using ht'), hk]
 by_cases b : t / k = i
 ·rw [if_pos ((blk_iff k i t k0).2 b), b, getElem!_set_same _ _ _ hi]
  congr 1
  rw [Nat.mod_eq_sub_div_mul, b]
 ·rw [if_neg (fun h => b ((blk_iff k i t k0).1 h)), getElem!_set_other _ _ _ _ b]
theorem store_K (hk : ∀ x, (enc x).length = k) (w : World) (n blk : Nat) (dk : Array α) (i : Nat) (hi : i < dk.size) (x : α) :
 (putRowK enc k (Sort.ahead w n) blk 0 dk).setCells blk (i * k) (enc x) = putRowK enc k (Sort.ahead w n) blk 0 (dk.setIfInBounds i x) := by
 have hle : i * k + k ≤ dk.size * k := by
  have := Nat.mul_le_mul_right k (show i + 1 ≤ dk.size from hi)
  rwa [Nat.add_mul, Nat.one_mul] at this
 have := setCells_putRow (Sort.ahead w n) blk 0 (enc x) (i * k) (flatK enc k dk) (by rw [hk, size_flatK]; exact hle)
 rw [Nat.zero_add] at this
 unfold putRowK
 rw [this, setMany_set hk dk i hi x]
theorem R_beyond {d : Kd α} {e : Nat} {base : Nat} {ok : Nat → Prop} {g m cap : Nat} {ds : List α} (F : Flat d k enc) : ∀ (vs : List Value) (o : Nat) (w : World), m * k ≤ o → d.R e w base ok (.slice (some ⟨g, 0, none⟩) m cap) ds → d.R e (w.setCells g o vs) base ok (.slice (some ⟨g, 0, none⟩) m cap) ds
 | [], _, _, _, h => h
 | v :: r, o, w, ho, h => by
  refine R_beyond F r (o + 1) _ (by omega) ?_
  obtain ⟨h0, inner, hw, hr⟩ := h
  refine ⟨h0, inner, ?_, hr.imp_ (fun p c hp => by rw [F.op hp]; exact F.mkM _ _ _ _)⟩
  obtain ⟨hl, hw⟩ := hw
  refine ⟨hl, ?_⟩
  rcases hw with ⟨hv, _⟩ | ⟨g', cap', cur, hv, hg, hb, h1, h2, h3, h4⟩
  ·cases hv
  ·injection hv with e1 e2 e3
   injection e1 with e1
   injection e1 with e1
   subst e1 e2 e3
   refine .inr ⟨g, cap, cur.setIfInBounds o v, rfl, hg, ?_, h1, h2, by simpa using h3, ?_⟩
   ·simp [World.setCell, Array.getElem?_modify, hb]
   ·rw [← h4, F.sz, Array.toList_setIfInBounds, List.take_set_of_le (by rw [← F.sz]; rw [F.sz]; exact ho)]
theorem grown_setCells {g : Nat} : ∀ (vs : List Value) (o : Nat) (w : World), w.grownBy (w.setCells g o vs) (some g)
 | [], _, _ => ⟨rfl, rfl, rfl, Nat.le_refl _, fun _ _ _ => rfl⟩
 | v :: r, o, w => by
  have h1 : w.grownBy (w.setCell ⟨g, o, none⟩ v) (some g) := ⟨rfl, rfl, rfl, by simp [World.setCell], fun j hj hne => Below.heap_setCell _ _ _ _ (fun e => hne (by rw [e]))⟩
  have h2 := grown_setCells (g := g) r (o + 1) (w.setCell ⟨g, o, none⟩ v)
  exact ⟨h2.os.trans h1.os, h2.tape.trans h1.tape, h2.output.trans h1.output, Nat.le_trans h1.size h2.size, fun j hj hne => (h2.block j (Nat.lt_of_lt_of_le hj h1.size) hne).trans (h1.block j hj hne)⟩
end
theorem run_clearN (w : World) (ty : TypeId) (b o n c : Nat) (hn : 0 < n) (hc : ∀ j, j < n * 2 → (w.cell? ⟨b, o + j, none⟩).isSome = true) (hf : ∀ j, j < n * 2 → w.frozen? ⟨b, o + j, none⟩ = false) :
 (Builtin.clear_ #[30] ty #[.slice (some ⟨b, o, none⟩) n c]).run Try.prog w = .ok (.tuple #[]) (w.setCells b o (List.replicate (n * 2) (.int .i64 0))) := by
 have hz : ∀ w, (zeroValue 78).run Try.prog w = .ok (.agg #[.int .i64 0, .int .i64 0]) w := Try.zeroValue78
 have hzc : (Builtin.zeroCells (Value.agg #[.int .i64 0, .int .i64 0]).cells n).toList = List.replicate (n * 2) (.int .i64 0) := by
  simp [Builtin.zeroCells, Value.cells]
  apply List.ext_getElem
  ·simp
  ·intro i h1 h2
   simp
   rcases Nat.mod_two_eq_zero_or_one i with h | h <;> simp [h]
 have hst := run_storeCells_cells (P := Try.prog) b o (List.replicate (n * 2) (.int .i64 0)) 0 w (by simpa using hc) (by simpa using hf) (by intro v hv'; rw [List.eq_of_mem_replicate hv']; rfl)
 simp only [Nat.add_zero] at hst
 obtain ⟨m, rfl⟩ : ∃ m, n = m + 1 := ⟨n - 1, by omega⟩
 simp [Builtin.clear_, run_underlying Try.underlying30, hz, hzc, hst]
theorem cellN {w : World} {g : Nat} {d : Array S78} (h : HoldsK enN 2 w g 0 d) {i : Nat} (hi : i < d.size) :
 (w.cell? ⟨g, i * 2, none⟩ = some (.int .i64 d[i]!.f0) ∧ w.frozen? ⟨g, i * 2, none⟩ = false) ∧ (w.cell? ⟨g, i * 2 + 1, none⟩ = some (.int .i64 d[i]!.f1) ∧ w.frozen? ⟨g, i * 2 + 1, none⟩ = false) := by
 have h0 := h.cell hi (c := 0) (by decide)
 have h1 := h.cell hi (c := 1) (by decide)
 simp only [Nat.zero_add, Nat.add_zero] at h0 h1
 exact ⟨h0, h1⟩
set_option maxHeartbeats 4000000 in
set_option maxRecDepth 1000000 in
theorem compactN_arr (g cap : Nat) (d : Array S78) (w : World) (hH : HoldsK enN 2 w g 0 d) (hsz : d.size ≤ 1000000) (hcap : d.size ≤ cap) (hcm : cap ≤ maxLen) :
 Calls Try.prog 107 #[.slice (some ⟨g, 0, none⟩) d.size cap] w fun e w' => e = .returned (.slice (some ⟨g, 0, none⟩) (compactUpTo d d.size).length cap) ∧
  ∃ q dk vs, w' = (putRowK enN 2 (Sort.ahead w q) g 0 dk).setCells g ((compactUpTo d d.size).length * 2) vs ∧ dk.size = d.size ∧ dk.toList.take (compactUpTo d d.size).length = compactUpTo d d.size := by
 have mixed : (Try.prog).follows .mixedOrders = true := by kernel_rfl
 have hu78 := Try.underlying78
 have same : ∀ q, (∀ j, j < d.size → keeps d j = true) → (compactUpTo d d.size).length = d.size ∧ ∃ q' dk vs, w.drewN q = (putRowK enN 2 (Sort.ahead w q') g 0 dk).setCells g ((compactUpTo d d.size).length * 2) vs ∧ dk.size = d.size ∧ dk.toList.take (compactUpTo d d.size).length = compactUpTo d d.size := by
  intro q hall
  have e : compactUpTo d d.size = d.toList := by rw [compactUpTo_all d _ hall, range_map_get]
  rw [e]
  exact ⟨by simp, q, d, [], (putRowK_self enN 2 (Sort.ahead w q) g 0 d (holdsK_ahead enN 2 w q g 0 d hH)).symm, rfl, by rw [List.take_length]⟩
 have HS := Aside0.mk same
 clear same
 by_cases h2 : d.size < 2
 ·have hd2 : decide ((d.size : Int) < 2) = true := decide_eq_true (by omega)
  have HH := Aside0.mk hH
  clear hH
  go_enter Try.func107, Try.ntmps107
  go_wp2
  go_ret
  obtain ⟨e1, e2⟩ := HS.out 0 (fun j hj => keeps_lt_one d j (by omega))
  exact ⟨by rw [e1]; rfl, e2⟩
 ·have hd2 : decide ((d.size : Int) < 2) = false := decide_eq_false (by omega)
  have H2 := Aside0.mk h2
  clear h2
  go_enter Try.func107, Try.ntmps107
  go_wp2
  go_loopg [3] d.size (fun gk s3 wr => ∃ k q : Nat, 1 ≤ k ∧ k ≤ d.size ∧ d.size - k ≤ gk ∧ s3 = .int .i64 k ∧ wr = w.drewN q ∧ Aside0 (∀ j, j < k → keeps d j = true))
  case atStart => exact ⟨1, 0, Nat.le_refl _, by have := H2.out; omega, by omega, rfl, rfl, ⟨keeps_lt_one d⟩⟩
  case round =>
   obtain ⟨k, q, hk1, hk, hg, rfl, rfl, hall⟩ := hrel
   by_cases hlt : k < d.size
   ·obtain ⟨⟨c1, f1⟩, c1', f1'⟩ := cellN hH hlt
    obtain ⟨⟨c0, f0⟩, c0', f0'⟩ := cellN hH (show k - 1 < d.size by omega)
    have HH := Aside0.mk hH
    clear hH
    generalize hx : d[k]! = x at c1 c1'
    generalize hy : d[k - 1]! = y at c0 c0'
    have B : Aside0 (d[k]! = x ∧ d[k - 1]! = y) := ⟨⟨hx, hy⟩⟩
    clear hx hy
    obtain ⟨x0, x1⟩ := x
    obtain ⟨y0, y1⟩ := y
    simp only at c1 c1' c0 c0'
    by_cases hdup : (x0 == y0 && (x1 == y1)) = true
    ·go_wp2_with fail
     go_quiet (fail)
     go_wp2
     clear c0 c1 f0 f1 c0' c1' f0' f1'
     have HD : d[k]! = d[k - 1]! := by
      rw [B.out.1, B.out.2]
      simp only [Bool.and_eq_true, beq_iff_eq] at hdup
      rw [hdup.1, hdup.2]
     have HK := Aside0.mk (keeps_neg (by omega) HD)
     clear HD hdup B
     go_loopg [3, 5] d.size (fun gk2 s3 s5 wr => ∃ (kk k2 q2 : Nat) (dk : Array S78), s3 = .int .i64 kk ∧ s5 = .int .i64 k2 ∧ 1 ≤ k2 ∧ k + k2 ≤ d.size ∧ d.size - (k + k2) ≤ gk2 ∧ Aside0 (wr = putRowK enN 2 (Sort.ahead w q2) g 0 dk) ∧ Aside0 (CompInv d (k + k2) kk dk))
     case atStart => exact ⟨k, 1, q + nq, d, rfl, rfl, Nat.le_refl _, by omega, by omega, ⟨(putRowK_self enN 2 (Sort.ahead w (q + nq)) g 0 d (holdsK_ahead enN 2 w _ g 0 d HH.out)).symm⟩, ⟨CompInv.start hall.out HK.out⟩⟩
     case round =>
      obtain ⟨kk, k2, q2, dk, rfl, rfl, h1, hle, hg2, W2, I2⟩ := hrel
      have hkk := I2.out.lt
      have hds := I2.out.size
      have hHk : HoldsK enN 2 wr g 0 dk := by rw [W2.out]; exact holdsK_putRowK enN 2 _ g 0 d dk (holdsK_ahead enN 2 w q2 g 0 d HH.out) hds
      by_cases hlt2 : k + k2 < d.size
      ·obtain ⟨⟨cm, fm⟩, cm', fm'⟩ := cellN hHk (show k + k2 < dk.size by omega)
       obtain ⟨⟨cp, fp⟩, cp', fp'⟩ := cellN hHk (show k + k2 - 1 < dk.size by omega)
       obtain ⟨⟨ck, fk⟩, ck', fk'⟩ := cellN hHk (show kk < dk.size by omega)
       rw [I2.out.high (k + k2) (by omega)] at cm cm'
       rw [I2.out.high (k + k2 - 1) (by omega)] at cp cp'
       rw [show (k + k2) * 2 = k * 2 + k2 * 2 by omega] at cm fm cm' fm'
       rw [show (k + k2 - 1) * 2 = k * 2 + (k2 - 1) * 2 by omega] at cp fp cp' fp'
       clear hHk
       generalize hu : d[k + k2]! = u at cm cm'
       generalize hv : d[k + k2 - 1]! = v at cp cp'
       generalize dk[kk]! = old at ck ck'
       have C : Aside0 (d[k + k2]! = u ∧ d[k + k2 - 1]! = v) := ⟨⟨hu, hv⟩⟩
       clear hu hv
       obtain ⟨u0, u1⟩ := u
       obtain ⟨v0, v1⟩ := v
       simp only at cm cm' cp cp'
       by_cases huv : (u0 == v0 && (u1 == v1)) = true
       ·go_wp2_with fail
        go_quiet (fail)
        go_wp2
        go_roundg (d.size - (k + (k2 + 1)))
        case measure => omega
        case rel =>
         have HE : d[k + k2]! = d[k + k2 - 1]! := by
          rw [C.out.1, C.out.2]
          simp only [Bool.and_eq_true, beq_iff_eq] at huv
          rw [huv.1, huv.2]
         exact ⟨kk, k2 + 1, q2 + nq, dk, rfl, by go_num, by omega, by omega, Nat.le_refl _, ⟨by rw [W2.out]; exact putRowK_drewN enN 2 w q2 nq g 0 dk⟩, ⟨I2.out.skip (keeps_neg (by omega) HE)⟩⟩
       ·have hne : (u0 == v0 && (u1 == v1)) = false := by simpa using huv
        go_wp2_with fail
        go_quiet (fail)
        go_wp2
        go_roundg (d.size - (k + (k2 + 1)))
        case measure => omega
        case rel =>
         have HE : d[k + k2]! ≠ d[k + k2 - 1]! := by
          rw [C.out.1, C.out.2]
          intro hh
          injection hh with h5 h6
          subst h5 h6
          simp at hne
         refine ⟨kk + 1, k2 + 1, q2 + nq, dk.setIfInBounds kk d[k + k2]!, by go_num, by go_num, by omega, by omega, Nat.le_refl _, ⟨?_⟩, ⟨I2.out.keep hlt2 (keeps_pos HE)⟩⟩
         have hs := store_K (enc := enN) (k := 2) (fun _ => rfl) w (q2 + nq) g dk kk (by omega) d[k + k2]!
         rw [← hs, ← putRowK_drewN, ← W2.out, C.out.1]
         rfl
      ·have hend : k + k2 = d.size := by omega
       have hcl : ∀ ty, (Builtin.clear_ #[30] ty #[.slice (some ⟨g, kk * 2, none⟩) (d.size - kk) (cap - kk)]).run Try.prog wr = .ok (.tuple #[]) (wr.setCells g (kk * 2) (List.replicate ((d.size - kk) * 2) (.int .i64 0))) := by
        intro ty
        refine run_clearN wr ty g (kk * 2) (d.size - kk) (cap - kk) (by omega) (fun j hj => ?_) (fun j hj => ?_)
        ·have := (hHk (kk * 2 + j) (by simp; omega)).1
         rw [Nat.zero_add] at this
         rw [this]
         rfl
        ·have := (hHk (kk * 2 + j) (by simp; omega)).2
         rwa [Nat.zero_add] at this
       clear hHk
       go_wp2
       go_ret
       have hI := I2.out
       rw [hend] at hI
       refine ⟨by rw [hI.len]; rfl, q2, dk, _, by rw [hI.len, ← W2.out], hds, ?_⟩
       apply List.ext_getElem?
       intro j
       by_cases hj : j < kk
       ·rw [hI.len, List.getElem?_take_of_lt hj, hI.low j hj, Array.getElem?_toList, Array.getElem?_eq_getElem (by omega), getElem!_pos dk j (by omega)]
       ·rw [hI.len, List.getElem?_eq_none (by rw [List.length_take]; omega), List.getElem?_eq_none (by rw [hI.len]; omega)]
    ·have hne : (x0 == y0 && (x1 == y1)) = false := by simpa using hdup
     go_wp2_with fail
     go_quiet (fail)
     go_wp2
     go_roundg (d.size - (k + 1))
     case measure => omega
     case rel =>
      refine ⟨k + 1, q + nq, by omega, by omega, Nat.le_refl _, by go_num, rfl, ⟨fun j hj => ?_⟩⟩
      by_cases e : j = k
      ·subst e
       refine keeps_pos ?_
       rw [B.out.1, B.out.2]
       intro hh
       injection hh with h5 h6
       subst h5 h6
       simp at hne
      ·exact hall.out j (by omega)
   ·have hkd : k = d.size := by omega
    subst hkd
    have HH := Aside0.mk hH
    clear hH
    go_wp2
    go_ret
    obtain ⟨e1, e2⟩ := HS.out q hall.out
    exact ⟨by rw [e1]; rfl, e2⟩
theorem compactN_none (w : World) : Calls Try.prog 107 #[.slice none 0 0] w fun e w' => e = .returned (.slice none 0 0) ∧ w' = w := by
 go_enter Try.func107, Try.ntmps107
 go_wp2
 go_ret
 exact ⟨rfl, rfl⟩
theorem compactN_calls {w0 w : World} {base : Nat} {ok : Nat → Prop} {v : Value} {xs : List S78} (h : Kd.R k78 78 w base ok v xs) (hB : Below base w0 w) (hl : xs.length ≤ 1000000) :
 Calls Try.prog 107 #[v] w fun en w' => ∃ v', en = .returned v' ∧ Kd.R k78 78 w' base ok v' (Lib.compact xs) ∧ w.grownBy w' v.ownBlock ∧ Below base w0 w' := by
 rcases R_holds flatN h with ⟨rfl, rfl⟩ | ⟨g, cap, cur, rfl, hok, hg, hb, h1, h2, h3, hH⟩
 ·refine (compactN_none w).mono ?_
  rintro en w' ⟨rfl, rfl⟩
  exact ⟨_, rfl, by simpa [Lib.compact, Lib.compactUpTo] using h, ⟨rfl, rfl, rfl, Nat.le_refl _, fun _ _ _ => rfl⟩, hB⟩
 ·have hcon := compactN_arr g cap xs.toArray w hH (by simpa using hl) (by simpa using h1) h2
  have hsz : xs.toArray.size = xs.length := by simp
  rw [hsz] at hcon
  refine hcon.mono ?_
  rintro en w' ⟨rfl, q, dk, vs, rfl, hd, ht⟩
  change dk.toList.take (Lib.compact xs).length = Lib.compact xs at ht
  have hle : (Lib.compact xs).length ≤ dk.size := by
   have h5 := congrArg List.length ht
   rw [List.length_take] at h5
   exact Nat.le_trans (Nat.le_of_eq h5.symm) (Nat.le_trans (Nat.min_le_right _ _) (Nat.le_of_eq Array.length_toList))
  have hP := R_put (w := w) (n := q) (os := #[]) (m := (Lib.compact xs).length) (base := base) (ok := ok) flatN dk hb hok hg (by rw [hd]; exact h1) h2 h3 hle
  have hG := grown_put (w := w) (g := g) (n := q) (os := #[]) (k := 2) (enc := enN) dk
  rw [grow_empty] at hP hG
  rw [ht] at hP
  have hR := R_beyond flatN vs ((Lib.compact xs).length * 2) _ (Nat.le_refl _) hP
  have hG2 := grown_setCells (g := g) vs ((Lib.compact xs).length * 2) (putRowK enN 2 (Sort.ahead w q) g 0 dk)
  have hG3 : w.grownBy ((putRowK enN 2 (Sort.ahead w q) g 0 dk).setCells g ((Lib.compact xs).length * 2) vs) (some g) := ⟨hG2.os.trans hG.os, hG2.tape.trans hG.tape, hG2.output.trans hG.output, Nat.le_trans hG.size hG2.size, fun j hj hne => (hG2.block j (Nat.lt_of_lt_of_le hj hG.size) hne).trans (hG.block j hj hne)⟩
  exact ⟨_, rfl, hR, hG3, hB.grown hG3 (Nat.le_trans hg (Nat.le_of_lt (Array.getElem?_eq_some_iff.1 hb).1)) (fun j hj => by cases hj; exact hg)⟩
end Go.Proofs.Ytodhkbahjomfhaa.Q

namespace Go.Proofs.Ytodhkbahjomfhaa.Q
open Go.RowKit Go.Proofs.YtodhkbahjomfhaaW.PrintWords Go.Proofs.YtodhkbahjomfhaaW.PrintLast Go.Proofs.YtodhkbahjomfhaaW.PrintMore Go.Proofs.Ytodhkbahjomfhaa.Gput Go.Proofs.Ytodhkbahjomfhaa.Gputl
attribute [local go_sem] max2_int min2_int max_two min_two max_three min_three max_four min_four   -- for this text's walks alone
set_option linter.unusedVariables false
set_option linter.unusedSimpArgs false
attribute [local go_sem high] eqA78
noncomputable def storagebarterref08_has.l0 : Nat → List (S78) → Int → Int → Int → Int → Option (Bool)
 | 0, _, _, _, _, _ => none
 | k + 1, x7, x8, x9, x846000, x846001 => if x9 < x8 then (if 0 ≤ x9 then (if x9 < (x7.length : Int) then (if (((rd_T78 x7 x9).f0) == x846000 && (((rd_T78 x7 x9).f1) == x846001)) = true then (some true) else (storagebarterref08_has.l0 k x7 x8 (wrap64 (x9 + 1)) x846000 x846001)) else (none)) else (none)) else (some false)
noncomputable def storagebarterref08_has.f (k : Nat) (l0 : List (S78)) (a1_0 : Int) (a1_1 : Int) : Option (Bool) := storagebarterref08_has.l0 k l0 (l0.length : Int) 0 a1_0 a1_1
set_option maxHeartbeats 8000000 in
set_option maxRecDepth 100000 in
theorem storagebarterref08_has.calls (k : Nat) (A0 : Option Addr) (c0 : Nat) (l0 : List (S78)) (a1_0 : Int) (a1_1 : Int) (r : Bool) (w : World) (hr0 : Kd.C k78 w A0 l0.length l0) (hc0 : l0.length ≤ c0) (h : storagebarterref08_has.f k l0 a1_0 a1_1 = some r) :
 Calls Try.prog 109 #[.slice A0 l0.length c0, .agg #[.int .i64 a1_0, .int .i64 a1_1]] w fun e w' => e = .returned (.bool r) ∧ Below w.heap.size w w' := by
 have hu78 := Try.underlying78
 have HR0 := Aside0.mk hr0
 have HC0 := Aside0.mk hc0
 clear hr0 hc0
 have HB := Aside0.mk (Below.refl w.heap.size w)
 have H : (storagebarterref08_has.l0 k l0 (l0.length : Int) 0 a1_0 a1_1) = some r := h
 clear h
 have H' := Aside0.mk H
 clear H
 go_enter Try.func109, Try.ntmps109
 go_wp2_with (first | ((with_reducible refine gate_dst (N := 3) rfl ?_); refine box_event ?hg (N := 3) ?hd (cs := #[.int .i64 a1_0, .int .i64 a1_1]) (t := 78) ?hr ?_; (case hd => rfl); (case hg => rfl); (case hr => first | (go_simp; done) | (go_simp; rfl)); intro gb845 hg w3 hbox hb; have n0_ := Aside0.mk (below_step (by repeat (first | (with_reducible first | exact HB.out | apply below_alloc | apply pw_below_drewN | apply below_drew1) | exact HB.out)) hb); have n1_ := Aside0.mk (hbox); have n2_ := Aside0.mk ((by rw [hg]; exact (below_size (by repeat (first | (with_reducible first | exact HB.out | apply below_alloc | apply pw_below_drewN | apply below_drew1) | exact HB.out))) : w.heap.size ≤ gb845)); have n3_ := Aside0.mk ((by rw [hg]; exact (below_size (by repeat (first | (with_reducible first | exact HB.out | apply below_alloc | apply pw_below_drewN | apply below_drew1) | exact HB.out))) : w.heap.size ≤ gb845)); clear HB; have HB := n0_; have BK845 := n1_; have GW845 := n2_; have GE845 := n3_; clear n0_ n1_ n2_ n3_; clear hb hbox hg))
 go_loopg [9] k (fun kq v9 w' => ∃ (x9_1 : Int), v9 = .int .i64 x9_1 ∧ Aside0 (storagebarterref08_has.l0 kq l0 (l0.length : Int) x9_1 a1_0 a1_1 = some r) ∧ Aside0 (kq ≤ k) ∧ Aside0 (w'.heap[gb845]? = some (.cells #[.int .i64 a1_0, .int .i64 a1_1] 78 (0, 0))) ∧ Aside0 (Below w.heap.size w w'))
 case atStart => exact ⟨(0), (by first | rfl | (simp; done) | (simp [*]; done)), H', ⟨Nat.le_refl _⟩, ⟨by (with_reducible repeat (first | refine blk_drewN ?_ _ | refine blk_drew ?_ | refine blk_alloc ?_ _)); exact BK845.out⟩, ⟨by repeat (first | (with_reducible first | exact HB.out | apply below_alloc | apply pw_below_drewN | apply below_drew1 | refine below_set ?_ GE845.out) | exact HB.out)⟩⟩
 case round =>
  clear H'
  try clear c1
  try clear p2
  obtain ⟨x9_1, rfl, HA, HK1, BK845, HB⟩ := hrel
  cases gk with
  | zero => exact absurd HA.out (by simp [storagebarterref08_has.l0])
  | succ k1 =>
   have H := HA.out
   clear HA
   simp only [storagebarterref08_has.l0] at H
   by_cases c4 : x9_1 < (l0.length : Int)
   ·rw [if_pos c4] at H
    have c4b0 : decide (x9_1 < (l0.length : Int)) = true := decide_eq_true c4
    clear c4
    by_cases c5 : 0 ≤ x9_1
    ·rw [if_pos c5] at H
     have c5b0 : decide (0 ≤ x9_1) = true := decide_eq_true c5
     clear c5
     by_cases c6 : x9_1 < (l0.length : Int)
     ·rw [if_pos c6] at H
      have c6b0 : decide (x9_1 < (l0.length : Int)) = true := decide_eq_true c6
      clear c6
      by_cases c7 : (((rd_T78 l0 x9_1).f0) == a1_0 && (((rd_T78 l0 x9_1).f1) == a1_1)) = true
      ·rw [if_pos c7] at H
       have c7b0 : (((rd_T78 l0 x9_1).f0) == a1_0 && (((rd_T78 l0 x9_1).f1) == a1_1)) = true := c7
       (try (have c7b1 : decide (((rd_T78 l0 x9_1).f0) = a1_0 && (((rd_T78 l0 x9_1).f1) == a1_1)) = true := by simpa using c7))
       (try (have c7b2 : (((rd_T78 l0 x9_1).f0) == a1_0 && (((rd_T78 l0 x9_1).f1) == a1_1)) = true := by simpa using c7))
       clear c7
       obtain rfl := Option.some.inj H
       have p846 : 0 ≤ (x9_1 : Int) := of_decide_eq_true (by first | (with_reducible assumption) | assumption)
       have q846 : x9_1 < (l0.length : Int) := of_decide_eq_true (by first | (with_reducible assumption) | assumption)
       obtain ⟨ad846, e846, hx846_0, hx846_1⟩ := at_T78 HR0.out x9_1 p846 q846
       cases e846
       replace hx846_0 := (HB.out.cell (World.block_lt_of_cell? w _ hx846_0)).trans hx846_0
       replace hx846_1 := (HB.out.cell (World.block_lt_of_cell? w _ hx846_1)).trans hx846_1
       replace p846 := eq_true p846
       replace q846 := eq_true q846
       go_wp2_with (first | ((with_reducible refine gate_dst (N := 6) rfl ?_); refine box_event ?hg (N := 6) ?hd (cs := #[.int .i64 0, .int .i64 0]) (t := 78) ?hr ?_; (case hd => rfl); (case hg => rfl); (case hr => first | (go_simp; done) | (go_simp; rfl)); intro gb847 hg w8 hbox hb; have n0_ := Aside0.mk (blk_below (g := gb845) (o := .cells #[.int .i64 a1_0, .int .i64 a1_1] 78 (0, 0)) (by (with_reducible repeat (first | refine blk_drewN ?_ _ | refine blk_drew ?_ | refine blk_alloc ?_ _)); exact BK845.out) hb); have n1_ := Aside0.mk (below_step (by repeat (first | (with_reducible first | exact HB.out | apply below_alloc | apply pw_below_drewN | apply below_drew1 | refine below_set ?_ GE845.out) | exact HB.out)) hb); have n2_ := Aside0.mk (hbox); have n3_ := Aside0.mk ((by rw [hg]; exact (below_size (by repeat (first | (with_reducible first | exact HB.out | apply below_alloc | apply pw_below_drewN | apply below_drew1 | refine below_set ?_ GE845.out) | exact HB.out))) : w.heap.size ≤ gb847)); have n4_ := Aside0.mk ((by rw [hg]; exact (below_size (by repeat (first | (with_reducible first | exact HB.out | apply below_alloc | apply pw_below_drewN | apply below_drew1 | refine below_set ?_ GE845.out) | exact HB.out))) : w.heap.size ≤ gb847)); have n5_ := Aside0.mk ((by rw [hg]; exact Nat.ne_of_lt (blk_lt (g := gb845) (o := .cells #[.int .i64 a1_0, .int .i64 a1_1] 78 (0, 0)) (by (with_reducible repeat (first | refine blk_drewN ?_ _ | refine blk_drew ?_ | refine blk_alloc ?_ _)); exact BK845.out)) : gb845 ≠ gb847)); have n6_ := Aside0.mk ((by rw [hg]; exact Nat.ne_of_gt (blk_lt (g := gb845) (o := .cells #[.int .i64 a1_0, .int .i64 a1_1] 78 (0, 0)) (by (with_reducible repeat (first | refine blk_drewN ?_ _ | refine blk_drew ?_ | refine blk_alloc ?_ _)); exact BK845.out)) : gb847 ≠ gb845)); clear BK845; clear HB; have BK845 := n0_; have HB := n1_; have BK847 := n2_; have GW847 := n3_; have GE847 := n4_; have NB845_847 := n5_; have NB847_845 := n6_; clear n0_ n1_ n2_ n3_ n4_ n5_ n6_; clear hb hbox hg; have hnb9 := NB847_845.out; have hnc9 := NB845_847.out; have hcz10_0 : w8.cell? ⟨gb847, 0, none⟩ = some (.int .i64 0) := (blk_cell BK847.out 0).trans rfl; have hcz10_1 : w8.cell? ⟨gb847, 1, none⟩ = some (.int .i64 0) := (blk_cell BK847.out 1).trans rfl; have hfz10_0 := blk_frozen BK847.out 0; have hfz10_1 := blk_frozen BK847.out 1; have hcz11_0 : w8.cell? ⟨gb845, 0, none⟩ = some (.int .i64 a1_0) := (blk_cell BK845.out 0).trans rfl; have hcz11_1 : w8.cell? ⟨gb845, 1, none⟩ = some (.int .i64 a1_1) := (blk_cell BK845.out 1).trans rfl; have hfz11_0 := blk_frozen BK845.out 0; have hfz11_1 := blk_frozen BK845.out 1))
       go_ret
       exact ⟨by first | rfl | (simp [errW_none, errW_some] <;> rfl) | (simp [*, errW_none, errW_some] <;> rfl), by repeat (first | (with_reducible first | exact HB.out | apply below_alloc | apply pw_below_drewN | apply below_drew1 | refine below_set ?_ GE845.out | refine below_set ?_ GE847.out) | exact HB.out)⟩
      ·rw [if_neg c7] at H
       have c7b0 : (((rd_T78 l0 x9_1).f0) == a1_0 && (((rd_T78 l0 x9_1).f1) == a1_1)) = false := by simpa using c7
       (try (have c7b1 : decide (((rd_T78 l0 x9_1).f0) = a1_0 && (((rd_T78 l0 x9_1).f1) == a1_1)) = false := by simpa using c7))
       (try (have c7b2 : (((rd_T78 l0 x9_1).f0) == a1_0 && (((rd_T78 l0 x9_1).f1) == a1_1)) = false := by simpa using c7))
       (try (have c7b3 : ¬ (((rd_T78 l0 x9_1).f0) = a1_0 && (((rd_T78 l0 x9_1).f1) == a1_1)) := by simpa using c7))
       clear c7
       have H' := Aside0.mk H
       clear H
       have p846 : 0 ≤ (x9_1 : Int) := of_decide_eq_true (by first | (with_reducible assumption) | assumption)
       have q846 : x9_1 < (l0.length : Int) := of_decide_eq_true (by first | (with_reducible assumption) | assumption)
       obtain ⟨ad846, e846, hx846_0, hx846_1⟩ := at_T78 HR0.out x9_1 p846 q846
       cases e846
       replace hx846_0 := (HB.out.cell (World.block_lt_of_cell? w _ hx846_0)).trans hx846_0
       replace hx846_1 := (HB.out.cell (World.block_lt_of_cell? w _ hx846_1)).trans hx846_1
       replace p846 := eq_true p846
       replace q846 := eq_true q846
       go_wp2_with (first | ((with_reducible refine gate_dst (N := 6) rfl ?_); refine box_event ?hg (N := 6) ?hd (cs := #[.int .i64 0, .int .i64 0]) (t := 78) ?hr ?_; (case hd => rfl); (case hg => rfl); (case hr => first | (go_simp; done) | (go_simp; rfl)); intro gb847 hg w12 hbox hb; have n0_ := Aside0.mk (blk_below (g := gb845) (o := .cells #[.int .i64 a1_0, .int .i64 a1_1] 78 (0, 0)) (by (with_reducible repeat (first | refine blk_drewN ?_ _ | refine blk_drew ?_ | refine blk_alloc ?_ _)); exact BK845.out) hb); have n1_ := Aside0.mk (below_step (by repeat (first | (with_reducible first | exact HB.out | apply below_alloc | apply pw_below_drewN | apply below_drew1 | refine below_set ?_ GE845.out) | exact HB.out)) hb); have n2_ := Aside0.mk (hbox); have n3_ := Aside0.mk ((by rw [hg]; exact (below_size (by repeat (first | (with_reducible first | exact HB.out | apply below_alloc | apply pw_below_drewN | apply below_drew1 | refine below_set ?_ GE845.out) | exact HB.out))) : w.heap.size ≤ gb847)); have n4_ := Aside0.mk ((by rw [hg]; exact (below_size (by repeat (first | (with_reducible first | exact HB.out | apply below_alloc | apply pw_below_drewN | apply below_drew1 | refine below_set ?_ GE845.out) | exact HB.out))) : w.heap.size ≤ gb847)); have n5_ := Aside0.mk ((by rw [hg]; exact Nat.ne_of_lt (blk_lt (g := gb845) (o := .cells #[.int .i64 a1_0, .int .i64 a1_1] 78 (0, 0)) (by (with_reducible repeat (first | refine blk_drewN ?_ _ | refine blk_drew ?_ | refine blk_alloc ?_ _)); exact BK845.out)) : gb845 ≠ gb847)); have n6_ := Aside0.mk ((by rw [hg]; exact Nat.ne_of_gt (blk_lt (g := gb845) (o := .cells #[.int .i64 a1_0, .int .i64 a1_1] 78 (0, 0)) (by (with_reducible repeat (first | refine blk_drewN ?_ _ | refine blk_drew ?_ | refine blk_alloc ?_ _)); exact BK845.out)) : gb847 ≠ gb845)); clear BK845; clear HB; have BK845 := n0_; have HB := n1_; have BK847 := n2_; have GW847 := n3_; have GE847 := n4_; have NB845_847 := n5_; have NB847_845 := n6_; clear n0_ n1_ n2_ n3_ n4_ n5_ n6_; clear hb hbox hg; have hnb13 := NB847_845.out; have hnc13 := NB845_847.out; have hcz14_0 : w12.cell? ⟨gb847, 0, none⟩ = some (.int .i64 0) := (blk_cell BK847.out 0).trans rfl; have hcz14_1 : w12.cell? ⟨gb847, 1, none⟩ = some (.int .i64 0) := (blk_cell BK847.out 1).trans rfl; have hfz14_0 := blk_frozen BK847.out 0; have hfz14_1 := blk_frozen BK847.out 1; have hcz15_0 : w12.cell? ⟨gb845, 0, none⟩ = some (.int .i64 a1_0) := (blk_cell BK845.out 0).trans rfl; have hcz15_1 : w12.cell? ⟨gb845, 1, none⟩ = some (.int .i64 a1_1) := (blk_cell BK845.out 1).trans rfl; have hfz15_0 := blk_frozen BK845.out 0; have hfz15_1 := blk_frozen BK845.out 1))
       go_roundg k1
       case measure => have := HK1.out; omega
       case rel => exact ⟨(wrap64 (x9_1 + 1)), (by first | rfl | (simp; done) | (simp [*]; done)), H', ⟨by have := HK1.out; omega⟩, ⟨by (with_reducible repeat (first | refine blk_drewN ?_ _ | refine blk_drew ?_ | refine blk_alloc ?_ _)); refine blk_far ?_ NB845_847.out _; (with_reducible repeat (first | refine blk_drewN ?_ _ | refine blk_drew ?_ | refine blk_alloc ?_ _)); refine blk_far ?_ NB845_847.out _; (with_reducible repeat (first | refine blk_drewN ?_ _ | refine blk_drew ?_ | refine blk_alloc ?_ _)); exact BK845.out⟩, ⟨by repeat (first | (with_reducible first | exact HB.out | apply below_alloc | apply pw_below_drewN | apply below_drew1 | refine below_set ?_ GE845.out | refine below_set ?_ GE847.out) | exact HB.out)⟩⟩
     ·rw [if_neg c6] at H
      exact absurd H (by simp)
    ·rw [if_neg c5] at H
     exact absurd H (by simp)
   ·rw [if_neg c4] at H
    have c4b0 : decide (x9_1 < (l0.length : Int)) = false := decide_eq_false c4
    clear c4
    obtain rfl := Option.some.inj H
    go_wp2
    go_ret
    exact ⟨by first | rfl | (simp [errW_none, errW_some] <;> rfl) | (simp [*, errW_none, errW_some] <;> rfl), by repeat (first | (with_reducible first | exact HB.out | apply below_alloc | apply pw_below_drewN | apply below_drew1 | refine below_set ?_ GE845.out) | exact HB.out)⟩
end Go.Proofs.Ytodhkbahjomfhaa.Q

namespace Go.Proofs.Ytodhkbahjomfhaa.Q
open Go Go.RowKit Go.Proofs.YtodhkbahjomfhaaW.PrintWords Go.Proofs.YtodhkbahjomfhaaW.PrintLast Go.Proofs.YtodhkbahjomfhaaW.PrintMore
set_option linter.unusedVariables false
def api_Name_106.f (l : List S78) : Option (List S78) := if l.length ≤ 1000000 then some l else none
theorem name_KM {w : World} {base : Nat} {ok : Nat → Prop} (x : S78) (cs : List Value) (h : k78.K w x cs) : k78.M w base ok x cs := by
 obtain rfl := k78_open h
 exact k78_mkM _ _ _ _
set_option maxHeartbeats 1000000 in
set_option maxRecDepth 100000 in
theorem api_Name_106.calls (A0 : Option Addr) (c0 : Nat) (l0 : List S78) (r : List S78) (w : World) (hr0 : Kd.C k78 w A0 l0.length l0) (hc0 : l0.length ≤ c0) (h : api_Name_106.f l0 = some r) :
 Calls Try.prog 106 #[.slice A0 l0.length c0] w fun e w' => ∃ v0_ : Value, e = .returned v0_ ∧ Kd.R k78 78 w' w.heap.size (fun _ => True) v0_ r ∧ Below w.heap.size w w' := by
 unfold api_Name_106.f at h
 split at h
 case isFalse => cases h
 case isTrue hle =>
 obtain rfl := Option.some.inj h
 clear h
 have q22 := fun (w : World) (a : Option Addr) (n c n' c' : Nat) => Lib.run_eql_slice_nil (P := Try.prog) w 30 78 a n c n' c' Try.underlying30
 have HR := Aside0.mk hr0
 have HL := Aside0.mk hle
 have HC := Aside0.mk hc0
 clear hr0 hle hc0
 cases A0 with
 | none =>
  have hn : l0 = [] := by
   rcases Nat.eq_zero_or_pos l0.length with e | e
   ·exact List.eq_nil_of_length_eq_zero e
   ·obtain ⟨ad, e2, -⟩ := HR.out.2.2 e
    cases e2
  subst hn
  go_enter Try.func106, Try.ntmps106
  go_wp2
  go_ret
  exact ⟨_, rfl, Kd.R_nil _ _ _ _ _, Below.refl _ _⟩
 | some ad =>
  go_enter Try.func106, Try.ntmps106
  go_wp2_with (at_builtin; refine Kd.R_append_rows k78 (w0 := w) w.heap.size rfl (.tmp 5) (.tmp 6) 30 78 (.agg #[(.int .i64 0), (.int .i64 0)]) 16 rfl Try.underlying30 info78 rfl (by decide) (by omega) (.slice (some ⟨w.heap.size, 0, none⟩) 0 0) ([] : List S78) l0 _ _ _ (fun _ => True) (fun _ => False) rfl rfl ?aO ?aR (fun x cs hx => name_KM x cs hx) (fun _ h => h.elim) ?aF ?aB ?aS ?aL ?_)
  case aO => exact ⟨fun _ _ => trivial, [], World.ownsRow_made w #[] 0 (Nat.le_refl _) (Nat.zero_le _) (by simp), Reps.none _ _⟩
  case aR => exact Kd.C_alloc HR.out _
  case aF => exact fun _ _ => trivial
  case aB => exact below_alloc (Below.refl _ _) _
  case aS => exact below_size (below_alloc (Below.refl _ _) _)
  case aL => have := HL.out; simp only [List.length_nil]; omega
  intro v1 w1 ho hb hg hat
  go_wp2
  go_ret
  exact ⟨_, rfl, by simpa using ho, hb⟩
end Go.Proofs.Ytodhkbahjomfhaa.Q

namespace Go.Proofs.Ytodhkbahjomfhaa.Q
open Go.RowKit Go.Proofs.YtodhkbahjomfhaaW.PrintWords Go.Proofs.YtodhkbahjomfhaaW.PrintLast Go.Proofs.YtodhkbahjomfhaaW.PrintMore Go.Proofs.Ytodhkbahjomfhaa.Gput Go.Proofs.Ytodhkbahjomfhaa.Gputl
attribute [local go_sem] max2_int min2_int max_two min_two max_three min_three max_four min_four   -- for this text's walks alone
set_option linter.unusedVariables false
set_option linter.unusedSimpArgs false
attribute [local go_sem high] eqA78
noncomputable def api_Name_122.l0 : Nat → List (S78) → Int → Int → Int → Int → Option (Int)
 | 0, _, _, _, _, _ => none
 | k + 1, x0, x7, x8, x692000, x692001 => if x8 < x7 then (if 0 ≤ x8 then (if x8 < (x0.length : Int) then (if (x692000 == ((rd_T78 x0 x8).f0) && (x692001 == ((rd_T78 x0 x8).f1))) = true then (some x8) else (api_Name_122.l0 k x0 x7 (wrap64 (x8 + 1)) x692000 x692001)) else (none)) else (none)) else (some (-1))
noncomputable def api_Name_122.f (k : Nat) (l0 : List (S78)) (a1_0 : Int) (a1_1 : Int) : Option (Int) := api_Name_122.l0 k l0 (l0.length : Int) 0 a1_0 a1_1
set_option maxHeartbeats 8000000 in
set_option maxRecDepth 100000 in
theorem api_Name_122.calls (k : Nat) (A0 : Option Addr) (c0 : Nat) (l0 : List (S78)) (a1_0 : Int) (a1_1 : Int) (r : Int) (w : World) (hr0 : Kd.C k78 w A0 l0.length l0) (hc0 : l0.length ≤ c0) (h : api_Name_122.f k l0 a1_0 a1_1 = some r) :
 Calls Try.prog 122 #[.slice A0 l0.length c0, .agg #[.int .i64 a1_0, .int .i64 a1_1]] w fun e w' => e = .returned (.int .i64 r) ∧ Below w.heap.size w w' := by
 have hu78 := Try.underlying78
 have HR0 := Aside0.mk hr0
 have HC0 := Aside0.mk hc0
 clear hr0 hc0
 have HB := Aside0.mk (Below.refl w.heap.size w)
 have H : (api_Name_122.l0 k l0 (l0.length : Int) 0 a1_0 a1_1) = some r := h
 clear h
 have H' := Aside0.mk H
 clear H
 go_enter Try.func122, Try.ntmps122
 go_wp2_with (first | ((with_reducible refine gate_dst (N := 3) rfl ?_); refine box_event ?hg (N := 3) ?hd (cs := #[.int .i64 a1_0, .int .i64 a1_1]) (t := 78) ?hr ?_; (case hd => rfl); (case hg => rfl); (case hr => first | (go_simp; done) | (go_simp; rfl)); intro gb691 hg w3 hbox hb; have n0_ := Aside0.mk (below_step (by repeat (first | (with_reducible first | exact HB.out | apply below_alloc | apply pw_below_drewN | apply below_drew1) | exact HB.out)) hb); have n1_ := Aside0.mk (hbox); have n2_ := Aside0.mk ((by rw [hg]; exact (below_size (by repeat (first | (with_reducible first | exact HB.out | apply below_alloc | apply pw_below_drewN | apply below_drew1) | exact HB.out))) : w.heap.size ≤ gb691)); have n3_ := Aside0.mk ((by rw [hg]; exact (below_size (by repeat (first | (with_reducible first | exact HB.out | apply below_alloc | apply pw_below_drewN | apply below_drew1) | exact HB.out))) : w.heap.size ≤ gb691)); clear HB; have HB := n0_; have BK691 := n1_; have GW691 := n2_; have GE691 := n3_; clear n0_ n1_ n2_ n3_; clear hb hbox hg))
 repeat (go_quiet (first | ((with_reducible refine gate_dst (N := 3) rfl ?_); refine box_event ?hg (N := 3) ?hd (cs := #[.int .i64 a1_0, .int .i64 a1_1]) (t := 78) ?hr ?_; (case hd => rfl); (case hg => rfl); (case hr => first | (go_simp; done) | (go_simp; rfl)); intro gb691 hg w3 hbox hb; have n0_ := Aside0.mk (below_step (by repeat (first | (with_reducible first | exact HB.out | apply below_alloc | apply pw_below_drewN | apply below_drew1) | exact HB.out)) hb); have n1_ := Aside0.mk (hbox); have n2_ := Aside0.mk ((by rw [hg]; exact (below_size (by repeat (first | (with_reducible first | exact HB.out | apply below_alloc | apply pw_below_drewN | apply below_drew1) | exact HB.out))) : w.heap.size ≤ gb691)); have n3_ := Aside0.mk ((by rw [hg]; exact (below_size (by repeat (first | (with_reducible first | exact HB.out | apply below_alloc | apply pw_below_drewN | apply below_drew1) | exact HB.out))) : w.heap.size ≤ gb691)); clear HB; have HB := n0_; have BK691 := n1_; have GW691 := n2_; have GE691 := n3_; clear n0_ n1_ n2_ n3_; clear hb hbox hg)); try go_wp2_with (first | ((with_reducible refine gate_dst (N := 3) rfl ?_); refine box_event ?hg (N := 3) ?hd (cs := #[.int .i64 a1_0, .int .i64 a1_1]) (t := 78) ?hr ?_; (case hd => rfl); (case hg => rfl); (case hr => first | (go_simp; done) | (go_simp; rfl)); intro gb691 hg w3 hbox hb; have n0_ := Aside0.mk (below_step (by repeat (first | (with_reducible first | exact HB.out | apply below_alloc | apply pw_below_drewN | apply below_drew1) | exact HB.out)) hb); have n1_ := Aside0.mk (hbox); have n2_ := Aside0.mk ((by rw [hg]; exact (below_size (by repeat (first | (with_reducible first | exact HB.out | apply below_alloc | apply pw_below_drewN | apply below_drew1) | exact HB.out))) : w.heap.size ≤ gb691)); have n3_ := Aside0.mk ((by rw [hg]; exact (below_size (by repeat (first | (with_reducible first | exact HB.out | apply below_alloc | apply pw_below_drewN | apply below_drew1) | exact HB.out))) : w.heap.size ≤ gb691)); clear HB; have HB := n0_; have BK691 := n1_; have GW691 := n2_; have GE691 := n3_; clear n0_ n1_ n2_ n3_; clear hb hbox hg)))
 go_loopg [8] k (fun kq v8 w' => ∃ (x8_1 : Int), v8 = .int .i64 x8_1 ∧ Aside0 (api_Name_122.l0 kq l0 (l0.length : Int) x8_1 a1_0 a1_1 = some r) ∧ Aside0 (kq ≤ k) ∧ Aside0 (w'.heap[gb691]? = some (.cells #[.int .i64 a1_0, .int .i64 a1_1] 78 (0, 0))) ∧ Aside0 (Below w.heap.size w w'))
 case atStart => exact ⟨(0), (by first | rfl | (simp; done) | (simp [*]; done)), H', ⟨Nat.le_refl _⟩, ⟨by (with_reducible repeat (first | refine blk_drewN ?_ _ | refine blk_drew ?_ | refine blk_alloc ?_ _)); exact BK691.out⟩, ⟨by repeat (first | (with_reducible first | exact HB.out | apply below_alloc | apply pw_below_drewN | apply below_drew1 | refine below_set ?_ GE691.out) | exact HB.out)⟩⟩
 case round =>
  clear H'
  try clear c1
  try clear p2
  obtain ⟨x8_1, rfl, HA, HK1, BK691, HB⟩ := hrel
  cases gk with
  | zero => exact absurd HA.out (by simp [api_Name_122.l0])
  | succ k1 =>
   have H := HA.out
   clear HA
   simp only [api_Name_122.l0] at H
   by_cases c4 : x8_1 < (l0.length : Int)
   ·rw [if_pos c4] at H
    have c4b0 : decide (x8_1 < (l0.length : Int)) = true := decide_eq_true c4
    clear c4
    by_cases c5 : 0 ≤ x8_1
    ·rw [if_pos c5] at H
     have c5b0 : decide (0 ≤ x8_1) = true := decide_eq_true c5
     clear c5
     by_cases c6 : x8_1 < (l0.length : Int)
     ·rw [if_pos c6] at H
      have c6b0 : decide (x8_1 < (l0.length : Int)) = true := decide_eq_true c6
      clear c6
      by_cases c7 : (a1_0 == ((rd_T78 l0 x8_1).f0) && (a1_1 == ((rd_T78 l0 x8_1).f1))) = true
      ·rw [if_pos c7] at H
       have c7b0 : (a1_0 == ((rd_T78 l0 x8_1).f0) && (a1_1 == ((rd_T78 l0 x8_1).f1))) = true := c7
       (try (have c7b1 : decide (a1_0 = ((rd_T78 l0 x8_1).f0) && (a1_1 == ((rd_T78 l0 x8_1).f1))) = true := by simpa using c7))
       (try (have c7b2 : (a1_0 == ((rd_T78 l0 x8_1).f0) && (a1_1 == ((rd_T78 l0 x8_1).f1))) = true := by simpa using c7))
       clear c7
       obtain rfl := Option.some.inj H
       have hcz8_0 : wr.cell? ⟨gb691, 0, none⟩ = some (.int .i64 a1_0) := (blk_cell BK691.out 0).trans rfl
       have hcz8_1 : wr.cell? ⟨gb691, 1, none⟩ = some (.int .i64 a1_1) := (blk_cell BK691.out 1).trans rfl
       have hfz8_0 := blk_frozen BK691.out 0
       have hfz8_1 := blk_frozen BK691.out 1
       have p692 : 0 ≤ (x8_1 : Int) := of_decide_eq_true (by first | (with_reducible assumption) | assumption)
       have q692 : x8_1 < (l0.length : Int) := of_decide_eq_true (by first | (with_reducible assumption) | assumption)
       obtain ⟨ad692, e692, hx692_0, hx692_1⟩ := at_T78 HR0.out x8_1 p692 q692
       cases e692
       replace hx692_0 := (HB.out.cell (World.block_lt_of_cell? w _ hx692_0)).trans hx692_0
       replace hx692_1 := (HB.out.cell (World.block_lt_of_cell? w _ hx692_1)).trans hx692_1
       replace p692 := eq_true p692
       replace q692 := eq_true q692
       go_wp2
       repeat (go_quiet (fail); try go_wp2)
       go_ret
       exact ⟨by first | rfl | (simp [errW_none, errW_some] <;> rfl) | (simp [*, errW_none, errW_some] <;> rfl), by repeat (first | (with_reducible first | exact HB.out | apply below_alloc | apply pw_below_drewN | apply below_drew1 | refine below_set ?_ GE691.out) | exact HB.out)⟩
      ·rw [if_neg c7] at H
       have c7b0 : (a1_0 == ((rd_T78 l0 x8_1).f0) && (a1_1 == ((rd_T78 l0 x8_1).f1))) = false := by simpa using c7
       (try (have c7b1 : decide (a1_0 = ((rd_T78 l0 x8_1).f0) && (a1_1 == ((rd_T78 l0 x8_1).f1))) = false := by simpa using c7))
       (try (have c7b2 : (a1_0 == ((rd_T78 l0 x8_1).f0) && (a1_1 == ((rd_T78 l0 x8_1).f1))) = false := by simpa using c7))
       (try (have c7b3 : ¬ (a1_0 = ((rd_T78 l0 x8_1).f0) && (a1_1 == ((rd_T78 l0 x8_1).f1))) := by simpa using c7))
       clear c7
       have H' := Aside0.mk H
       clear H
       have hcz9_0 : wr.cell? ⟨gb691, 0, none⟩ = some (.int .i64 a1_0) := (blk_cell BK691.out 0).trans rfl
       have hcz9_1 : wr.cell? ⟨gb691, 1, none⟩ = some (.int .i64 a1_1) := (blk_cell BK691.out 1).trans rfl
       have hfz9_0 := blk_frozen BK691.out 0
       have hfz9_1 := blk_frozen BK691.out 1
       have p692 : 0 ≤ (x8_1 : Int) := of_decide_eq_true (by first | (with_reducible assumption) | assumption)
       have q692 : x8_1 < (l0.length : Int) := of_decide_eq_true (by first | (with_reducible assumption) | assumption)
       obtain ⟨ad692, e692, hx692_0, hx692_1⟩ := at_T78 HR0.out x8_1 p692 q692
       cases e692
       replace hx692_0 := (HB.out.cell (World.block_lt_of_cell? w _ hx692_0)).trans hx692_0
       replace hx692_1 := (HB.out.cell (World.block_lt_of_cell? w _ hx692_1)).trans hx692_1
       replace p692 := eq_true p692
       replace q692 := eq_true q692
       go_wp2
       repeat (go_quiet (fail); try go_wp2)
       go_roundg k1
       case measure => have := HK1.out; omega
       case rel => exact ⟨(wrap64 (x8_1 + 1)), (by first | rfl | (simp; done) | (simp [*]; done)), H', ⟨by have := HK1.out; omega⟩, ⟨by (with_reducible repeat (first | refine blk_drewN ?_ _ | refine blk_drew ?_ | refine blk_alloc ?_ _)); exact BK691.out⟩, ⟨by repeat (first | (with_reducible first | exact HB.out | apply below_alloc | apply pw_below_drewN | apply below_drew1 | refine below_set ?_ GE691.out) | exact HB.out)⟩⟩
     ·rw [if_neg c6] at H
      exact absurd H (by simp)
    ·rw [if_neg c5] at H
     exact absurd H (by simp)
   ·rw [if_neg c4] at H
    have c4b0 : decide (x8_1 < (l0.length : Int)) = false := decide_eq_false c4
    clear c4
    obtain rfl := Option.some.inj H
    go_wp2
    repeat (go_quiet (fail); try go_wp2)
    go_ret
    exact ⟨by first | rfl | (simp [errW_none, errW_some] <;> rfl) | (simp [*, errW_none, errW_some] <;> rfl), by repeat (first | (with_reducible first | exact HB.out | apply below_alloc | apply pw_below_drewN | apply below_drew1 | refine below_set ?_ GE691.out) | exact HB.out)⟩
end Go.Proofs.Ytodhkbahjomfhaa.Q

namespace Go.Proofs.Ytodhkbahjomfhaa.Q
open Go.RowKit Go.Proofs.YtodhkbahjomfhaaW.PrintWords Go.Proofs.YtodhkbahjomfhaaW.PrintLast Go.Proofs.YtodhkbahjomfhaaW.PrintMore Go.Proofs.Ytodhkbahjomfhaa.Gput Go.Proofs.Ytodhkbahjomfhaa.Gputl
attribute [local go_sem] max2_int min2_int max_two min_two max_three min_three max_four min_four   -- for this text's walks alone
set_option linter.unusedVariables false
set_option linter.unusedSimpArgs false
noncomputable def api_Name_103.f (k : Nat) (l0 : List (S78)) (a1_0 : Int) (a1_1 : Int) : Option (Bool) := (api_Name_122.f k l0 a1_0 a1_1).bind fun t694 => (some (decide (t694 ≥ 0)))
set_option maxHeartbeats 8000000 in
set_option maxRecDepth 100000 in
theorem api_Name_103.calls (k : Nat) (A0 : Option Addr) (c0 : Nat) (l0 : List (S78)) (a1_0 : Int) (a1_1 : Int) (r : Bool) (w : World) (hr0 : Kd.C k78 w A0 l0.length l0) (hc0 : l0.length ≤ c0) (h : api_Name_103.f k l0 a1_0 a1_1 = some r) :
 Calls Try.prog 103 #[.slice A0 l0.length c0, .agg #[.int .i64 a1_0, .int .i64 a1_1]] w fun e w' => e = .returned (.bool r) ∧ Below w.heap.size w w' := by
 have hu78 := Try.underlying78
 have HR0 := Aside0.mk hr0
 have HC0 := Aside0.mk hc0
 clear hr0 hc0
 have HB := Aside0.mk (Below.refl w.heap.size w)
 have H : ((api_Name_122.f k l0 a1_0 a1_1).bind fun t694 => (some (decide (t694 ≥ 0)))) = some r := h
 clear h
 replace H := Option.bind_eq_some_iff.mp H
 obtain ⟨t694, A30, H⟩ := H
 replace H : (some (decide (t694 ≥ 0))) = some r := H
 have A3 := Aside0.mk A30
 clear A30
 obtain rfl := Option.some.inj H
 go_enter Try.func103, Try.ntmps103
 go_wp2_with (first | ((with_reducible refine gate_dst (N := 3) rfl ?_); refine box_event ?hg (N := 3) ?hd (cs := #[.int .i64 a1_0, .int .i64 a1_1]) (t := 78) ?hr ?_; (case hd => rfl); (case hg => rfl); (case hr => first | (go_simp; done) | (go_simp; rfl)); intro gb693 hg w4 hbox hb; have n0_ := Aside0.mk (below_step (by repeat (first | (with_reducible first | exact HB.out | apply below_alloc | apply pw_below_drewN | apply below_drew1) | exact HB.out)) hb); have n1_ := Aside0.mk (hbox); have n2_ := Aside0.mk ((by rw [hg]; exact (below_size (by repeat (first | (with_reducible first | exact HB.out | apply below_alloc | apply pw_below_drewN | apply below_drew1) | exact HB.out))) : w.heap.size ≤ gb693)); have n3_ := Aside0.mk ((by rw [hg]; exact (below_size (by repeat (first | (with_reducible first | exact HB.out | apply below_alloc | apply pw_below_drewN | apply below_drew1) | exact HB.out))) : w.heap.size ≤ gb693)); clear HB; have HB := n0_; have BK693 := n1_; have GW693 := n2_; have GE693 := n3_; clear n0_ n1_ n2_ n3_; clear hb hbox hg; have hcz5_0 : w4.cell? ⟨gb693, 0, none⟩ = some (.int .i64 a1_0) := (blk_cell BK693.out 0).trans rfl; have hcz5_1 : w4.cell? ⟨gb693, 1, none⟩ = some (.int .i64 a1_1) := (blk_cell BK693.out 1).trans rfl; have hfz5_0 := blk_frozen BK693.out 0; have hfz5_1 := blk_frozen BK693.out 1) | ((with_reducible refine gate_callee (f := 122) rfl ?_); refine goesL_ (some 7) rfl rfl Try.func122 (by kernel_rfl) rfl #[.slice A0 l0.length c0, .agg #[.int .i64 a1_0, .int .i64 a1_1]] rfl (by (try simp only [List.map_toArray, List.map_cons, List.map_nil]); first | done | rfl | (simp only [List.length_drop, List.length_take]; rfl)) ?_; (with_reducible refine (api_Name_122.calls k _ _ l0 a1_0 a1_1 t694 _ ?side1 ?side2 A3.out).mono ?_); (case side1 => repeat (first | exact (Kd.C_below HR0.out HB.out) | (with_reducible refine Kd.C_alloc ?_ _) | (with_reducible refine Kd.C_drewN ?_ _) | (with_reducible refine Kd.C_drew ?_))); (case side2 => exact HC0.out); rintro e w6 ⟨rfl, hb⟩; refine ⟨_, rfl, ?_⟩; have n0_ := Aside0.mk (blk_below (g := gb693) (o := .cells #[.int .i64 a1_0, .int .i64 a1_1] 78 (0, 0)) (by (with_reducible repeat (first | refine blk_drewN ?_ _ | refine blk_drew ?_ | refine blk_alloc ?_ _)); exact BK693.out) hb); have n1_ := Aside0.mk (below_step (by repeat (first | (with_reducible first | exact HB.out | apply below_alloc | apply pw_below_drewN | apply below_drew1 | refine below_set ?_ GE693.out) | exact HB.out)) hb); clear BK693; clear HB; have BK693 := n0_; have HB := n1_; clear n0_ n1_; (try clear hb); (try clear hb2); (try clear hk); (try clear hi)))
 go_ret
 exact ⟨by first | rfl | (simp [errW_none, errW_some] <;> rfl) | (simp [*, errW_none, errW_some] <;> rfl), by repeat (first | (with_reducible first | exact HB.out | apply below_alloc | apply pw_below_drewN | apply below_drew1 | refine below_set ?_ GE693.out) | exact HB.out)⟩
end Go.Proofs.Ytodhkbahjomfhaa.Q

namespace Go.Proofs.Ytodhkbahjomfhaa.Q
open Go Go.RowKit Go.Sort Go.Lib Go.Proofs Go.Proofs.Ytodhkbahjomfhaa.Gfl Go.Proofs.YtodhkbahjomfhaaW.PrintWords Go.Proofs.YtodhkbahjomfhaaW.PrintLast Go.Proofs.YtodhkbahjomfhaaW.PrintMore
set_option linter.unusedVariables false
theorem rd_N (m : List S78) (i : Nat) (hi : i < m.length) : rd_T78 m (i : Int) = m[i] := by
 simp [rd_T78, List.getD, hi]
theorem idx_eq (m : List S78) (x : S78) (hm : m.length ≤ 1000000) : ∀ (n i k : Nat), m.length - i = n → i ≤ m.length → n + 1 ≤ k →
 ∃ j : Int, api_Name_122.l0 k m (m.length : Int) (i : Int) x.f0 x.f1 = some j ∧ (0 ≤ j ↔ x ∈ m.drop i) := by
 intro n
 induction n with
 | zero =>
  intro i k h1 h2 h3
  obtain ⟨k, rfl⟩ : ∃ k', k = k' + 1 := ⟨k - 1, by omega⟩
  have hi : i = m.length := by omega
  subst hi
  refine ⟨-1, ?_, by simp⟩
  simp only [api_Name_122.l0]
  rw [if_neg (by omega)]
 | succ n ih =>
  intro i k h1 h2 h3
  obtain ⟨k, rfl⟩ : ∃ k', k = k' + 1 := ⟨k - 1, by omega⟩
  have hi : i < m.length := by omega
  simp only [api_Name_122.l0]
  rw [if_pos (by omega), if_pos (by omega), if_pos (by omega), rd_N m i hi, List.drop_eq_getElem_cons hi]
  by_cases hx : x = m[i]
  ·rw [if_pos (by rw [hx]; simp)]
   exact ⟨_, rfl, fun _ => by rw [hx]; exact List.mem_cons_self, fun _ => by omega⟩
  ·rw [if_neg (by
    simp only [Bool.and_eq_true, beq_iff_eq]
    rintro ⟨h5, h6⟩
    apply hx
    cases x
    cases hmi : m[i]
    rw [hmi] at h5 h6
    simp only at h5 h6
    rw [h5, h6])]
   have hw : wrap64 ((i : Int) + 1) = ((i + 1 : Nat) : Int) := by
    unfold wrap64
    omega
   rw [hw]
   obtain ⟨j, hj, hh⟩ := ih (i + 1) k (by omega) (by omega) (by omega)
   refine ⟨j, hj, ?_⟩
   rw [hh, List.mem_cons]
   exact ⟨fun h => .inr h, fun h => h.resolve_left hx⟩
theorem con_eq (m : List S78) (x : S78) (hm : m.length ≤ 1000000) : api_Name_103.f (m.length + 1) m x.f0 x.f1 = some (decide (x ∈ m)) := by
 unfold api_Name_103.f api_Name_122.f
 obtain ⟨j, hj, hh⟩ := idx_eq m x hm m.length 0 (m.length + 1) rfl (Nat.zero_le _) (Nat.le_refl _)
 simp only [Int.ofNat_zero, Int.natCast_zero, List.drop_zero] at hj hh
 rw [hj]
 simp only [Option.bind_some, Option.some.injEq]
 exact decide_eq_decide.2 hh
noncomputable def notIn (l m : List S78) : List S78 := l.filter fun n => !decide (n ∈ m)
noncomputable def woN (l m : List S78) : List S78 := Lib.compact (srtN (notIn l m))
noncomputable def manifest_without.f (l0 l1 : List S78) : Option (List S78) := if l0.length ≤ 1000000 ∧ l1.length ≤ 1000000 then some (woN l0 l1) else none
theorem srtN_length (l : List S78) : (srtN l).length = l.length := List.length_mergeSort l
theorem compact_le (l : List S78) : (Lib.compact l).length ≤ l.length := by
 unfold Lib.compact Lib.compactUpTo
 rw [List.length_map]
 exact Nat.le_trans (List.length_filter_le _ _) (by rw [List.length_range]; exact Nat.le_refl _)
structure WoW (w W : World) (vs : Value) (out : List S78) : Prop where
 hb : Below w.heap.size w W
 r : Kd.R k78 78 W w.heap.size (fun _ => True) vs out
theorem WoW.below {w W W' : World} {vs : Value} {out : List S78} (h : WoW w W vs out) (hb : Below W.heap.size W W') : WoW w W' vs out := ⟨below_step h.hb hb, Kd.R_below h.r hb⟩
theorem WoW.alloc {w W : World} {vs : Value} {out : List S78} (h : WoW w W vs out) (o : Obj) : WoW w (W.alloc o) vs out := h.below (below_alloc (Below.refl _ _) o)
set_option maxRecDepth 100000 in
set_option maxHeartbeats 4000000 in
theorem manifest_without.calls (A0 : Option Addr) (c0 : Nat) (l0 : List S78) (A1 : Option Addr) (c1 : Nat) (l1 : List S78) (r : List S78) (w : World) (hr0 : Kd.C k78 w A0 l0.length l0) (hc0 : l0.length ≤ c0) (hr1 : Kd.C k78 w A1 l1.length l1) (hc1 : l1.length ≤ c1) (h : manifest_without.f l0 l1 = some r) :
 Calls Try.prog 86 #[.slice A0 l0.length c0, .slice A1 l1.length c1] w fun e w' => ∃ v0_ : Value, e = .returned v0_ ∧ Kd.R k78 78 w' w.heap.size (fun _ => True) v0_ r ∧ Below w.heap.size w w' := by
 unfold manifest_without.f at h
 split at h
 case isFalse => cases h
 case isTrue hle =>
 obtain rfl := Option.some.inj h
 clear h
 have hu78 := Try.underlying78
 have HR := Aside0.mk hr0
 have HR1 := Aside0.mk hr1
 have HC1 := Aside0.mk hc1
 have HL := Aside0.mk hle
 have HE : Aside0 (notIn (l0.take 0) l1 = []) := ⟨by simp [notIn]⟩
 have HS : Aside0 (WoW w w (.slice none 0 0) []) := ⟨⟨Below.refl _ _, Kd.R_nil _ _ _ _ _⟩⟩
 have hl0 : l0.length ≤ 1000000 := HL.out.1
 clear hr0 hr1 hc1 hle hc0
 go_enter Try.func86, Try.ntmps86
 go_wp2
 go_loopw [5, 10] (fun v5 v10 wr => ∃ (k : Nat), k ≤ l0.length ∧ v10 = .int .i64 k ∧ Aside0 (WoW w wr v5 (notIn (l0.take k) l1))) (fun _ v10 _ => l0.length - (intOf v10).toNat)
 case atStart => exact ⟨0, Nat.zero_le _, rfl, ⟨by rw [HE.out]; exact HS.out⟩⟩
 case round =>
  clear HS HE
  obtain ⟨k, hk, rfl, HS⟩ := hrel
  by_cases hlt : k < l0.length
  case pos =>
   obtain ⟨ad, ead, hx0, hx1⟩ := at_T78 HR.out k (by omega) (by omega)
   cases ead
   replace hx0 := (HS.out.hb.cell (World.block_lt_of_cell? w _ hx0)).trans hx0
   replace hx1 := (HS.out.hb.cell (World.block_lt_of_cell? w _ hx1)).trans hx1
   simp only [Int.toNat_natCast] at hx0 hx1
   rw [rd_N l0 k hlt] at hx0 hx1
   have htk : l0.take (k + 1) = l0.take k ++ [l0[k]] := List.take_succ_eq_append_getElem hlt
   have hnl : (notIn (l0.take k) l1).length ≤ 1000000 := Nat.le_trans (List.length_filter_le _ _) (by rw [List.length_take]; have := HL.out; omega)
   have hcon := con_eq l1 l0[k] HL.out.2
   have hnext : notIn (l0.take (k + 1)) l1 = notIn (l0.take k) l1 ++ (if l0[k] ∈ l1 then [] else [l0[k]]) := by
    rw [htk]
    unfold notIn
    rw [List.filter_append]
    congr 1
    by_cases hm : l0[k] ∈ l1 <;> simp [hm]
   generalize hxk : l0[k] = x at hx0 hx1 hcon hnext
   obtain ⟨x0, x1⟩ := x
   simp only at hx0 hx1 hcon
   have HNX := Aside0.mk hnext
   have HNL := Aside0.mk hnl
   clear htk hnl hnext hxk
   generalize hout : notIn (l0.take k) l1 = out at HS HNX HNL
   clear hout
   by_cases hm : (⟨x0, x1⟩ : S78) ∈ l1
   ·rw [decide_eq_true hm] at hcon
    have HCN := Aside0.mk hcon
    have HM := Aside0.mk hm
    clear hcon hm
    go_wp2_with (go_at_call 103; with_reducible refine (api_Name_103.calls (l1.length + 1) A1 c1 l1 x0 x1 _ _ (Kd.C_below HR1.out (below_alloc HS.out.hb _)) HC1.out HCN.out).mono ?_; rintro e w2 ⟨rfl, hb⟩; have n_ := Aside0.mk ((HS.out.alloc _).below hb); clear HS hx0 hx1; have HS := n_; clear n_ hb)
    go_roundw
    case rel => exact ⟨k + 1, by omega, by simp, ⟨by rw [HNX.out, if_pos HM.out, List.append_nil]; exact HS.out⟩⟩
    case measure => simp only [intOf]; omega
   ·rw [decide_eq_false hm] at hcon
    have HCN := Aside0.mk hcon
    have HM := Aside0.mk hm
    clear hcon hm
    go_wp2_with (first | (go_at_call 103; with_reducible refine (api_Name_103.calls (l1.length + 1) A1 c1 l1 x0 x1 _ _ (Kd.C_below HR1.out (below_alloc HS.out.hb _)) HC1.out HCN.out).mono ?_; rintro e w2 ⟨rfl, hb⟩; have B7 := Aside0.mk (blk_below (heap_alloc_new wr (.cells #[.int .i64 x0, .int .i64 x1] 78)) hb); have n_ := Aside0.mk ((HS.out.alloc _).below hb); clear HS hx0 hx1; have HS := n_; clear n_ hb; have hc7_0 : w2.cell? ⟨wr.heap.size, 0, none⟩ = some (.int .i64 x0) := (blk_cell B7.out 0).trans rfl; have hc7_1 : w2.cell? ⟨wr.heap.size, 1, none⟩ = some (.int .i64 x1) := (blk_cell B7.out 1).trans rfl) | (at_builtin; refine Kd.R_append k78 (w0 := w) w.heap.size rfl (.tmp 18) (.tmp 20) 30 78 (.agg #[.int .i64 0, .int .i64 0]) 16 rfl Try.underlying30 info78 rfl (by decide) (by omega) u5 out (⟨x0, x1⟩ : S78) [.int .i64 x0, .int .i64 x1] (fun _ => True) (fun _ => False) rfl rfl (k78_mkM _ _ _ _) (fun _ hk => hk.elim) (fun _ _ => trivial) HS.out.r HS.out.hb HS.out.hb.size (by have := HNL.out; omega) ?_; intro v1 w4_ ho hb hg hat; have n_ : Aside0 (WoW w w4_ v1 (out ++ [(⟨x0, x1⟩ : S78)])) := ⟨⟨hb, ho⟩⟩; clear HS B7 hc7_0 hc7_1; have HS := n_; clear n_ ho hb hg hat))
    go_roundw
    case rel => exact ⟨k + 1, by omega, by simp, ⟨by rw [HNX.out, if_neg HM.out]; exact HS.out⟩⟩
    case measure => simp only [intOf]; omega
  case neg =>
   have hkl : k = l0.length := by omega
   subst hkl
   rw [List.take_length] at HS
   have hnl : (notIn l0 l1).length ≤ 1000000 := Nat.le_trans (List.length_filter_le _ _) HL.out.1
   have hn2 : (srtN (notIn l0 l1)).length ≤ 1000000 := by rw [srtN_length]; exact hnl
   have hn3 : (Lib.compact (srtN (notIn l0 l1))).length ≤ 1000000 := Nat.le_trans (compact_le _) hn2
   have HNL := Aside0.mk hnl
   have HN2 := Aside0.mk hn2
   have HN3 := Aside0.mk hn3
   clear hnl hn2 hn3
   go_wp2_with (first | (go_at_call 104; with_reducible refine (sortN_calls HS.out.r HS.out.hb (by have := HNL.out; omega)).mono ?_; rintro e w2 ⟨rfl, hr, hg, hb⟩; have n_ := Aside0.mk (WoW.mk hb hr); clear HS; have HS := n_; clear n_ hb hr hg) | (go_at_call 107; with_reducible refine (compactN_calls HS.out.r HS.out.hb HN2.out).mono ?_; rintro e w3 ⟨v', rfl, hr, hg, hb⟩; obtain ⟨A, c, ev, hl, hC⟩ := Kd.R_reads hr; subst ev; have HCC := Aside0.mk hC; have HCL := Aside0.mk hl; have n_ := Aside0.mk (WoW.mk hb hr); clear HS; have HS := n_; clear n_ hb hr hg hl hC) | (go_at_call 106; with_reducible refine (api_Name_106.calls A c (Lib.compact (srtN (notIn l0 l1))) (Lib.compact (srtN (notIn l0 l1))) _ HCC.out HCL.out (by unfold api_Name_106.f; rw [if_pos HN3.out])).mono ?_; rintro e w4 ⟨v4, rfl, hr, hb⟩; have n_ := Aside0.mk (WoW.mk (below_step HS.out.hb hb) (Kd.R_lower hr HS.out.hb.size)); clear HS; have HS := n_; clear n_ hb hr))
   go_ret
   exact ⟨_, rfl, HS.out.r, HS.out.hb⟩
end Go.Proofs.Ytodhkbahjomfhaa.Q

namespace Go.Proofs.Ytodhkbahjomfhaa.Q
open Go Go.RowKit Go.Sort Go.Lib Go.Proofs Go.Proofs.Ytodhkbahjomfhaa.Gfl Go.Proofs.YtodhkbahjomfhaaW.PrintWords Go.Proofs.YtodhkbahjomfhaaW.PrintLast Go.Proofs.YtodhkbahjomfhaaW.PrintMore
set_option linter.unusedVariables false
instance decLtN (x y : S78) : Decidable (ltN x y) := by unfold ltN; exact inferInstance
def posN (out : List S78) (n : S78) : Nat → Nat
 | 0 => 0
 | i + 1 => if ltN n (out[i]!) then posN out n i else i + 1
theorem posN_le (out : List S78) (n : S78) : ∀ i, posN out n i ≤ i
 | 0 => Nat.le_refl _
 | i + 1 => by
  rw [posN]
  split
  ·exact Nat.le_trans (posN_le out n i) (Nat.le_succ i)
  ·exact Nat.le_refl _
def insN (out : List S78) (n : S78) : List S78 := out.take (posN out n out.length) ++ n :: out.drop (posN out n out.length)
theorem insN_length (out : List S78) (n : S78) : (insN out n).length = out.length + 1 := by
 have := posN_le out n out.length
 unfold insN
 rw [List.length_append, List.length_cons, List.length_take, List.length_drop]
 omega
def rwGo (b : List S78) : List S78 → List S78 → List S78
 | out, [] => out
 | out, n :: r => if n ∈ b ∨ n ∈ out then rwGo b out r else rwGo b (insN out n) r
theorem flat_shift (out : List S78) (n z : S78) (i : Nat) (hi : i ≤ out.length) :
 setMany (setMany (flatK enN 2 (out ++ [z]).toArray) ((i + 1) * 2) ((List.range ((out.length - i) * 2)).map fun t => (flatK enN 2 (out ++ [z]).toArray)[i * 2 + t]!)) (i * 2) (enN n) = flatK enN 2 (out.take i ++ n :: out.drop i).toArray := by
 have hl : (out.take i ++ n :: out.drop i).length = out.length + 1 := by
  rw [List.length_append, List.length_cons, List.length_take, List.length_drop]
  omega
 refine ext_get! (by simp [hl]) fun t ht => ?_
 have ht' : t < (out.length + 1) * 2 := by simpa using ht
 have ha : t < (out ++ [z]).toArray.size * 2 := by simpa using ht'
 have hb : t < (out.take i ++ n :: out.drop i).toArray.size * 2 := by simp only [List.size_toArray, hl]; exact ht'
 have hlen : ((List.range ((out.length - i) * 2)).map fun t => (flatK enN 2 (out ++ [z]).toArray)[i * 2 + t]!).length = (out.length - i) * 2 := by simp
 rw [get_setMany _ _ _ t (by simpa using ht'), get_setMany _ _ _ t (by simpa using ht'), get_flatK _ _ _ t ha, get_flatK _ _ _ t hb, hlen]
 have h1 : (enN n).length = 2 := rfl
 have hg : ∀ (l : List S78) (j : Nat) (h : j < l.length), l.toArray[j]! = l[j] := fun l j h => by simp [h]
 have hdiv := Nat.div_add_mod t 2
 have hmod := Nat.mod_lt t (show 0 < 2 by decide)
 rw [h1]
 by_cases e1 : t / 2 = i
 ·rw [if_pos (by omega), e1, hg _ i (by rw [hl]; omega), List.getElem_append_right (by rw [List.length_take]; omega)]
  have : i - (out.take i).length = 0 := by rw [List.length_take]; omega
  simp only [this, List.getElem_cons_zero]
  congr 1
  omega
 ·rw [if_neg (by omega)]
  by_cases e2 : i < t / 2
  ·rw [if_pos (by omega)]
   have e3 : t - (i + 1) * 2 < (out.length - i) * 2 := by omega
   rw [getElem!_pos _ (t - (i + 1) * 2) (by rw [hlen]; exact e3), List.getElem_map, List.getElem_range, get_flatK _ _ _ _ (by simp; omega), hg _ (t / 2) (by rw [hl]; omega), List.getElem_append_right (by rw [List.length_take]; omega)]
   have e4 : (i * 2 + (t - (i + 1) * 2)) / 2 = t / 2 - 1 := by omega
   have e5 : (i * 2 + (t - (i + 1) * 2)) % 2 = t % 2 := by omega
   rw [e4, e5, hg _ (t / 2 - 1) (by rw [List.length_append, List.length_singleton]; omega), List.getElem_append_left (by omega)]
   have e6 : t / 2 - (out.take i).length = (t / 2 - 1 - i) + 1 := by rw [List.length_take]; omega
   simp only [e6, List.getElem_cons_succ, List.getElem_drop]
   have e7 : i + (t / 2 - 1 - i) = t / 2 - 1 := by omega
   simp only [e7]
  ·rw [if_neg (by omega), hg _ (t / 2) (by rw [List.length_append, List.length_singleton]; omega), hg _ (t / 2) (by rw [hl]; omega), List.getElem_append_left (by omega), List.getElem_append_left (by rw [List.length_take]; omega), List.getElem_take]
theorem heap_setCells {g e : Nat} : ∀ (vs : List Value) (o : Nat) (w : World) (cur : Array Value), w.heap[g]? = some (.cells cur e (0, 0)) → ∃ cur', (w.setCells g o vs).heap[g]? = some (.cells cur' e (0, 0)) ∧ cur'.size = cur.size
 | [], _, _, cur, h => ⟨cur, h, rfl⟩
 | v :: r, o, w, cur, h => by
  have h1 : (w.setCell ⟨g, o, none⟩ v).heap[g]? = some (.cells (cur.setIfInBounds o v) e (0, 0)) := by simp [World.setCell, Array.getElem?_modify, h]
  obtain ⟨cur', h2, h3⟩ := heap_setCells r (o + 1) _ _ h1
  exact ⟨cur', h2, by rw [h3]; simp⟩
theorem run_copyN (w : World) (ty : TypeId) (b o dLen dCap so sLen sCap : Nat) (cs : List Value) (hn : cs.length = Nat.min sLen dLen * 2)
 (hsrc : ∀ j v, cs[j]? = some v → w.cell? ⟨b, so + j, none⟩ = some v) (hc : ∀ j, j < cs.length → (w.cell? ⟨b, o + j, none⟩).isSome = true) (hf : ∀ j, j < cs.length → w.frozen? ⟨b, o + j, none⟩ = false) (h1 : ∀ v ∈ cs, v.oneCell' = true) :
 (Builtin.copy_ #[30, 30] ty #[.slice (some ⟨b, o, none⟩) dLen dCap, .slice (some ⟨b, so, none⟩) sLen sCap]).run Try.prog w = .ok (goInt (Nat.min sLen dLen : Nat)) (w.setCells b o cs) := by
 have hl := run_loadCells_list (P := Try.prog) w ⟨b, so, none⟩ cs (fun j v hj => by
  have hadd : (⟨b, so, none⟩ : Addr).add j = ⟨b, so + j, none⟩ := by unfold Addr.add; split <;> simp_all
  rw [hadd]
  exact hsrc j v hj)
 have hst := run_storeCells_cells (P := Try.prog) b o cs 0 w (by simpa using hc) (by simpa using hf) h1
 simp only [Nat.add_zero] at hst
 have hs : ∀ w, (Go.sizeOf 78).run Try.prog w = .ok 2 w := Try.sizeOf78
 simp [Builtin.copy_, run_underlying Try.underlying30, Builtin.lenOf, Builtin.firstCells, hs, ← hn, hl, hst]
theorem rhas_l0 (m : List S78) (x0 x1 : Int) (hm : m.length ≤ 1000000) : ∀ (n i k : Nat), m.length - i = n → i ≤ m.length → n + 1 ≤ k →
 storagebarterref08_has.l0 k m (m.length : Int) (i : Int) x0 x1 = some (decide ((⟨x0, x1⟩ : S78) ∈ m.drop i)) := by
 intro n
 induction n with
 | zero =>
  intro i k h1 h2 h3
  obtain ⟨k, rfl⟩ : ∃ k', k = k' + 1 := ⟨k - 1, by omega⟩
  rw [storagebarterref08_has.l0, if_neg (by omega), List.drop_of_length_le (by omega)]
  simp
 | succ n ih =>
  intro i k h1 h2 h3
  obtain ⟨k, rfl⟩ : ∃ k', k = k' + 1 := ⟨k - 1, by omega⟩
  have hi : i < m.length := by omega
  have hw : wrap64 ((i : Int) + 1) = ((i + 1 : Nat) : Int) := by
   unfold wrap64
   omega
  rw [storagebarterref08_has.l0, if_pos (by omega), if_pos (by omega), if_pos (by omega), rd_N m i hi, List.drop_eq_getElem_cons hi]
  by_cases hx : m[i] = (⟨x0, x1⟩ : S78)
  ·rw [if_pos (by rw [hx]; simp), hx, decide_eq_true List.mem_cons_self]
  ·rw [if_neg (by
    simp only [Bool.and_eq_true, beq_iff_eq]
    rintro ⟨h5, h6⟩
    apply hx
    cases hmi : m[i]
    rw [hmi] at h5 h6
    simp only at h5 h6
    rw [h5, h6]), hw, ih (i + 1) k (by omega) (by omega) (by omega)]
   congr 1
   refine decide_eq_decide.2 ?_
   rw [List.mem_cons]
   exact ⟨.inr, fun h => h.resolve_left (fun e => hx e.symm)⟩
theorem rhas_eq (m : List S78) (x0 x1 : Int) (hm : m.length ≤ 1000000) : storagebarterref08_has.f (m.length + 1) m x0 x1 = some (decide ((⟨x0, x1⟩ : S78) ∈ m)) := by
 have h := rhas_l0 m x0 x1 hm m.length 0 (m.length + 1) rfl (Nat.zero_le _) (Nat.le_refl _)
 rw [List.drop_zero] at h
 exact h
def storagebarterref08_without.f (l0 l1 : List S78) : Option (List S78) := if l0.length ≤ 400000 ∧ l1.length ≤ 400000 then some (rwGo l1 [] l0) else none
set_option maxRecDepth 100000 in
set_option maxHeartbeats 4000000 in
theorem storagebarterref08_without.calls (A0 : Option Addr) (c0 : Nat) (l0 : List S78) (A1 : Option Addr) (c1 : Nat) (l1 : List S78) (r : List S78) (w : World) (hr0 : Kd.C k78 w A0 l0.length l0) (hc0 : l0.length ≤ c0) (hr1 : Kd.C k78 w A1 l1.length l1) (hc1 : l1.length ≤ c1) (h : storagebarterref08_without.f l0 l1 = some r) :
 Calls Try.prog 88 #[.slice A0 l0.length c0, .slice A1 l1.length c1] w fun e w' => ∃ v0_ : Value, e = .returned v0_ ∧ Kd.R k78 78 w' w.heap.size (fun _ => True) v0_ r ∧ Below w.heap.size w w' := by
 unfold storagebarterref08_without.f at h
 split at h
 case isFalse => cases h
 case isTrue hle =>
 obtain rfl := Option.some.inj h
 clear h
 have mixed : (Try.prog).follows .mixedOrders = true := by kernel_rfl
 have hu78 := Try.underlying78
 have HR := Aside0.mk hr0
 have HR1 := Aside0.mk hr1
 have HC1 := Aside0.mk hc1
 have HL := Aside0.mk hle
 have HQ : Aside0 (rwGo l1 [] (l0.drop 0) = rwGo l1 [] l0) := ⟨by rw [List.drop_zero]⟩
 have HS : Aside0 (WoW w w (.slice none 0 0) []) := ⟨⟨Below.refl _ _, Kd.R_nil _ _ _ _ _⟩⟩
 have hl0 : l0.length ≤ 400000 := HL.out.1
 clear hr0 hr1 hc1 hle hc0
 go_enter Try.func88, Try.ntmps88
 go_wp2
 go_loopw [5, 11] (fun v5 v11 wr => ∃ (k co : Nat) (Ao : Option Addr) (out : List S78), k ≤ l0.length ∧ v11 = .int .i64 k ∧ v5 = .slice Ao out.length co ∧ out.length ≤ k ∧ Aside0 (WoW w wr (.slice Ao out.length co) out) ∧ Aside0 (rwGo l1 out (l0.drop k) = rwGo l1 [] l0)) (fun _ v11 _ => l0.length - (intOf v11).toNat)
 case atStart => exact ⟨0, 0, none, [], Nat.zero_le _, rfl, rfl, Nat.le_refl _, HS, HQ⟩
 case round =>
  clear HS HQ
  obtain ⟨k, co, Ao, out, hk, rfl, rfl, hnk, HS, HQ⟩ := hrel
  by_cases hlt : k < l0.length
  case pos =>
   obtain ⟨ad, ead, hx0, hx1⟩ := at_T78 HR.out k (by omega) (by omega)
   cases ead
   replace hx0 := (HS.out.hb.cell (World.block_lt_of_cell? w _ hx0)).trans hx0
   replace hx1 := (HS.out.hb.cell (World.block_lt_of_cell? w _ hx1)).trans hx1
   simp only [Int.toNat_natCast] at hx0 hx1
   rw [rd_N l0 k hlt] at hx0 hx1
   have hq := HQ.out
   rw [List.drop_eq_getElem_cons hlt, rwGo] at hq
   generalize hxk : l0[k] = x at hx0 hx1 hq
   obtain ⟨x0, x1⟩ := x
   simp only at hx0 hx1
   clear hxk HQ
   have hcb := rhas_eq l1 x0 x1 (by have := HL.out; omega)
   by_cases hm : (⟨x0, x1⟩ : S78) ∈ l1
   ·rw [if_pos (.inl hm)] at hq
    rw [decide_eq_true hm] at hcb
    have HQ := Aside0.mk hq
    have HCB := Aside0.mk hcb
    clear hq hcb hm
    go_wp2_with (go_at_call 109; with_reducible refine (storagebarterref08_has.calls (l1.length + 1) A1 c1 l1 x0 x1 _ _ (Kd.C_below HR1.out (below_alloc HS.out.hb _)) HC1.out HCB.out).mono ?_; rintro e w2 ⟨rfl, hb⟩; have n_ := Aside0.mk ((HS.out.alloc _).below hb); clear HS hx0 hx1; have HS := n_; clear n_ hb)
    go_roundw
    case rel => exact ⟨k + 1, co, Ao, out, by omega, by simp, rfl, by omega, HS, HQ⟩
    case measure => simp only [intOf]; omega
   ·rw [decide_eq_false hm] at hcb
    have HCB := Aside0.mk hcb
    clear hcb
    have hco := rhas_eq out x0 x1 (by omega)
    have ARM1 := HCB
    by_cases hmo : (⟨x0, x1⟩ : S78) ∈ out
    ·rw [if_pos (.inr hmo)] at hq
     rw [decide_eq_true hmo] at hco
     have HQ := Aside0.mk hq
     have HCO := Aside0.mk hco
     clear hq hco hm hmo
     go_wp2_with (first | (go_at_call_of 109 (Value.slice A1 l1.length c1); with_reducible refine (storagebarterref08_has.calls (l1.length + 1) A1 c1 l1 x0 x1 _ _ (Kd.C_below HR1.out (below_alloc HS.out.hb _)) HC1.out HCB.out).mono ?_; rintro e w2 ⟨rfl, hb⟩; have B7 := Aside0.mk (blk_below (heap_alloc_new wr (.cells #[.int .i64 x0, .int .i64 x1] 78)) hb); have n_ := Aside0.mk ((HS.out.alloc _).below hb); clear HS hx0 hx1; have HS := n_; clear n_ hb; have hc7_0 : w2.cell? ⟨wr.heap.size, 0, none⟩ = some (.int .i64 x0) := (blk_cell B7.out 0).trans rfl; have hc7_1 : w2.cell? ⟨wr.heap.size, 1, none⟩ = some (.int .i64 x1) := (blk_cell B7.out 1).trans rfl) | (go_at_call_of 109 (Value.slice Ao out.length co); with_reducible refine (storagebarterref08_has.calls (out.length + 1) Ao co out x0 x1 _ _ (Kd.R_reads' HS.out.r).2.2 (Kd.R_reads' HS.out.r).2.1 HCO.out).mono ?_; rintro e w3 ⟨rfl, hb⟩; have n_ := Aside0.mk (HS.out.below hb); clear HS; have HS := n_; clear n_ hb))
     go_roundw
     case rel => exact ⟨k + 1, co, Ao, out, by omega, by simp, rfl, by omega, HS, HQ⟩
     case measure => simp only [intOf]; omega
    ·rw [if_neg (fun z => z.elim hm hmo)] at hq
     have HNE : Aside0 (some wr.heap.size ≠ (Value.slice Ao out.length co).ownBlock) := ⟨fun z => by obtain ⟨_, ho⟩ := Kd.R_own HS.out.r; exact absurd (own_lt ho _ z.symm) (Nat.lt_irrefl _)⟩
     rw [decide_eq_false hmo] at hco
     have HQ := Aside0.mk hq
     have HCO := Aside0.mk hco
     clear hq hco hm hmo
     go_wp2_with (first | (go_at_call_of 109 (Value.slice A1 l1.length c1); with_reducible refine (storagebarterref08_has.calls (l1.length + 1) A1 c1 l1 x0 x1 _ _ (Kd.C_below HR1.out (below_alloc HS.out.hb _)) HC1.out HCB.out).mono ?_; rintro e w2 ⟨rfl, hb⟩; have B7 := Aside0.mk (blk_below (heap_alloc_new wr (.cells #[.int .i64 x0, .int .i64 x1] 78)) hb); have n_ := Aside0.mk ((HS.out.alloc _).below hb); clear HS hx0 hx1; have HS := n_; clear n_ hb; have hc7_0 : w2.cell? ⟨wr.heap.size, 0, none⟩ = some (.int .i64 x0) := (blk_cell B7.out 0).trans rfl; have hc7_1 : w2.cell? ⟨wr.heap.size, 1, none⟩ = some (.int .i64 x1) := (blk_cell B7.out 1).trans rfl) | (go_at_call_of 109 (Value.slice Ao out.length co); with_reducible refine (storagebarterref08_has.calls (out.length + 1) Ao co out x0 x1 _ _ (Kd.R_reads' HS.out.r).2.2 (Kd.R_reads' HS.out.r).2.1 HCO.out).mono ?_; rintro e w3 ⟨rfl, hb⟩; have n7_ := Aside0.mk (blk_below B7.out hb); have n_ := Aside0.mk (HS.out.below hb); clear HS B7 hc7_0 hc7_1; have HS := n_; have B7 := n7_; clear n_ n7_ hb))
     generalize wr.heap.size = g7 at B7 HNE ⊢
     go_loopw [8] (fun v8 w4 => ∃ (i : Nat), i ≤ out.length ∧ v8 = .int .i64 i ∧ Aside0 (posN out ⟨x0, x1⟩ i = posN out ⟨x0, x1⟩ out.length) ∧ Aside0 (w4.heap[g7]? = some (.cells #[.int .i64 x0, .int .i64 x1] 78 (0, 0))) ∧ Aside0 (WoW w w4 (.slice Ao out.length co) out)) (fun v8 _ => (intOf v8).toNat)
     case atStart => exact ⟨out.length, Nat.le_refl _, rfl, ⟨rfl⟩, B7, HS⟩
     case round =>
      clear HS B7
      obtain ⟨i, hi, rfl, HP, B7, HS⟩ := hrel
      have hx7_0 : wr.cell? ⟨g7, 0, none⟩ = some (.int .i64 x0) := (blk_cell B7.out 0).trans rfl
      have hx7_1 : wr.cell? ⟨g7, 1, none⟩ = some (.int .i64 x1) := (blk_cell B7.out 1).trans rfl
      by_cases hi0 : i = 0
      ·have d0 : decide (0 < (i : Int)) = false := decide_eq_false (by omega)
       have d0' : decide (0 < i) = false := decide_eq_false (by omega)
       have hposE : posN out ⟨x0, x1⟩ out.length = i := HP.out.symm.trans (by rw [hi0]; rfl)
       have HPE := Aside0.mk hposE
       clear hposE HP hi0
       go_wp2_with fail
       go_quiet (fail)
       have n_ : Aside0 (WoW w (wr.drewN nq) (.slice Ao out.length co) out) := ⟨HS.out.below (pw_below_drewN (Below.refl _ _) _)⟩
       have n7_ := Aside0.mk (blk_drewN B7.out nq)
       clear HS B7 hx7_0 hx7_1
       generalize wr.drewN nq = w9 at n_ n7_ ⊢
       have HS := n_
       have B7 := n7_
       clear n_ n7_
       go_wp2_with (at_builtin; refine Kd.R_append k78 (w0 := w) w.heap.size rfl (.tmp 62) (.tmp 64) 30 78 (.agg #[.int .i64 0, .int .i64 0]) 16 rfl Try.underlying30 info78 rfl (by decide) (by omega) (.slice Ao out.length co) out (⟨0, 0⟩ : S78) [.int .i64 0, .int .i64 0] (fun _ => True) (fun _ => False) rfl rfl (k78_mkM _ _ _ _) (fun _ hk => hk.elim) (fun _ _ => trivial) HS.out.r HS.out.hb HS.out.hb.size (by omega) ?_; intro v1 w5 ho hb hg hat; have n7_ := Aside0.mk (blk_grown B7.out hg HNE.out); have hlt7 := blk_lt B7.out; have HN7 : Aside0 (some g7 ≠ v1.ownBlock) := ⟨fun z => by rcases hat with h | ⟨b, h, hle⟩; (· exact HNE.out (z.trans h)); rw [h] at z; injection z with z; omega⟩; have n_ := Aside0.mk ho; have nb_ := Aside0.mk hb; clear HS B7 hlt7; have B7 := n7_; have HO := n_; have HB := nb_; clear n_ n7_ nb_ ho hb hg hat)
       obtain ⟨g, cap, cur, rfl, -, hgb, hbk, h1, h2, h3, hH⟩ := (R_holds flatN HO.out).resolve_left (fun z => by have := z.2; simp at this)
       have HG := Aside0.mk (show g7 ≠ g from fun z => HN7.out (by rw [z]; rfl))
       have HBK := Aside0.mk (show w5.drew.heap[g]? = some (.cells cur 78 (0, 0)) from hbk)
       have HC3 := Aside0.mk h3
       have HC2 := Aside0.mk h2
       have HGB := Aside0.mk hgb
       have HH : Aside0 (HoldsK enN 2 w5.drew g 0 (out ++ [(⟨0, 0⟩ : S78)]).toArray) := ⟨hH⟩
       rw [List.length_append, List.length_singleton] at h1
       have hlen : (out ++ [(⟨0, 0⟩ : S78)]).length = out.length + 1 := by rw [List.length_append, List.length_singleton]
       rw [hlen]
       refine wp_region_still_tail 7 (by kernel_rfl) (by kernel_rfl) ?_
       change wpStill _ _ w5.drew (fun a' => wpList _ _ _ _ a' w5.drew) _ _
       have B7 := Aside0.mk (blk_drew B7.out)
       have HB5 := HB
       clear HO hH hbk hgb h2 h3
       have hw1 : IntKind.i64.wrap ((i : Int) + 1) = ((i + 1 : Nat) : Int) := by simp [IntKind.wrap, IntKind.bits, IntKind.signed]; omega
       have hb2 : i ≤ out.length + 1 := by omega
       have hb2' : (i : Int) ≤ (out.length : Int) + 1 := by omega
       have hb0 : (0 : Int) ≤ (i : Int) + 1 := by omega
       have hb3 : ¬ cap = i := by omega
       simp only [List.take_succ_cons, List.take_zero, List.drop_succ_cons, List.drop_zero]
       obtain ⟨cs, hcs⟩ : ∃ cs, cs = ((List.range ((out.length - i) * 2)).map fun t => (flatK enN 2 (out ++ [(⟨0, 0⟩ : S78)]).toArray)[i * 2 + t]!) := ⟨_, rfl⟩
       have hcl : cs.length = (out.length - i) * 2 := by rw [hcs]; simp
       obtain ⟨W, hW⟩ : ∃ W, w5.drew.setCells g ((i + 1) * 2) cs = W := ⟨_, rfl⟩
       obtain ⟨cur', hb', hs'⟩ := heap_setCells cs ((i + 1) * 2) w5.drew cur HBK.out
       rw [hW] at hb'
       have B7W := Aside0.mk (blk_grown B7.out (hW ▸ grown_setCells (g := g) cs ((i + 1) * 2) w5.drew) (fun z => HG.out (by injection z)))
       have hz0 : W.cell? ⟨g7, 0, none⟩ = some (.int .i64 x0) := (blk_cell B7W.out 0).trans rfl
       have hz1 : W.cell? ⟨g7, 1, none⟩ = some (.int .i64 x1) := (blk_cell B7W.out 1).trans rfl
       have hq0 : W.cell? ⟨g, i * 2, none⟩ = some cur'[i * 2]! := (blk_cell hb' (i * 2)).trans (by rw [Array.getElem?_eq_getElem (by rw [hs', HC3.out]; omega), getElem!_pos cur' (i * 2) (by rw [hs', HC3.out]; omega)])
       have hq1 : W.cell? ⟨g, i * 2 + 1, none⟩ = some cur'[i * 2 + 1]! := (blk_cell hb' (i * 2 + 1)).trans (by rw [Array.getElem?_eq_getElem (by rw [hs', HC3.out]; omega), getElem!_pos cur' (i * 2 + 1) (by rw [hs', HC3.out]; omega)])
       have hf0 := blk_frozen hb' (i * 2)
       have hf1 := blk_frozen hb' (i * 2 + 1)
       have hFin : Aside0 (WoW w (W.setCells g (i * 2) [.int .i64 x0, .int .i64 x1]) (.slice (some ⟨g, 0, none⟩) (insN out ⟨x0, x1⟩).length cap) (insN out ⟨x0, x1⟩)) := ⟨by
        have e1 : W.setCells g (i * 2) [.int .i64 x0, .int .i64 x1] = putRowK enN 2 (Sort.ahead w5 1) g 0 (insN out ⟨x0, x1⟩).toArray := by
         have e2 : w5.drew = putRow id (Sort.ahead w5 1) g 0 (flatK enN 2 (out ++ [(⟨0, 0⟩ : S78)]).toArray) := (putRowK_self enN 2 (Sort.ahead w5 1) g 0 _ HH.out).symm
         have l1 := setCells_putRow (Sort.ahead w5 1) g 0 cs ((i + 1) * 2) (flatK enN 2 (out ++ [(⟨0, 0⟩ : S78)]).toArray) (by rw [hcl, size_flatK]; simp; omega)
         have l2 := setCells_putRow (Sort.ahead w5 1) g 0 (enN ⟨x0, x1⟩) (i * 2) (setMany (flatK enN 2 (out ++ [(⟨0, 0⟩ : S78)]).toArray) ((i + 1) * 2) cs) (by rw [size_setMany, size_flatK]; simp [enN]; omega)
         rw [Nat.zero_add] at l1 l2
         rw [← hW, e2, l1]
         refine l2.trans ?_
         rw [hcs, flat_shift out ⟨x0, x1⟩ ⟨0, 0⟩ i hi]
         unfold putRowK insN
         rw [HPE.out]
        rw [e1]
        have hp := R_put (w := w5) (n := 1) (os := #[]) (m := (insN out ⟨x0, x1⟩).length) (base := w.heap.size) (ok := fun _ => True) flatN (insN out ⟨x0, x1⟩).toArray HBK.out trivial HGB.out (by rw [List.size_toArray, insN_length]; exact h1) HC2.out HC3.out (by simp)
        have hG := grown_put (w := w5) (g := g) (n := 1) (os := #[]) (k := 2) (enc := enN) (insN out ⟨x0, x1⟩).toArray
        rw [grow_empty] at hp hG
        rw [List.take_length] at hp
        exact ⟨HB5.out.grown hG HB5.out.size (fun j hj => by cases hj; exact HGB.out), hp⟩⟩
       have hlt7 : (i : Int) < (out.length : Int) + 1 := by omega
       have hins : (insN out ⟨x0, x1⟩).length = out.length + 1 := insN_length _ _
       have HIN := Aside0.mk hins
       have HWE := Aside0.mk hW
       clear hins hb' hs'
       by_cases hcap : cap = i + 1
       ·have hnil : cs = [] := List.eq_nil_of_length_eq_zero (by rw [hcl]; omega)
        have hmin : Nat.min (out.length + 1 - i) (out.length - i) = 0 := by simp; omega
        have HCP : ∀ ty sc, (Builtin.copy_ #[30, 30] ty #[.slice (some ⟨g, 0, none⟩) (out.length - i) 0, .slice (some ⟨g, i * 2, none⟩) (out.length + 1 - i) sc]).run Try.prog w5.drew = .ok (goInt ((Nat.min (out.length + 1 - i) (out.length - i) : Nat) : Int)) W := by
         intro ty sc
         have := run_copyN w5.drew ty g 0 (out.length - i) 0 (i * 2) (out.length + 1 - i) sc [] (by rw [hmin]; rfl) (fun j v hj => by cases hj) (fun j hj => by cases hj) (fun j hj => by cases hj) (fun v hv => by cases hv)
         rw [this, ← hW, hnil]
         rfl
        clear hW hcs hcl hnil hmin
        iterate 7 still_step
        refine wpStill_nil ?_
        go_wp2
        go_roundw
        case rel => exact ⟨k + 1, cap, some ⟨g, 0, none⟩, insN out ⟨x0, x1⟩, by omega, by simp, by rw [HIN.out, hcap], by rw [HIN.out]; omega, hFin, HQ⟩
        case measure => simp only [intOf]; omega
       ·have hmin : Nat.min (out.length + 1 - i) (out.length - i) = out.length - i := Nat.min_eq_right (by omega)
        have HCP : ∀ ty sc, (Builtin.copy_ #[30, 30] ty #[.slice (some ⟨g, (i + 1) * 2, none⟩) (out.length - i) (cap - (i + 1)), .slice (some ⟨g, i * 2, none⟩) (out.length + 1 - i) sc]).run Try.prog w5.drew = .ok (goInt ((Nat.min (out.length + 1 - i) (out.length - i) : Nat) : Int)) W := by
         intro ty sc
         have hget : ∀ j, j < cs.length → i * 2 + j < (out ++ [(⟨0, 0⟩ : S78)]).toArray.size * 2 := fun j hj => by rw [hcl] at hj; simp; omega
         have hcj : ∀ j, j < cs.length → cs[j]? = some (flatK enN 2 (out ++ [(⟨0, 0⟩ : S78)]).toArray)[i * 2 + j]! := fun j hj => by
          rw [hcl] at hj
          rw [hcs, List.getElem?_map, List.getElem?_range hj]
          rfl
         have := run_copyN w5.drew ty g ((i + 1) * 2) (out.length - i) (cap - (i + 1)) (i * 2) (out.length + 1 - i) sc cs (by rw [hmin, hcl])
          (fun j v hj => by
           have hjl := (List.getElem?_eq_some_iff.1 hj).1
           rw [hcj j hjl] at hj
           have h5 := (HH.out (i * 2 + j) (by rw [size_flatK]; exact hget j hjl)).1
           rw [Nat.zero_add] at h5
           rw [h5]
           exact hj)
          (fun j hj => by
           rw [hcl] at hj
           have h5 := (HH.out ((i + 1) * 2 + j) (by rw [size_flatK]; simp; omega)).1
           rw [Nat.zero_add] at h5
           rw [h5]
           rfl)
          (fun j hj => by
           rw [hcl] at hj
           have h5 := (HH.out ((i + 1) * 2 + j) (by rw [size_flatK]; simp; omega)).2
           rwa [Nat.zero_add] at h5)
          (fun v hv => by
           obtain ⟨j, hj, rfl⟩ := List.getElem_of_mem hv
           have h5 := hcj j hj
           rw [List.getElem?_eq_getElem hj] at h5
           rw [Option.some.inj h5, get_flatK _ _ _ _ (hget j hj)]
           have h6 : (i * 2 + j) % 2 < (enN (out ++ [(⟨0, 0⟩ : S78)]).toArray[(i * 2 + j) / 2]!).length := Nat.mod_lt _ (by decide)
           rw [getElem!_pos (enN ((out ++ [(⟨0, 0⟩ : S78)]).toArray[(i * 2 + j) / 2]!)) ((i * 2 + j) % 2) h6]
           exact flatN.one _ _ (List.getElem_mem h6))
         rw [this, hW]
        clear hW hcs hcl hmin
        iterate 7 still_step
        refine wpStill_nil ?_
        go_wp2
        go_roundw
        case rel => exact ⟨k + 1, cap, some ⟨g, 0, none⟩, insN out ⟨x0, x1⟩, by omega, by simp, by rw [HIN.out], by rw [HIN.out]; omega, hFin, HQ⟩
        case measure => simp only [intOf]; omega
      ·have d0 : decide (0 < (i : Int)) = true := decide_eq_true (by omega)
       have d0' : decide (0 < i) = true := decide_eq_true (by omega)
       have hip : 1 ≤ i := by omega
       obtain ⟨ao, eao, hy0, hy1⟩ := at_T78 (Kd.R_reads' HS.out.r).2.2 (i - 1 : Nat) (by omega) (by omega)
       cases eao
       simp only [Int.toNat_natCast] at hy0 hy1
       rw [rd_N out (i - 1) (by omega)] at hy0 hy1
       have hpos : posN out ⟨x0, x1⟩ i = if ltN ⟨x0, x1⟩ out[i - 1] then posN out ⟨x0, x1⟩ (i - 1) else i := by
        obtain ⟨j, rfl⟩ : ∃ j, i = j + 1 := ⟨i - 1, by omega⟩
        rw [posN, getElem!_pos out j (by omega)]
        rfl
       generalize out[i - 1] = y at hy0 hy1 hpos
       obtain ⟨y0, y1⟩ := y
       simp only at hy0 hy1
       by_cases h1 : x0 < y0
       ·have d1 := decide_eq_true h1
        rw [if_pos (.inl h1)] at hpos
        have HP2 : Aside0 (posN out ⟨x0, x1⟩ (i - 1) = posN out ⟨x0, x1⟩ out.length) := ⟨hpos.symm.trans HP.out⟩
        clear h1 hpos HP
        go_wp2_with fail
        go_quiet (fail)
        go_wp2
        go_roundw
        case rel => exact ⟨i - 1, by omega, by go_num, HP2, ⟨blk_drewN B7.out _⟩, ⟨HS.out.below (pw_below_drewN (Below.refl _ _) _)⟩⟩
        case measure => simp only [intOf]; omega
       ·have d1 := decide_eq_false h1
        by_cases h2 : y0 = x0
        ·subst h2
         have e1 : (y0 == y0) = true := beq_self_eq_true _
         by_cases h3 : x1 < y1
         ·have d2 := decide_eq_true h3
          rw [if_pos (.inr ⟨rfl, h3⟩)] at hpos
          have HP2 : Aside0 (posN out ⟨y0, x1⟩ (i - 1) = posN out ⟨y0, x1⟩ out.length) := ⟨hpos.symm.trans HP.out⟩
          clear h1 hpos HP h3
          go_wp2_with fail
          go_quiet (fail)
          go_wp2
          go_roundw
          case rel => exact ⟨i - 1, by omega, by go_num, HP2, ⟨blk_drewN B7.out _⟩, ⟨HS.out.below (pw_below_drewN (Below.refl _ _) _)⟩⟩
          case measure => simp only [intOf]; omega
         ·have d2 := decide_eq_false h3
          rw [if_neg (by unfold ltN; simp only; omega)] at hpos
          have HPE : Aside0 (posN out ⟨y0, x1⟩ out.length = i) := ⟨HP.out.symm.trans hpos⟩
          clear h1 hpos HP h3
          go_wp2_with fail
          go_quiet (fail)
          have n_ : Aside0 (WoW w (wr.drewN nq) (.slice (some ao) out.length co) out) := ⟨HS.out.below (pw_below_drewN (Below.refl _ _) _)⟩
          have n7_ := Aside0.mk (blk_drewN B7.out nq)
          clear HS B7 hx7_0 hx7_1
          generalize wr.drewN nq = w9 at n_ n7_ ⊢
          have HS := n_
          have B7 := n7_
          clear n_ n7_
          go_wp2_with (at_builtin; refine Kd.R_append k78 (w0 := w) w.heap.size rfl (.tmp 62) (.tmp 64) 30 78 (.agg #[.int .i64 0, .int .i64 0]) 16 rfl Try.underlying30 info78 rfl (by decide) (by omega) (.slice (some ao) out.length co) out (⟨0, 0⟩ : S78) [.int .i64 0, .int .i64 0] (fun _ => True) (fun _ => False) rfl rfl (k78_mkM _ _ _ _) (fun _ hk => hk.elim) (fun _ _ => trivial) HS.out.r HS.out.hb HS.out.hb.size (by omega) ?_; intro v1 w5 ho hb hg hat; have n7_ := Aside0.mk (blk_grown B7.out hg HNE.out); have hlt7 := blk_lt B7.out; have HN7 : Aside0 (some g7 ≠ v1.ownBlock) := ⟨fun z => by rcases hat with h | ⟨b, h, hle⟩; (· exact HNE.out (z.trans h)); rw [h] at z; injection z with z; omega⟩; have n_ := Aside0.mk ho; have nb_ := Aside0.mk hb; clear HS B7 hlt7; have B7 := n7_; have HO := n_; have HB := nb_; clear n_ n7_ nb_ ho hb hg hat)
          obtain ⟨g, cap, cur, rfl, -, hgb, hbk, h1, h2, h3, hH⟩ := (R_holds flatN HO.out).resolve_left (fun z => by have := z.2; simp at this)
          have HG := Aside0.mk (show g7 ≠ g from fun z => HN7.out (by rw [z]; rfl))
          have HBK := Aside0.mk (show w5.drew.heap[g]? = some (.cells cur 78 (0, 0)) from hbk)
          have HC3 := Aside0.mk h3
          have HC2 := Aside0.mk h2
          have HGB := Aside0.mk hgb
          have HH : Aside0 (HoldsK enN 2 w5.drew g 0 (out ++ [(⟨0, 0⟩ : S78)]).toArray) := ⟨hH⟩
          rw [List.length_append, List.length_singleton] at h1
          have hlen : (out ++ [(⟨0, 0⟩ : S78)]).length = out.length + 1 := by rw [List.length_append, List.length_singleton]
          rw [hlen]
          refine wp_region_still_tail 7 (by kernel_rfl) (by kernel_rfl) ?_
          change wpStill _ _ w5.drew (fun a' => wpList _ _ _ _ a' w5.drew) _ _
          have B7 := Aside0.mk (blk_drew B7.out)
          have HB5 := HB
          clear HO hH hbk hgb h2 h3
          have hw1 : IntKind.i64.wrap ((i : Int) + 1) = ((i + 1 : Nat) : Int) := by simp [IntKind.wrap, IntKind.bits, IntKind.signed]; omega
          have hb2 : i ≤ out.length + 1 := by omega
          have hb2' : (i : Int) ≤ (out.length : Int) + 1 := by omega
          have hb0 : (0 : Int) ≤ (i : Int) + 1 := by omega
          have hb3 : ¬ cap = i := by omega
          simp only [List.take_succ_cons, List.take_zero, List.drop_succ_cons, List.drop_zero]
          obtain ⟨cs, hcs⟩ : ∃ cs, cs = ((List.range ((out.length - i) * 2)).map fun t => (flatK enN 2 (out ++ [(⟨0, 0⟩ : S78)]).toArray)[i * 2 + t]!) := ⟨_, rfl⟩
          have hcl : cs.length = (out.length - i) * 2 := by rw [hcs]; simp
          obtain ⟨W, hW⟩ : ∃ W, w5.drew.setCells g ((i + 1) * 2) cs = W := ⟨_, rfl⟩
          obtain ⟨cur', hb', hs'⟩ := heap_setCells cs ((i + 1) * 2) w5.drew cur HBK.out
          rw [hW] at hb'
          have B7W := Aside0.mk (blk_grown B7.out (hW ▸ grown_setCells (g := g) cs ((i + 1) * 2) w5.drew) (fun z => HG.out (by injection z)))
          have hz0 : W.cell? ⟨g7, 0, none⟩ = some (.int .i64 y0) := (blk_cell B7W.out 0).trans rfl
          have hz1 : W.cell? ⟨g7, 1, none⟩ = some (.int .i64 x1) := (blk_cell B7W.out 1).trans rfl
          have hq0 : W.cell? ⟨g, i * 2, none⟩ = some cur'[i * 2]! := (blk_cell hb' (i * 2)).trans (by rw [Array.getElem?_eq_getElem (by rw [hs', HC3.out]; omega), getElem!_pos cur' (i * 2) (by rw [hs', HC3.out]; omega)])
          have hq1 : W.cell? ⟨g, i * 2 + 1, none⟩ = some cur'[i * 2 + 1]! := (blk_cell hb' (i * 2 + 1)).trans (by rw [Array.getElem?_eq_getElem (by rw [hs', HC3.out]; omega), getElem!_pos cur' (i * 2 + 1) (by rw [hs', HC3.out]; omega)])
          have hf0 := blk_frozen hb' (i * 2)
          have hf1 := blk_frozen hb' (i * 2 + 1)
          have hFin : Aside0 (WoW w (W.setCells g (i * 2) [.int .i64 y0, .int .i64 x1]) (.slice (some ⟨g, 0, none⟩) (insN out ⟨y0, x1⟩).length cap) (insN out ⟨y0, x1⟩)) := ⟨by
           have e1 : W.setCells g (i * 2) [.int .i64 y0, .int .i64 x1] = putRowK enN 2 (Sort.ahead w5 1) g 0 (insN out ⟨y0, x1⟩).toArray := by
            have e2 : w5.drew = putRow id (Sort.ahead w5 1) g 0 (flatK enN 2 (out ++ [(⟨0, 0⟩ : S78)]).toArray) := (putRowK_self enN 2 (Sort.ahead w5 1) g 0 _ HH.out).symm
            have l1 := setCells_putRow (Sort.ahead w5 1) g 0 cs ((i + 1) * 2) (flatK enN 2 (out ++ [(⟨0, 0⟩ : S78)]).toArray) (by rw [hcl, size_flatK]; simp; omega)
            have l2 := setCells_putRow (Sort.ahead w5 1) g 0 (enN ⟨y0, x1⟩) (i * 2) (setMany (flatK enN 2 (out ++ [(⟨0, 0⟩ : S78)]).toArray) ((i + 1) * 2) cs) (by rw [size_setMany, size_flatK]; simp [enN]; omega)
            rw [Nat.zero_add] at l1 l2
            rw [← hW, e2, l1]
            refine l2.trans ?_
            rw [hcs, flat_shift out ⟨y0, x1⟩ ⟨0, 0⟩ i hi]
            unfold putRowK insN
            rw [HPE.out]
           rw [e1]
           have hp := R_put (w := w5) (n := 1) (os := #[]) (m := (insN out ⟨y0, x1⟩).length) (base := w.heap.size) (ok := fun _ => True) flatN (insN out ⟨y0, x1⟩).toArray HBK.out trivial HGB.out (by rw [List.size_toArray, insN_length]; exact h1) HC2.out HC3.out (by simp)
           have hG := grown_put (w := w5) (g := g) (n := 1) (os := #[]) (k := 2) (enc := enN) (insN out ⟨y0, x1⟩).toArray
           rw [grow_empty] at hp hG
           rw [List.take_length] at hp
           exact ⟨HB5.out.grown hG HB5.out.size (fun j hj => by cases hj; exact HGB.out), hp⟩⟩
          have hlt7 : (i : Int) < (out.length : Int) + 1 := by omega
          have hins : (insN out ⟨y0, x1⟩).length = out.length + 1 := insN_length _ _
          have HIN := Aside0.mk hins
          have HWE := Aside0.mk hW
          clear hins hb' hs'
          by_cases hcap : cap = i + 1
          ·have hnil : cs = [] := List.eq_nil_of_length_eq_zero (by rw [hcl]; omega)
           have hmin : Nat.min (out.length + 1 - i) (out.length - i) = 0 := by simp; omega
           have HCP : ∀ ty sc, (Builtin.copy_ #[30, 30] ty #[.slice (some ⟨g, 0, none⟩) (out.length - i) 0, .slice (some ⟨g, i * 2, none⟩) (out.length + 1 - i) sc]).run Try.prog w5.drew = .ok (goInt ((Nat.min (out.length + 1 - i) (out.length - i) : Nat) : Int)) W := by
            intro ty sc
            have := run_copyN w5.drew ty g 0 (out.length - i) 0 (i * 2) (out.length + 1 - i) sc [] (by rw [hmin]; rfl) (fun j v hj => by cases hj) (fun j hj => by cases hj) (fun j hj => by cases hj) (fun v hv => by cases hv)
            rw [this, ← hW, hnil]
            rfl
           clear hW hcs hcl hnil hmin
           iterate 7 still_step
           refine wpStill_nil ?_
           go_wp2
           go_roundw
           case rel => exact ⟨k + 1, cap, some ⟨g, 0, none⟩, insN out ⟨y0, x1⟩, by omega, by simp, by rw [HIN.out, hcap], by rw [HIN.out]; omega, hFin, HQ⟩
           case measure => simp only [intOf]; omega
          ·have hmin : Nat.min (out.length + 1 - i) (out.length - i) = out.length - i := Nat.min_eq_right (by omega)
           have HCP : ∀ ty sc, (Builtin.copy_ #[30, 30] ty #[.slice (some ⟨g, (i + 1) * 2, none⟩) (out.length - i) (cap - (i + 1)), .slice (some ⟨g, i * 2, none⟩) (out.length + 1 - i) sc]).run Try.prog w5.drew = .ok (goInt ((Nat.min (out.length + 1 - i) (out.length - i) : Nat) : Int)) W := by
            intro ty sc
            have hget : ∀ j, j < cs.length → i * 2 + j < (out ++ [(⟨0, 0⟩ : S78)]).toArray.size * 2 := fun j hj => by rw [hcl] at hj; simp; omega
            have hcj : ∀ j, j < cs.length → cs[j]? = some (flatK enN 2 (out ++ [(⟨0, 0⟩ : S78)]).toArray)[i * 2 + j]! := fun j hj => by
             rw [hcl] at hj
             rw [hcs, List.getElem?_map, List.getElem?_range hj]
             rfl
            have := run_copyN w5.drew ty g ((i + 1) * 2) (out.length - i) (cap - (i + 1)) (i * 2) (out.length + 1 - i) sc cs (by rw [hmin, hcl])
             (fun j v hj => by
              have hjl := (List.getElem?_eq_some_iff.1 hj).1
              rw [hcj j hjl] at hj
              have h5 := (HH.out (i * 2 + j) (by rw [size_flatK]; exact hget j hjl)).1
              rw [Nat.zero_add] at h5
              rw [h5]
              exact hj)
             (fun j hj => by
              rw [hcl] at hj
              have h5 := (HH.out ((i + 1) * 2 + j) (by rw [size_flatK]; simp; omega)).1
              rw [Nat.zero_add] at h5
              rw [h5]
              rfl)
             (fun j hj => by
              rw [hcl] at hj
              have h5 := (HH.out ((i + 1) * 2 + j) (by rw [size_flatK]; simp; omega)).2
              rwa [Nat.zero_add] at h5)
             (fun v hv => by
              obtain ⟨j, hj, rfl⟩ := List.getElem_of_mem hv
              have h5 := hcj j hj
              rw [List.getElem?_eq_getElem hj] at h5
              rw [Option.some.inj h5, get_flatK _ _ _ _ (hget j hj)]
              have h6 : (i * 2 + j) % 2 < (enN (out ++ [(⟨0, 0⟩ : S78)]).toArray[(i * 2 + j) / 2]!).length := Nat.mod_lt _ (by decide)
              rw [getElem!_pos (enN ((out ++ [(⟨0, 0⟩ : S78)]).toArray[(i * 2 + j) / 2]!)) ((i * 2 + j) % 2) h6]
              exact flatN.one _ _ (List.getElem_mem h6))
            rw [this, hW]
           clear hW hcs hcl hmin
           iterate 7 still_step
           refine wpStill_nil ?_
           go_wp2
           go_roundw
           case rel => exact ⟨k + 1, cap, some ⟨g, 0, none⟩, insN out ⟨y0, x1⟩, by omega, by simp, by rw [HIN.out], by rw [HIN.out]; omega, hFin, HQ⟩
           case measure => simp only [intOf]; omega
        ·have e1 : (y0 == x0) = false := beq_eq_false_iff_ne.mpr h2
         rw [if_neg (by unfold ltN; simp only; omega)] at hpos
         have HPE : Aside0 (posN out ⟨x0, x1⟩ out.length = i) := ⟨HP.out.symm.trans hpos⟩
         clear h1 hpos HP h2
         go_wp2_with fail
         go_quiet (fail)
         have n_ : Aside0 (WoW w (wr.drewN nq) (.slice (some ao) out.length co) out) := ⟨HS.out.below (pw_below_drewN (Below.refl _ _) _)⟩
         have n7_ := Aside0.mk (blk_drewN B7.out nq)
         clear HS B7 hx7_0 hx7_1
         generalize wr.drewN nq = w9 at n_ n7_ ⊢
         have HS := n_
         have B7 := n7_
         clear n_ n7_
         go_wp2_with (at_builtin; refine Kd.R_append k78 (w0 := w) w.heap.size rfl (.tmp 62) (.tmp 64) 30 78 (.agg #[.int .i64 0, .int .i64 0]) 16 rfl Try.underlying30 info78 rfl (by decide) (by omega) (.slice (some ao) out.length co) out (⟨0, 0⟩ : S78) [.int .i64 0, .int .i64 0] (fun _ => True) (fun _ => False) rfl rfl (k78_mkM _ _ _ _) (fun _ hk => hk.elim) (fun _ _ => trivial) HS.out.r HS.out.hb HS.out.hb.size (by omega) ?_; intro v1 w5 ho hb hg hat; have n7_ := Aside0.mk (blk_grown B7.out hg HNE.out); have hlt7 := blk_lt B7.out; have HN7 : Aside0 (some g7 ≠ v1.ownBlock) := ⟨fun z => by rcases hat with h | ⟨b, h, hle⟩; (· exact HNE.out (z.trans h)); rw [h] at z; injection z with z; omega⟩; have n_ := Aside0.mk ho; have nb_ := Aside0.mk hb; clear HS B7 hlt7; have B7 := n7_; have HO := n_; have HB := nb_; clear n_ n7_ nb_ ho hb hg hat)
         obtain ⟨g, cap, cur, rfl, -, hgb, hbk, h1, h2, h3, hH⟩ := (R_holds flatN HO.out).resolve_left (fun z => by have := z.2; simp at this)
         have HG := Aside0.mk (show g7 ≠ g from fun z => HN7.out (by rw [z]; rfl))
         have HBK := Aside0.mk (show w5.drew.heap[g]? = some (.cells cur 78 (0, 0)) from hbk)
         have HC3 := Aside0.mk h3
         have HC2 := Aside0.mk h2
         have HGB := Aside0.mk hgb
         have HH : Aside0 (HoldsK enN 2 w5.drew g 0 (out ++ [(⟨0, 0⟩ : S78)]).toArray) := ⟨hH⟩
         rw [List.length_append, List.length_singleton] at h1
         have hlen : (out ++ [(⟨0, 0⟩ : S78)]).length = out.length + 1 := by rw [List.length_append, List.length_singleton]
         rw [hlen]
         refine wp_region_still_tail 7 (by kernel_rfl) (by kernel_rfl) ?_
         change wpStill _ _ w5.drew (fun a' => wpList _ _ _ _ a' w5.drew) _ _
         have B7 := Aside0.mk (blk_drew B7.out)
         have HB5 := HB
         clear HO hH hbk hgb h2 h3
         have hw1 : IntKind.i64.wrap ((i : Int) + 1) = ((i + 1 : Nat) : Int) := by simp [IntKind.wrap, IntKind.bits, IntKind.signed]; omega
         have hb2 : i ≤ out.length + 1 := by omega
         have hb2' : (i : Int) ≤ (out.length : Int) + 1 := by omega
         have hb0 : (0 : Int) ≤ (i : Int) + 1 := by omega
         have hb3 : ¬ cap = i := by omega
         simp only [List.take_succ_cons, List.take_zero, List.drop_succ_cons, List.drop_zero]
         obtain ⟨cs, hcs⟩ : ∃ cs, cs = ((List.range ((out.length - i) * 2)).map fun t => (flatK enN 2 (out ++ [(⟨0, 0⟩ : S78)]).toArray)[i * 2 + t]!) := ⟨_, rfl⟩
         have hcl : cs.length = (out.length - i) * 2 := by rw [hcs]; simp
         obtain ⟨W, hW⟩ : ∃ W, w5.drew.setCells g ((i + 1) * 2) cs = W := ⟨_, rfl⟩
         obtain ⟨cur', hb', hs'⟩ := heap_setCells cs ((i + 1) * 2) w5.drew cur HBK.out
         rw [hW] at hb'
         have B7W := Aside0.mk (blk_grown B7.out (hW ▸ grown_setCells (g := g) cs ((i + 1) * 2) w5.drew) (fun z => HG.out (by injection z)))
         have hz0 : W.cell? ⟨g7, 0, none⟩ = some (.int .i64 x0) := (blk_cell B7W.out 0).trans rfl
         have hz1 : W.cell? ⟨g7, 1, none⟩ = some (.int .i64 x1) := (blk_cell B7W.out 1).trans rfl
         have hq0 : W.cell? ⟨g, i * 2, none⟩ = some cur'[i * 2]! := (blk_cell hb' (i * 2)).trans (by rw [Array.getElem?_eq_getElem (by rw [hs', HC3.out]; omega), getElem!_pos cur' (i * 2) (by rw [hs', HC3.out]; omega)])
         have hq1 : W.cell? ⟨g, i * 2 + 1, none⟩ = some cur'[i * 2 + 1]! := (blk_cell hb' (i * 2 + 1)).trans (by rw [Array.getElem?_eq_getElem (by rw [hs', HC3.out]; omega), getElem!_pos cur' (i * 2 + 1) (by rw [hs', HC3.out]; omega)])
         have hf0 := blk_frozen hb' (i * 2)
         have hf1 := blk_frozen hb' (i * 2 + 1)
         have hFin : Aside0 (WoW w (W.setCells g (i * 2) [.int .i64 x0, .int .i64 x1]) (.slice (some ⟨g, 0, none⟩) (insN out ⟨x0, x1⟩).length cap) (insN out ⟨x0, x1⟩)) := ⟨by
          have e1 : W.setCells g (i * 2) [.int .i64 x0, .int .i64 x1] = putRowK enN 2 (Sort.ahead w5 1) g 0 (insN out ⟨x0, x1⟩).toArray := by
           have e2 : w5.drew = putRow id (Sort.ahead w5 1) g 0 (flatK enN 2 (out ++ [(⟨0, 0⟩ : S78)]).toArray) := (putRowK_self enN 2 (Sort.ahead w5 1) g 0 _ HH.out).symm
           have l1 := setCells_putRow (Sort.ahead w5 1) g 0 cs ((i + 1) * 2) (flatK enN 2 (out ++ [(⟨0, 0⟩ : S78)]).toArray) (by rw [hcl, size_flatK]; simp; omega)
           have l2 := setCells_putRow (Sort.ahead w5 1) g 0 (enN ⟨x0, x1⟩) (i * 2) (setMany (flatK enN 2 (out ++ [(⟨0, 0⟩ : S78)]).toArray) ((i + 1) * 2) cs) (by rw [size_setMany, size_flatK]; simp [enN]; omega)
           rw [Nat.zero_add] at l1 l2
           rw [← hW, e2, l1]
           refine l2.trans ?_
           rw [hcs, flat_shift out ⟨x0, x1⟩ ⟨0, 0⟩ i hi]
           unfold putRowK insN
           rw [HPE.out]
          rw [e1]
          have hp := R_put (w := w5) (n := 1) (os := #[]) (m := (insN out ⟨x0, x1⟩).length) (base := w.heap.size) (ok := fun _ => True) flatN (insN out ⟨x0, x1⟩).toArray HBK.out trivial HGB.out (by rw [List.size_toArray, insN_length]; exact h1) HC2.out HC3.out (by simp)
          have hG := grown_put (w := w5) (g := g) (n := 1) (os := #[]) (k := 2) (enc := enN) (insN out ⟨x0, x1⟩).toArray
          rw [grow_empty] at hp hG
          rw [List.take_length] at hp
          exact ⟨HB5.out.grown hG HB5.out.size (fun j hj => by cases hj; exact HGB.out), hp⟩⟩
         have hlt7 : (i : Int) < (out.length : Int) + 1 := by omega
         have hins : (insN out ⟨x0, x1⟩).length = out.length + 1 := insN_length _ _
         have HIN := Aside0.mk hins
         have HWE := Aside0.mk hW
         clear hins hb' hs'
         by_cases hcap : cap = i + 1
         ·have hnil : cs = [] := List.eq_nil_of_length_eq_zero (by rw [hcl]; omega)
          have hmin : Nat.min (out.length + 1 - i) (out.length - i) = 0 := by simp; omega
          have HCP : ∀ ty sc, (Builtin.copy_ #[30, 30] ty #[.slice (some ⟨g, 0, none⟩) (out.length - i) 0, .slice (some ⟨g, i * 2, none⟩) (out.length + 1 - i) sc]).run Try.prog w5.drew = .ok (goInt ((Nat.min (out.length + 1 - i) (out.length - i) : Nat) : Int)) W := by
           intro ty sc
           have := run_copyN w5.drew ty g 0 (out.length - i) 0 (i * 2) (out.length + 1 - i) sc [] (by rw [hmin]; rfl) (fun j v hj => by cases hj) (fun j hj => by cases hj) (fun j hj => by cases hj) (fun v hv => by cases hv)
           rw [this, ← hW, hnil]
           rfl
          clear hW hcs hcl hnil hmin
          iterate 7 still_step
          refine wpStill_nil ?_
          go_wp2
          go_roundw
          case rel => exact ⟨k + 1, cap, some ⟨g, 0, none⟩, insN out ⟨x0, x1⟩, by omega, by simp, by rw [HIN.out, hcap], by rw [HIN.out]; omega, hFin, HQ⟩
          case measure => simp only [intOf]; omega
         ·have hmin : Nat.min (out.length + 1 - i) (out.length - i) = out.length - i := Nat.min_eq_right (by omega)
          have HCP : ∀ ty sc, (Builtin.copy_ #[30, 30] ty #[.slice (some ⟨g, (i + 1) * 2, none⟩) (out.length - i) (cap - (i + 1)), .slice (some ⟨g, i * 2, none⟩) (out.length + 1 - i) sc]).run Try.prog w5.drew = .ok (goInt ((Nat.min (out.length + 1 - i) (out.length - i) : Nat) : Int)) W := by
           intro ty sc
           have hget : ∀ j, j < cs.length → i * 2 + j < (out ++ [(⟨0, 0⟩ : S78)]).toArray.size * 2 := fun j hj => by rw [hcl] at hj; simp; omega
           have hcj : ∀ j, j < cs.length → cs[j]? = some (flatK enN 2 (out ++ [(⟨0, 0⟩ : S78)]).toArray)[i * 2 + j]! := fun j hj => by
            rw [hcl] at hj
            rw [hcs, List.getElem?_map, List.getElem?_range hj]
            rfl
           have := run_copyN w5.drew ty g ((i + 1) * 2) (out.length - i) (cap - (i + 1)) (i * 2) (out.length + 1 - i) sc cs (by rw [hmin, hcl])
            (fun j v hj => by
             have hjl := (List.getElem?_eq_some_iff.1 hj).1
             rw [hcj j hjl] at hj
             have h5 := (HH.out (i * 2 + j) (by rw [size_flatK]; exact hget j hjl)).1
             rw [Nat.zero_add] at h5
             rw [h5]
             exact hj)
            (fun j hj => by
             rw [hcl] at hj
             have h5 := (HH.out ((i + 1) * 2 + j) (by rw [size_flatK]; simp; omega)).1
             rw [Nat.zero_add] at h5
             rw [h5]
             rfl)
            (fun j hj => by
             rw [hcl] at hj
             have h5 := (HH.out ((i + 1) * 2 + j) (by rw [size_flatK]; simp; omega)).2
             rwa [Nat.zero_add] at h5)
            (fun v hv => by
             obtain ⟨j, hj, rfl⟩ := List.getElem_of_mem hv
             have h5 := hcj j hj
             rw [List.getElem?_eq_getElem hj] at h5
             rw [Option.some.inj h5, get_flatK _ _ _ _ (hget j hj)]
             have h6 : (i * 2 + j) % 2 < (enN (out ++ [(⟨0, 0⟩ : S78)]).toArray[(i * 2 + j) / 2]!).length := Nat.mod_lt _ (by decide)
             rw [getElem!_pos (enN ((out ++ [(⟨0, 0⟩ : S78)]).toArray[(i * 2 + j) / 2]!)) ((i * 2 + j) % 2) h6]
             exact flatN.one _ _ (List.getElem_mem h6))
           rw [this, hW]
          clear hW hcs hcl hmin
          iterate 7 still_step
          refine wpStill_nil ?_
          go_wp2
          go_roundw
          case rel => exact ⟨k + 1, cap, some ⟨g, 0, none⟩, insN out ⟨x0, x1⟩, by omega, by simp, by rw [HIN.out], by rw [HIN.out]; omega, hFin, HQ⟩
          case measure => simp only [intOf]; omega
  case neg =>
   obtain rfl : k = l0.length := by omega
   have hq := HQ.out
   rw [List.drop_length, rwGo] at hq
   subst hq
   go_wp2
   go_ret
   exact ⟨_, rfl, HS.out.r, HS.out.hb⟩
end Go.Proofs.Ytodhkbahjomfhaa.Q

namespace Go.Proofs.Ytodhkbahjomfhaa.Q
open Go.RowKit Go.Proofs.YtodhkbahjomfhaaW.PrintWords Go.Proofs.YtodhkbahjomfhaaW.PrintLast Go.Proofs.YtodhkbahjomfhaaW.PrintMore Go.Proofs.Ytodhkbahjomfhaa.Gput Go.Proofs.Ytodhkbahjomfhaa.Gputl
attribute [local go_sem] max2_int min2_int max_two min_two max_three min_three max_four min_four   -- for this text's walks alone
set_option linter.unusedVariables false
set_option linter.unusedSimpArgs false
noncomputable def storagebarterref08_Change.f (k : Nat) (a0_0 : Int) (l0_1 : List (S78)) (a1_0 : Int) (l1_1 : List (S78)) : Option ((List (S78)) × (List (S78)) × Int) := (storagebarterref08_Check.f k a0_0 l0_1).bind fun t850 => (if t850 = 0 then ((storagebarterref08_Check.f k a1_0 l1_1).bind fun t851 => (if t851 = 0 then ((storagebarterref08_without.f l1_1 l0_1).bind fun t852 => ((storagebarterref08_without.f l0_1 l1_1).bind fun t855 => (some (t852, t855, 0)))) else (some (([] : List (S78)), ([] : List (S78)), t851)))) else (some (([] : List (S78)), ([] : List (S78)), t850)))
noncomputable def storagebarterref08_Change.T7 : Bool × List (List Nat × List Nat) := (true, [([], []), ([0], [0]), ([], []), ([2], [2]), ([1, 3], [1, 3]), ([], []), ([5], [5]), ([], []), ([7], [7]), ([6, 8, 4], [6, 8]), ([4, 9, 0, 1, 2, 3, 4], [4]), ([9, 10, 0, 1, 2, 3, 4, 5, 6, 7, 8, 9, 10], [9]), ([11, 0, 1, 2, 3, 4, 5, 6, 7, 8, 9, 10, 11], [])])
noncomputable def storagebarterref08_Change.B7 : List Nat := [0, 1, 0, 4, 15, 0, 32, 0, 128, 511, 1023, 2047, 4095]
theorem storagebarterref08_Change.tab7 : rtab .any (opsOf Try.f55 7) = storagebarterref08_Change.T7 := by kernel_rfl
theorem storagebarterref08_Change.bits7 : waitsOk storagebarterref08_Change.T7.2 storagebarterref08_Change.B7 = true := by kernel_rfl
set_option maxHeartbeats 8000000 in
set_option maxRecDepth 100000 in
theorem storagebarterref08_Change.calls (k : Nat) (a0_0 : Int) (A0_1 : Option Addr) (c0_1 : Nat) (l0_1 : List (S78)) (a1_0 : Int) (A1_1 : Option Addr) (c1_1 : Nat) (l1_1 : List (S78)) (r1 : List (S78)) (r2 : List (S78)) (r3 : Int) (w : World) (hr0_1 : Kd.C k78 w A0_1 l0_1.length l0_1) (hc0_1 : l0_1.length ≤ c0_1) (hr1_1 : Kd.C k78 w A1_1 l1_1.length l1_1) (hc1_1 : l1_1.length ≤ c1_1) (h : storagebarterref08_Change.f k a0_0 l0_1 a1_0 l1_1 = some (r1, r2, r3)) :
 Calls Try.prog 55 #[.agg #[.int .i64 a0_0, .slice A0_1 l0_1.length c0_1], .agg #[.int .i64 a1_0, .slice A1_1 l1_1.length c1_1]] w fun e w' => ∃ v0_ v1_ : Value, e = .returned (.tuple #[v0_, v1_, .int .i64 r3]) ∧ Kd.R k78 78 w' w.heap.size (fun k_ => some k_ ≠ (v1_ : Value).ownBlock) v0_ r1 ∧ Kd.R k78 78 w' w.heap.size (fun k_ => some k_ ≠ (v0_ : Value).ownBlock) v1_ r2 ∧ Below w.heap.size w w' := by
 have hu32 := Try.underlying32
 have HR0_1 := Aside0.mk hr0_1
 have HC0_1 := Aside0.mk hc0_1
 clear hr0_1 hc0_1
 have HR1_1 := Aside0.mk hr1_1
 have HC1_1 := Aside0.mk hc1_1
 clear hr1_1 hc1_1
 have HB := Aside0.mk (Below.refl w.heap.size w)
 have H : ((storagebarterref08_Check.f k a0_0 l0_1).bind fun t850 => (if t850 = 0 then ((storagebarterref08_Check.f k a1_0 l1_1).bind fun t851 => (if t851 = 0 then ((storagebarterref08_without.f l1_1 l0_1).bind fun t852 => ((storagebarterref08_without.f l0_1 l1_1).bind fun t855 => (some (t852, t855, 0)))) else (some (([] : List (S78)), ([] : List (S78)), t851)))) else (some (([] : List (S78)), ([] : List (S78)), t850)))) = some (r1, r2, r3) := h
 clear h
 replace H := Option.bind_eq_some_iff.mp H
 obtain ⟨t850, A30, H⟩ := H
 replace H : (if t850 = 0 then ((storagebarterref08_Check.f k a1_0 l1_1).bind fun t851 => (if t851 = 0 then ((storagebarterref08_without.f l1_1 l0_1).bind fun t852 => ((storagebarterref08_without.f l0_1 l1_1).bind fun t855 => (some (t852, t855, 0)))) else (some (([] : List (S78)), ([] : List (S78)), t851)))) else (some (([] : List (S78)), ([] : List (S78)), t850))) = some (r1, r2, r3) := H
 have A3 := Aside0.mk A30
 clear A30
 by_cases c4 : t850 = 0
 ·rw [if_pos c4] at H
  have c4b0 : (t850 == 0) = true := beq_iff_eq.mpr c4
  have c4b1 : (t850 != 0) = false := bne_eq_false_iff_eq.mpr c4
  clear c4
  replace H := Option.bind_eq_some_iff.mp H
  obtain ⟨t851, A50, H⟩ := H
  replace H : (if t851 = 0 then ((storagebarterref08_without.f l1_1 l0_1).bind fun t852 => ((storagebarterref08_without.f l0_1 l1_1).bind fun t855 => (some (t852, t855, 0)))) else (some (([] : List (S78)), ([] : List (S78)), t851))) = some (r1, r2, r3) := H
  have A5 := Aside0.mk A50
  clear A50
  by_cases c6 : t851 = 0
  ·rw [if_pos c6] at H
   have c6b0 : (t851 == 0) = true := beq_iff_eq.mpr c6
   have c6b1 : (t851 != 0) = false := bne_eq_false_iff_eq.mpr c6
   clear c6
   replace H := Option.bind_eq_some_iff.mp H
   obtain ⟨t852, A70, H⟩ := H
   replace H : ((storagebarterref08_without.f l0_1 l1_1).bind fun t855 => (some (t852, t855, 0))) = some (r1, r2, r3) := H
   have A7 := Aside0.mk A70
   clear A70
   replace H := Option.bind_eq_some_iff.mp H
   obtain ⟨t855, A80, H⟩ := H
   replace H : (some (t852, t855, 0)) = some (r1, r2, r3) := H
   have A8 := Aside0.mk A80
   clear A80
   simp only [Option.some.injEq, Prod.mk.injEq] at H
   obtain ⟨rfl, rfl, rfl⟩ := H
   go_enter Try.func55, Try.ntmps55
   try go_wp2_with (first | ((with_reducible refine gate_dst (N := 2) rfl ?_); refine box_event ?hg (N := 2) ?hd (cs := #[.int .i64 a0_0, .slice A0_1 l0_1.length c0_1]) (t := 32) ?hr ?_; (case hd => rfl); (case hg => rfl); (case hr => first | (go_simp; done) | (go_simp; rfl)); intro gb848 hg w9 hbox hb; have n0_ := Aside0.mk (below_step (by repeat (first | (with_reducible first | exact HB.out | apply below_alloc | apply pw_below_drewN | apply below_drew1) | exact HB.out)) hb); have n1_ := Aside0.mk (hbox); have n2_ := Aside0.mk ((by rw [hg]; exact (below_size (by repeat (first | (with_reducible first | exact HB.out | apply below_alloc | apply pw_below_drewN | apply below_drew1) | exact HB.out))) : w.heap.size ≤ gb848)); have n3_ := Aside0.mk ((by rw [hg]; exact (below_size (by repeat (first | (with_reducible first | exact HB.out | apply below_alloc | apply pw_below_drewN | apply below_drew1) | exact HB.out))) : w.heap.size ≤ gb848)); clear HB; have HB := n0_; have BK848 := n1_; have GW848 := n2_; have GE848 := n3_; clear n0_ n1_ n2_ n3_; clear hb hbox hg) | ((with_reducible refine gate_dst (N := 3) rfl ?_); refine box_event ?hg (N := 3) ?hd (cs := #[.int .i64 a1_0, .slice A1_1 l1_1.length c1_1]) (t := 32) ?hr ?_; (case hd => rfl); (case hg => rfl); (case hr => first | (go_simp; done) | (go_simp; rfl)); intro gb849 hg w10 hbox hb; have n0_ := Aside0.mk (blk_below (g := gb848) (o := .cells #[.int .i64 a0_0, .slice A0_1 l0_1.length c0_1] 32 (0, 0)) (by (with_reducible repeat (first | refine blk_drewN ?_ _ | refine blk_drew ?_ | refine blk_alloc ?_ _)); exact BK848.out) hb); have n1_ := Aside0.mk (below_step (by repeat (first | (with_reducible first | exact HB.out | apply below_alloc | apply pw_below_drewN | apply below_drew1 | refine below_set ?_ GE848.out) | exact HB.out)) hb); have n2_ := Aside0.mk (hbox); have n3_ := Aside0.mk ((by rw [hg]; exact (below_size (by repeat (first | (with_reducible first | exact HB.out | apply below_alloc | apply pw_below_drewN | apply below_drew1 | refine below_set ?_ GE848.out) | exact HB.out))) : w.heap.size ≤ gb849)); have n4_ := Aside0.mk ((by rw [hg]; exact (below_size (by repeat (first | (with_reducible first | exact HB.out | apply below_alloc | apply pw_below_drewN | apply below_drew1 | refine below_set ?_ GE848.out) | exact HB.out))) : w.heap.size ≤ gb849)); have n5_ := Aside0.mk ((by rw [hg]; exact Nat.ne_of_lt (blk_lt (g := gb848) (o := .cells #[.int .i64 a0_0, .slice A0_1 l0_1.length c0_1] 32 (0, 0)) (by (with_reducible repeat (first | refine blk_drewN ?_ _ | refine blk_drew ?_ | refine blk_alloc ?_ _)); exact BK848.out)) : gb848 ≠ gb849)); have n6_ := Aside0.mk ((by rw [hg]; exact Nat.ne_of_gt (blk_lt (g := gb848) (o := .cells #[.int .i64 a0_0, .slice A0_1 l0_1.length c0_1] 32 (0, 0)) (by (with_reducible repeat (first | refine blk_drewN ?_ _ | refine blk_drew ?_ | refine blk_alloc ?_ _)); exact BK848.out)) : gb849 ≠ gb848)); clear BK848; clear HB; have BK848 := n0_; have HB := n1_; have BK849 := n2_; have GW849 := n3_; have GE849 := n4_; have NB848_849 := n5_; have NB849_848 := n6_; clear n0_ n1_ n2_ n3_ n4_ n5_ n6_; clear hb hbox hg; have hnb11 := NB848_849.out; have hnc11 := NB849_848.out; have hcz12_0 : w10.cell? ⟨gb848, 0, none⟩ = some (.int .i64 a0_0) := (blk_cell BK848.out 0).trans rfl; have hcz12_1 : w10.cell? ⟨gb848, 1, none⟩ = some (.slice A0_1 l0_1.length c0_1) := (blk_cell BK848.out 1).trans rfl; have hfz12_0 := blk_frozen BK848.out 0; have hfz12_1 := blk_frozen BK848.out 1) | ((with_reducible refine gate_callee (f := 57) rfl ?_); refine goesL_ (some 10) rfl rfl Try.func57 (by kernel_rfl) rfl #[.agg #[.int .i64 a0_0, .slice A0_1 l0_1.length c0_1]] rfl (by (try simp only [List.map_toArray, List.map_cons, List.map_nil]); first | done | rfl | (simp only [List.length_drop, List.length_take]; rfl)) ?_; (with_reducible refine (storagebarterref08_Check.calls k a0_0 _ _ l0_1 t850 _ ?side1 ?side2 A3.out).mono ?_); (case side1 => repeat (first | exact (Kd.C_below HR0_1.out HB.out) | (with_reducible refine Kd.C_alloc ?_ _) | (with_reducible refine Kd.C_drewN ?_ _) | (with_reducible refine Kd.C_drew ?_))); (case side2 => exact HC0_1.out); rintro e w13 ⟨rfl, hb⟩; refine ⟨_, rfl, ?_⟩; have n0_ := Aside0.mk (blk_below (g := gb848) (o := .cells #[.int .i64 a0_0, .slice A0_1 l0_1.length c0_1] 32 (0, 0)) (by (with_reducible repeat (first | refine blk_drewN ?_ _ | refine blk_drew ?_ | refine blk_alloc ?_ _)); exact BK848.out) hb); have n1_ := Aside0.mk (blk_below (g := gb849) (o := .cells #[.int .i64 a1_0, .slice A1_1 l1_1.length c1_1] 32 (0, 0)) (by (with_reducible repeat (first | refine blk_drewN ?_ _ | refine blk_drew ?_ | refine blk_alloc ?_ _)); exact BK849.out) hb); have n2_ := Aside0.mk (below_step (by repeat (first | (with_reducible first | exact HB.out | apply below_alloc | apply pw_below_drewN | apply below_drew1 | refine below_set ?_ GE848.out | refine below_set ?_ GE849.out) | exact HB.out)) hb); clear BK848; clear BK849; clear HB; have BK848 := n0_; have BK849 := n1_; have HB := n2_; clear n0_ n1_ n2_; (try clear hb); (try clear hb2); (try clear hk); (try clear hi); have hcz14_0 : w13.cell? ⟨gb849, 0, none⟩ = some (.int .i64 a1_0) := (blk_cell BK849.out 0).trans rfl; have hcz14_1 : w13.cell? ⟨gb849, 1, none⟩ = some (.slice A1_1 l1_1.length c1_1) := (blk_cell BK849.out 1).trans rfl; have hfz14_0 := blk_frozen BK849.out 0; have hfz14_1 := blk_frozen BK849.out 1) | ((with_reducible refine gate_callee (f := 57) rfl ?_); refine goesL_ (some 15) rfl rfl Try.func57 (by kernel_rfl) rfl #[.agg #[.int .i64 a1_0, .slice A1_1 l1_1.length c1_1]] rfl (by (try simp only [List.map_toArray, List.map_cons, List.map_nil]); first | done | rfl | (simp only [List.length_drop, List.length_take]; rfl)) ?_; (with_reducible refine (storagebarterref08_Check.calls k a1_0 _ _ l1_1 t851 _ ?side1 ?side2 A5.out).mono ?_); (case side1 => repeat (first | exact (Kd.C_below HR1_1.out HB.out) | (with_reducible refine Kd.C_alloc ?_ _) | (with_reducible refine Kd.C_drewN ?_ _) | (with_reducible refine Kd.C_drew ?_))); (case side2 => exact HC1_1.out); rintro e w15 ⟨rfl, hb⟩; refine ⟨_, rfl, ?_⟩; have n0_ := Aside0.mk (blk_below (g := gb848) (o := .cells #[.int .i64 a0_0, .slice A0_1 l0_1.length c0_1] 32 (0, 0)) (by (with_reducible repeat (first | refine blk_drewN ?_ _ | refine blk_drew ?_ | refine blk_alloc ?_ _)); exact BK848.out) hb); have n1_ := Aside0.mk (blk_below (g := gb849) (o := .cells #[.int .i64 a1_0, .slice A1_1 l1_1.length c1_1] 32 (0, 0)) (by (with_reducible repeat (first | refine blk_drewN ?_ _ | refine blk_drew ?_ | refine blk_alloc ?_ _)); exact BK849.out) hb); have n2_ := Aside0.mk (below_step (by repeat (first | (with_reducible first | exact HB.out | apply below_alloc | apply pw_below_drewN | apply below_drew1 | refine below_set ?_ GE848.out | refine below_set ?_ GE849.out) | exact HB.out)) hb); clear BK848; clear BK849; clear HB; have BK848 := n0_; have BK849 := n1_; have HB := n2_; clear n0_ n1_ n2_; (try clear hb); (try clear hb2); (try clear hk); (try clear hi)))
   have n0_ := Aside0.mk (blk_drew BK848.out)
   have n1_ := Aside0.mk (blk_drew BK849.out)
   have n2_ := Aside0.mk (below_drew1 HB.out)
   clear BK848
   clear BK849
   clear HB
   have BK848 := n0_
   have BK849 := n1_
   have HB := n2_
   clear n0_ n1_ n2_
   refine start_ (n := 13) (S := fun w' => w'.cell? ⟨gb849, 0, none⟩ = some (.int .i64 a1_0) ∧ w'.cell? ⟨gb849, 1, none⟩ = some (.slice A1_1 l1_1.length c1_1) ∧ w'.cell? ⟨gb848, 0, none⟩ = some (.int .i64 a0_0) ∧ w'.cell? ⟨gb848, 1, none⟩ = some (.slice A0_1 l0_1.length c0_1)) (ds := []) #[false, false, false, false, false, false, false, false, false, false, false, false, false] (by kernel_rfl) rfl rfl ⟨(blk_cell BK849.out 0).trans rfl, (blk_cell BK849.out 1).trans rfl, (blk_cell BK848.out 0).trans rfl, (blk_cell BK848.out 1).trans rfl⟩ (fun hHeld => ?_); refine with_tabW storagebarterref08_Change.tab7 storagebarterref08_Change.bits7 (fun HT_ HW_ => ?_)
   generalize w15.drew = w16 at BK848 BK849 HB hHeld ⊢
   refine pu 0 19 (v := ?_) (a' := ?_) HT_ rfl rfl (by kernel_rfl) (fun _ _ _ h => h) (Or.inl ⟨by rfl, ?_⟩) ?_ ?_
   rotate_left; (intro w'; go_simp; with_reducible rfl); rotate_left; (simp only [Act.put, Sa, Sz, Ss, i64_w, i32_w]; rfl)
   refine pu 2 21 (v := ?_) (a' := ?_) HT_ rfl rfl (by kernel_rfl) (fun _ _ _ h => h) (Or.inl ⟨by rfl, ?_⟩) ?_ ?_
   rotate_left; (intro w'; go_simp; with_reducible rfl); rotate_left; (simp only [Act.put, Sa, Sz, Ss, i64_w, i32_w]; rfl)
   refine pu 5 24 (v := ?_) (a' := ?_) HT_ rfl rfl (by kernel_rfl) (fun _ _ _ h => h) (Or.inl ⟨by rfl, ?_⟩) ?_ ?_
   rotate_left; (intro w'; go_simp; with_reducible rfl); rotate_left; (simp only [Act.put, Sa, Sz, Ss, i64_w, i32_w]; rfl)
   refine pu 7 26 (v := ?_) (a' := ?_) HT_ rfl rfl (by kernel_rfl) (fun _ _ _ h => h) (Or.inl ⟨by rfl, ?_⟩) ?_ ?_
   rotate_left; (intro w'; go_simp; with_reducible rfl); rotate_left; (simp only [Act.put, Sa, Sz, Ss, i64_w, i32_w]; rfl)
   refine tk 1 20 (v := ?_) (a' := ?_) HT_ HW_ rfl rfl (by kernel_rfl) (fun _ _ _ h => h) (Or.inl ⟨by rfl, ?_⟩) hHeld ?_ ?_
   rotate_left; (rintro w' ⟨s0, s1, s2, s3⟩; go_simp; with_reducible rfl); rotate_left; (simp only [Act.put, Sa, Sz, Ss, i64_w, i32_w]; rfl)
   refine tk 3 22 (v := ?_) (a' := ?_) HT_ HW_ rfl rfl (by kernel_rfl) (fun _ _ _ h => h) (Or.inl ⟨by rfl, ?_⟩) hHeld ?_ ?_
   rotate_left; (rintro w' ⟨s0, s1, s2, s3⟩; go_simp; with_reducible rfl); rotate_left; (simp only [Act.put, Sa, Sz, Ss, i64_w, i32_w]; rfl)
   refine tk 6 25 (v := ?_) (a' := ?_) HT_ HW_ rfl rfl (by kernel_rfl) (fun _ _ _ h => h) (Or.inl ⟨by rfl, ?_⟩) hHeld ?_ ?_
   rotate_left; (rintro w' ⟨s0, s1, s2, s3⟩; go_simp; with_reducible rfl); rotate_left; (simp only [Act.put, Sa, Sz, Ss, i64_w, i32_w]; rfl)
   refine tk 8 27 (v := ?_) (a' := ?_) HT_ HW_ rfl rfl (by kernel_rfl) (fun _ _ _ h => h) (Or.inl ⟨by rfl, ?_⟩) hHeld ?_ ?_
   rotate_left; (rintro w' ⟨s0, s1, s2, s3⟩; go_simp; with_reducible rfl); rotate_left; (simp only [Act.put, Sa, Sz, Ss, i64_w, i32_w]; rfl)
   refine one_ (i := 4) (N := some 23) #[true, true, true, true, true, true, true, true, true, false, false, false, false] rfl rfl (one_of HT_.out (by kernel_rfl)) (by decide) (fun K hK => ?_)
   refine goes_ Try.func88 (by kernel_rfl) rfl #[.slice A1_1 l1_1.length c1_1, .slice A0_1 l0_1.length c0_1] (by rfl) rfl rfl (by (try simp only [List.map_toArray, List.map_cons, List.map_nil]); first | done | rfl | (simp only [List.length_drop, List.length_take]; rfl)) ?_
   with_reducible refine (storagebarterref08_without.calls _ _ l1_1 _ _ l0_1 t852 _ ?side1 ?side2 ?side3 ?side4 A7.out).mono ?_
   (case side1 => repeat (first | exact (Kd.C_below HR1_1.out HB.out) | (with_reducible refine Kd.C_alloc ?_ _) | (with_reducible refine Kd.C_drewN ?_ _) | (with_reducible refine Kd.C_drew ?_)))
   (case side2 => exact HC1_1.out)
   (case side3 => repeat (first | exact (Kd.C_below HR0_1.out HB.out) | (with_reducible refine Kd.C_alloc ?_ _) | (with_reducible refine Kd.C_drewN ?_ _) | (with_reducible refine Kd.C_drew ?_)))
   (case side4 => exact HC0_1.out)
   rintro e w17 ⟨v853, rfl, ho0, hb⟩
   refine ⟨_, rfl, ?_⟩
   have n0_ := Aside0.mk (Kd.R_lower ho0 (below_size (by repeat (first | (with_reducible first | exact HB.out | apply below_alloc | apply pw_below_drewN | apply below_drew1 | refine below_set ?_ GE848.out | refine below_set ?_ GE849.out) | exact HB.out))))
   have n1_ := Aside0.mk (blk_below (g := gb848) (o := .cells #[.int .i64 a0_0, .slice A0_1 l0_1.length c0_1] 32 (0, 0)) (by (with_reducible repeat (first | refine blk_drewN ?_ _ | refine blk_drew ?_ | refine blk_alloc ?_ _)); exact BK848.out) hb)
   have n2_ := Aside0.mk (blk_below (g := gb849) (o := .cells #[.int .i64 a1_0, .slice A1_1 l1_1.length c1_1] 32 (0, 0)) (by (with_reducible repeat (first | refine blk_drewN ?_ _ | refine blk_drew ?_ | refine blk_alloc ?_ _)); exact BK849.out) hb)
   have n3_ := Aside0.mk (below_step (by repeat (first | (with_reducible first | exact HB.out | apply below_alloc | apply pw_below_drewN | apply below_drew1 | refine below_set ?_ GE848.out | refine below_set ?_ GE849.out) | exact HB.out)) hb)
   clear BK848
   clear BK849
   clear HB
   have HO854 := n0_
   have BK848 := n1_
   have BK849 := n2_
   have HB := n3_
   clear n0_ n1_ n2_ n3_
   (try clear hb)
   (try clear hb2)
   (try clear hk)
   (try clear hi)
   (try clear ho0)
   refine hK.out _ _ ⟨(blk_cell BK849.out 0).trans rfl, (blk_cell BK849.out 1).trans rfl, (blk_cell BK848.out 0).trans rfl, (blk_cell BK848.out 1).trans rfl⟩ (fun hHeld => ?_)
   clear hK K
   refine norm_ (a' := ?_) ?_ ?_
   rotate_left
   ·show Act.put _ (some 23) _ = _
    simp only [Act.put, Sa, Sz, Ss, i64_w, i32_w]
    rfl
   refine one_ (i := 9) (N := some 28) #[true, true, true, true, true, true, true, true, true, true, false, false, false] rfl rfl (one_of HT_.out (by kernel_rfl)) (by decide) (fun K hK => ?_)
   refine goes_ Try.func88 (by kernel_rfl) rfl #[.slice A0_1 l0_1.length c0_1, .slice A1_1 l1_1.length c1_1] (by rfl) rfl rfl (by (try simp only [List.map_toArray, List.map_cons, List.map_nil]); first | done | rfl | (simp only [List.length_drop, List.length_take]; rfl)) ?_
   with_reducible refine (storagebarterref08_without.calls _ _ l0_1 _ _ l1_1 t855 _ ?side1 ?side2 ?side3 ?side4 A8.out).mono ?_
   (case side1 => repeat (first | exact (Kd.C_below HR0_1.out HB.out) | (with_reducible refine Kd.C_alloc ?_ _) | (with_reducible refine Kd.C_drewN ?_ _) | (with_reducible refine Kd.C_drew ?_)))
   (case side2 => exact HC0_1.out)
   (case side3 => repeat (first | exact (Kd.C_below HR1_1.out HB.out) | (with_reducible refine Kd.C_alloc ?_ _) | (with_reducible refine Kd.C_drewN ?_ _) | (with_reducible refine Kd.C_drew ?_)))
   (case side4 => exact HC1_1.out)
   rintro e w18 ⟨v856, rfl, ho0, hb⟩
   refine ⟨_, rfl, ?_⟩
   have n0_ := Aside0.mk (Kd.R_elder' (by (with_reducible repeat (first | apply Kd.R_alloc | apply Kd.R_drewN | apply Kd.R_drew)); exact HO854.out) (Kd.R_base ho0) hb)
   have n1_ := Aside0.mk (Kd.R_lower (Kd.R_new' ho0 (Kd.R_lt (by (with_reducible repeat (first | apply Kd.R_alloc | apply Kd.R_drewN | apply Kd.R_drew)); exact HO854.out))) (below_size (by repeat (first | (with_reducible first | exact HB.out | apply below_alloc | apply pw_below_drewN | apply below_drew1 | refine below_set ?_ GE848.out | refine below_set ?_ GE849.out) | exact HB.out))))
   have n2_ := Aside0.mk (blk_below (g := gb848) (o := .cells #[.int .i64 a0_0, .slice A0_1 l0_1.length c0_1] 32 (0, 0)) (by (with_reducible repeat (first | refine blk_drewN ?_ _ | refine blk_drew ?_ | refine blk_alloc ?_ _)); exact BK848.out) hb)
   have n3_ := Aside0.mk (blk_below (g := gb849) (o := .cells #[.int .i64 a1_0, .slice A1_1 l1_1.length c1_1] 32 (0, 0)) (by (with_reducible repeat (first | refine blk_drewN ?_ _ | refine blk_drew ?_ | refine blk_alloc ?_ _)); exact BK849.out) hb)
   have n4_ := Aside0.mk (below_step (by repeat (first | (with_reducible first | exact HB.out | apply below_alloc | apply pw_below_drewN | apply below_drew1 | refine below_set ?_ GE848.out | refine below_set ?_ GE849.out) | exact HB.out)) hb)
   clear HO854
   clear BK848
   clear BK849
   clear HB
   have HO854 := n0_
   have HO857 := n1_
   have BK848 := n2_
   have BK849 := n3_
   have HB := n4_
   clear n0_ n1_ n2_ n3_ n4_
   (try clear hb)
   (try clear hb2)
   (try clear hk)
   (try clear hi)
   (try clear ho0)
   refine hK.out _ _ ⟨(blk_cell BK849.out 0).trans rfl, (blk_cell BK849.out 1).trans rfl, (blk_cell BK848.out 0).trans rfl, (blk_cell BK848.out 1).trans rfl⟩ (fun hHeld => ?_)
   clear hK K
   refine norm_ (a' := ?_) ?_ ?_
   rotate_left
   ·show Act.put _ (some 28) _ = _
    simp only [Act.put, Sa, Sz, Ss, i64_w, i32_w]
    rfl
   refine pu 10 4 (v := ?_) (a' := ?_) HT_ rfl rfl (by kernel_rfl) (fun _ _ _ h => h) (Or.inl ⟨by rfl, ?_⟩) ?_ ?_
   rotate_left; (intro w'; go_simp; with_reducible rfl); rotate_left; (simp only [Act.put, Sa, Sz, Ss, i64_w, i32_w]; rfl)
   refine pu 11 5 (v := ?_) (a' := ?_) HT_ rfl rfl (by kernel_rfl) (fun _ _ _ h => h) (Or.inl ⟨by rfl, ?_⟩) ?_ ?_
   rotate_left; (intro w'; go_simp; with_reducible rfl); rotate_left; (simp only [Act.put, Sa, Sz, Ss, i64_w, i32_w]; rfl)
   refine pu 12 6 (v := ?_) (a' := ?_) HT_ rfl rfl (by kernel_rfl) (fun _ _ _ h => h) (Or.inl ⟨by rfl, ?_⟩) ?_ ?_
   rotate_left; (intro w'; go_simp; with_reducible rfl); rotate_left; (simp only [Act.put, Sa, Sz, Ss, i64_w, i32_w]; rfl)
   refine done_ (done_of HT_.out (by kernel_rfl)) ?_
   try go_wp2
   go_ret3
   exact ⟨_, _, by first | rfl | (simp [errW_none, errW_some] <;> rfl) | (simp [*, errW_none, errW_some] <;> rfl), by (with_reducible repeat (first | apply Kd.R_alloc | apply Kd.R_drewN | apply Kd.R_drew)); exact Kd.R_mono HO854.out (fun _ hk => hk.2), by (with_reducible repeat (first | apply Kd.R_alloc | apply Kd.R_drewN | apply Kd.R_drew)); exact Kd.R_mono HO857.out (fun _ hk => hk.2), by repeat (first | (with_reducible first | exact HB.out | apply below_alloc | apply pw_below_drewN | apply below_drew1 | refine below_set ?_ GE848.out | refine below_set ?_ GE849.out) | exact HB.out)⟩
  ·rw [if_neg c6] at H
   have c6b0 : (t851 == 0) = false := beq_eq_false_iff_ne.mpr c6
   have c6b1 : (t851 != 0) = true := bne_iff_ne.mpr c6
   simp only [Option.some.injEq, Prod.mk.injEq] at H
   obtain ⟨rfl, rfl, rfl⟩ := H
   go_enter Try.func55, Try.ntmps55
   go_wp2_with (first | ((with_reducible refine gate_dst (N := 2) rfl ?_); refine box_event ?hg (N := 2) ?hd (cs := #[.int .i64 a0_0, .slice A0_1 l0_1.length c0_1]) (t := 32) ?hr ?_; (case hd => rfl); (case hg => rfl); (case hr => first | (go_simp; done) | (go_simp; rfl)); intro gb848 hg w19 hbox hb; have n0_ := Aside0.mk (below_step (by repeat (first | (with_reducible first | exact HB.out | apply below_alloc | apply pw_below_drewN | apply below_drew1) | exact HB.out)) hb); have n1_ := Aside0.mk (hbox); have n2_ := Aside0.mk ((by rw [hg]; exact (below_size (by repeat (first | (with_reducible first | exact HB.out | apply below_alloc | apply pw_below_drewN | apply below_drew1) | exact HB.out))) : w.heap.size ≤ gb848)); have n3_ := Aside0.mk ((by rw [hg]; exact (below_size (by repeat (first | (with_reducible first | exact HB.out | apply below_alloc | apply pw_below_drewN | apply below_drew1) | exact HB.out))) : w.heap.size ≤ gb848)); clear HB; have HB := n0_; have BK848 := n1_; have GW848 := n2_; have GE848 := n3_; clear n0_ n1_ n2_ n3_; clear hb hbox hg) | ((with_reducible refine gate_dst (N := 3) rfl ?_); refine box_event ?hg (N := 3) ?hd (cs := #[.int .i64 a1_0, .slice A1_1 l1_1.length c1_1]) (t := 32) ?hr ?_; (case hd => rfl); (case hg => rfl); (case hr => first | (go_simp; done) | (go_simp; rfl)); intro gb849 hg w20 hbox hb; have n0_ := Aside0.mk (blk_below (g := gb848) (o := .cells #[.int .i64 a0_0, .slice A0_1 l0_1.length c0_1] 32 (0, 0)) (by (with_reducible repeat (first | refine blk_drewN ?_ _ | refine blk_drew ?_ | refine blk_alloc ?_ _)); exact BK848.out) hb); have n1_ := Aside0.mk (below_step (by repeat (first | (with_reducible first | exact HB.out | apply below_alloc | apply pw_below_drewN | apply below_drew1 | refine below_set ?_ GE848.out) | exact HB.out)) hb); have n2_ := Aside0.mk (hbox); have n3_ := Aside0.mk ((by rw [hg]; exact (below_size (by repeat (first | (with_reducible first | exact HB.out | apply below_alloc | apply pw_below_drewN | apply below_drew1 | refine below_set ?_ GE848.out) | exact HB.out))) : w.heap.size ≤ gb849)); have n4_ := Aside0.mk ((by rw [hg]; exact (below_size (by repeat (first | (with_reducible first | exact HB.out | apply below_alloc | apply pw_below_drewN | apply below_drew1 | refine below_set ?_ GE848.out) | exact HB.out))) : w.heap.size ≤ gb849)); have n5_ := Aside0.mk ((by rw [hg]; exact Nat.ne_of_lt (blk_lt (g := gb848) (o := .cells #[.int .i64 a0_0, .slice A0_1 l0_1.length c0_1] 32 (0, 0)) (by (with_reducible repeat (first | refine blk_drewN ?_ _ | refine blk_drew ?_ | refine blk_alloc ?_ _)); exact BK848.out)) : gb848 ≠ gb849)); have n6_ := Aside0.mk ((by rw [hg]; exact Nat.ne_of_gt (blk_lt (g := gb848) (o := .cells #[.int .i64 a0_0, .slice A0_1 l0_1.length c0_1] 32 (0, 0)) (by (with_reducible repeat (first | refine blk_drewN ?_ _ | refine blk_drew ?_ | refine blk_alloc ?_ _)); exact BK848.out)) : gb849 ≠ gb848)); clear BK848; clear HB; have BK848 := n0_; have HB := n1_; have BK849 := n2_; have GW849 := n3_; have GE849 := n4_; have NB848_849 := n5_; have NB849_848 := n6_; clear n0_ n1_ n2_ n3_ n4_ n5_ n6_; clear hb hbox hg; have hnb21 := NB848_849.out; have hnc21 := NB849_848.out; have hcz22_0 : w20.cell? ⟨gb848, 0, none⟩ = some (.int .i64 a0_0) := (blk_cell BK848.out 0).trans rfl; have hcz22_1 : w20.cell? ⟨gb848, 1, none⟩ = some (.slice A0_1 l0_1.length c0_1) := (blk_cell BK848.out 1).trans rfl; have hfz22_0 := blk_frozen BK848.out 0; have hfz22_1 := blk_frozen BK848.out 1) | ((with_reducible refine gate_callee (f := 57) rfl ?_); refine goesL_ (some 10) rfl rfl Try.func57 (by kernel_rfl) rfl #[.agg #[.int .i64 a0_0, .slice A0_1 l0_1.length c0_1]] rfl (by (try simp only [List.map_toArray, List.map_cons, List.map_nil]); first | done | rfl | (simp only [List.length_drop, List.length_take]; rfl)) ?_; (with_reducible refine (storagebarterref08_Check.calls k a0_0 _ _ l0_1 t850 _ ?side1 ?side2 A3.out).mono ?_); (case side1 => repeat (first | exact (Kd.C_below HR0_1.out HB.out) | (with_reducible refine Kd.C_alloc ?_ _) | (with_reducible refine Kd.C_drewN ?_ _) | (with_reducible refine Kd.C_drew ?_))); (case side2 => exact HC0_1.out); rintro e w23 ⟨rfl, hb⟩; refine ⟨_, rfl, ?_⟩; have n0_ := Aside0.mk (blk_below (g := gb848) (o := .cells #[.int .i64 a0_0, .slice A0_1 l0_1.length c0_1] 32 (0, 0)) (by (with_reducible repeat (first | refine blk_drewN ?_ _ | refine blk_drew ?_ | refine blk_alloc ?_ _)); exact BK848.out) hb); have n1_ := Aside0.mk (blk_below (g := gb849) (o := .cells #[.int .i64 a1_0, .slice A1_1 l1_1.length c1_1] 32 (0, 0)) (by (with_reducible repeat (first | refine blk_drewN ?_ _ | refine blk_drew ?_ | refine blk_alloc ?_ _)); exact BK849.out) hb); have n2_ := Aside0.mk (below_step (by repeat (first | (with_reducible first | exact HB.out | apply below_alloc | apply pw_below_drewN | apply below_drew1 | refine below_set ?_ GE848.out | refine below_set ?_ GE849.out) | exact HB.out)) hb); clear BK848; clear BK849; clear HB; have BK848 := n0_; have BK849 := n1_; have HB := n2_; clear n0_ n1_ n2_; (try clear hb); (try clear hb2); (try clear hk); (try clear hi); have hcz24_0 : w23.cell? ⟨gb849, 0, none⟩ = some (.int .i64 a1_0) := (blk_cell BK849.out 0).trans rfl; have hcz24_1 : w23.cell? ⟨gb849, 1, none⟩ = some (.slice A1_1 l1_1.length c1_1) := (blk_cell BK849.out 1).trans rfl; have hfz24_0 := blk_frozen BK849.out 0; have hfz24_1 := blk_frozen BK849.out 1) | ((with_reducible refine gate_callee (f := 57) rfl ?_); refine goesL_ (some 15) rfl rfl Try.func57 (by kernel_rfl) rfl #[.agg #[.int .i64 a1_0, .slice A1_1 l1_1.length c1_1]] rfl (by (try simp only [List.map_toArray, List.map_cons, List.map_nil]); first | done | rfl | (simp only [List.length_drop, List.length_take]; rfl)) ?_; (with_reducible refine (storagebarterref08_Check.calls k a1_0 _ _ l1_1 t851 _ ?side1 ?side2 A5.out).mono ?_); (case side1 => repeat (first | exact (Kd.C_below HR1_1.out HB.out) | (with_reducible refine Kd.C_alloc ?_ _) | (with_reducible refine Kd.C_drewN ?_ _) | (with_reducible refine Kd.C_drew ?_))); (case side2 => exact HC1_1.out); rintro e w25 ⟨rfl, hb⟩; refine ⟨_, rfl, ?_⟩; have n0_ := Aside0.mk (blk_below (g := gb848) (o := .cells #[.int .i64 a0_0, .slice A0_1 l0_1.length c0_1] 32 (0, 0)) (by (with_reducible repeat (first | refine blk_drewN ?_ _ | refine blk_drew ?_ | refine blk_alloc ?_ _)); exact BK848.out) hb); have n1_ := Aside0.mk (blk_below (g := gb849) (o := .cells #[.int .i64 a1_0, .slice A1_1 l1_1.length c1_1] 32 (0, 0)) (by (with_reducible repeat (first | refine blk_drewN ?_ _ | refine blk_drew ?_ | refine blk_alloc ?_ _)); exact BK849.out) hb); have n2_ := Aside0.mk (below_step (by repeat (first | (with_reducible first | exact HB.out | apply below_alloc | apply pw_below_drewN | apply below_drew1 | refine below_set ?_ GE848.out | refine below_set ?_ GE849.out) | exact HB.out)) hb); clear BK848; clear BK849; clear HB; have BK848 := n0_; have BK849 := n1_; have HB := n2_; clear n0_ n1_ n2_; (try clear hb); (try clear hb2); (try clear hk); (try clear hi)))
   go_ret3
   exact ⟨_, _, by first | rfl | (simp [errW_none, errW_some] <;> rfl) | (simp [*, errW_none, errW_some] <;> rfl), by first | exact Kd.R_nil _ _ _ _ _ | exact Kd.N_nil _ _ _ _ _ | exact Kd.V_nil _ _ _ _ _ | exact Kd.Q_nil _ _ _ _ _ | exact Kd.S_nil _ _ _ _ _, by first | exact Kd.R_nil _ _ _ _ _ | exact Kd.N_nil _ _ _ _ _ | exact Kd.V_nil _ _ _ _ _ | exact Kd.Q_nil _ _ _ _ _ | exact Kd.S_nil _ _ _ _ _, by repeat (first | (with_reducible first | exact HB.out | apply below_alloc | apply pw_below_drewN | apply below_drew1 | refine below_set ?_ GE848.out | refine below_set ?_ GE849.out) | exact HB.out)⟩
 ·rw [if_neg c4] at H
  have c4b0 : (t850 == 0) = false := beq_eq_false_iff_ne.mpr c4
  have c4b1 : (t850 != 0) = true := bne_iff_ne.mpr c4
  simp only [Option.some.injEq, Prod.mk.injEq] at H
  obtain ⟨rfl, rfl, rfl⟩ := H
  go_enter Try.func55, Try.ntmps55
  go_wp2_with (first | ((with_reducible refine gate_dst (N := 2) rfl ?_); refine box_event ?hg (N := 2) ?hd (cs := #[.int .i64 a0_0, .slice A0_1 l0_1.length c0_1]) (t := 32) ?hr ?_; (case hd => rfl); (case hg => rfl); (case hr => first | (go_simp; done) | (go_simp; rfl)); intro gb848 hg w26 hbox hb; have n0_ := Aside0.mk (below_step (by repeat (first | (with_reducible first | exact HB.out | apply below_alloc | apply pw_below_drewN | apply below_drew1) | exact HB.out)) hb); have n1_ := Aside0.mk (hbox); have n2_ := Aside0.mk ((by rw [hg]; exact (below_size (by repeat (first | (with_reducible first | exact HB.out | apply below_alloc | apply pw_below_drewN | apply below_drew1) | exact HB.out))) : w.heap.size ≤ gb848)); have n3_ := Aside0.mk ((by rw [hg]; exact (below_size (by repeat (first | (with_reducible first | exact HB.out | apply below_alloc | apply pw_below_drewN | apply below_drew1) | exact HB.out))) : w.heap.size ≤ gb848)); clear HB; have HB := n0_; have BK848 := n1_; have GW848 := n2_; have GE848 := n3_; clear n0_ n1_ n2_ n3_; clear hb hbox hg) | ((with_reducible refine gate_dst (N := 3) rfl ?_); refine box_event ?hg (N := 3) ?hd (cs := #[.int .i64 a1_0, .slice A1_1 l1_1.length c1_1]) (t := 32) ?hr ?_; (case hd => rfl); (case hg => rfl); (case hr => first | (go_simp; done) | (go_simp; rfl)); intro gb849 hg w27 hbox hb; have n0_ := Aside0.mk (blk_below (g := gb848) (o := .cells #[.int .i64 a0_0, .slice A0_1 l0_1.length c0_1] 32 (0, 0)) (by (with_reducible repeat (first | refine blk_drewN ?_ _ | refine blk_drew ?_ | refine blk_alloc ?_ _)); exact BK848.out) hb); have n1_ := Aside0.mk (below_step (by repeat (first | (with_reducible first | exact HB.out | apply below_alloc | apply pw_below_drewN | apply below_drew1 | refine below_set ?_ GE848.out) | exact HB.out)) hb); have n2_ := Aside0.mk (hbox); have n3_ := Aside0.mk ((by rw [hg]; exact (below_size (by repeat (first | (with_reducible first | exact HB.out | apply below_alloc | apply pw_below_drewN | apply below_drew1 | refine below_set ?_ GE848.out) | exact HB.out))) : w.heap.size ≤ gb849)); have n4_ := Aside0.mk ((by rw [hg]; exact (below_size (by repeat (first | (with_reducible first | exact HB.out | apply below_alloc | apply pw_below_drewN | apply below_drew1 | refine below_set ?_ GE848.out) | exact HB.out))) : w.heap.size ≤ gb849)); have n5_ := Aside0.mk ((by rw [hg]; exact Nat.ne_of_lt (blk_lt (g := gb848) (o := .cells #[.int .i64 a0_0, .slice A0_1 l0_1.length c0_1] 32 (0, 0)) (by (with_reducible repeat (first | refine blk_drewN ?_ _ | refine blk_drew ?_ | refine blk_alloc ?_ _)); exact BK848.out)) : gb848 ≠ gb849)); have n6_ := Aside0.mk ((by rw [hg]; exact Nat.ne_of_gt (blk_lt (g := gb848) (o := .cells #[.int .i64 a0_0, .slice A0_1 l0_1.length c0_1] 32 (0, 0)) (by (with_reducible repeat (first | refine blk_drewN ?_ _ | refine blk_drew ?_ | refine blk_alloc ?_ _)); exact BK848.out)) : gb849 ≠ gb848)); clear BK848; clear HB; have BK848 := n0_; have HB := n1_; have BK849 := n2_; have GW849 := n3_; have GE849 := n4_; have NB848_849 := n5_; have NB849_848 := n6_; clear n0_ n1_ n2_ n3_ n4_ n5_ n6_; clear hb hbox hg; have hnb28 := NB848_849.out; have hnc28 := NB849_848.out; have hcz29_0 : w27.cell? ⟨gb848, 0, none⟩ = some (.int .i64 a0_0) := (blk_cell BK848.out 0).trans rfl; have hcz29_1 : w27.cell? ⟨gb848, 1, none⟩ = some (.slice A0_1 l0_1.length c0_1) := (blk_cell BK848.out 1).trans rfl; have hfz29_0 := blk_frozen BK848.out 0; have hfz29_1 := blk_frozen BK848.out 1) | ((with_reducible refine gate_callee (f := 57) rfl ?_); refine goesL_ (some 10) rfl rfl Try.func57 (by kernel_rfl) rfl #[.agg #[.int .i64 a0_0, .slice A0_1 l0_1.length c0_1]] rfl (by (try simp only [List.map_toArray, List.map_cons, List.map_nil]); first | done | rfl | (simp only [List.length_drop, List.length_take]; rfl)) ?_; (with_reducible refine (storagebarterref08_Check.calls k a0_0 _ _ l0_1 t850 _ ?side1 ?side2 A3.out).mono ?_); (case side1 => repeat (first | exact (Kd.C_below HR0_1.out HB.out) | (with_reducible refine Kd.C_alloc ?_ _) | (with_reducible refine Kd.C_drewN ?_ _) | (with_reducible refine Kd.C_drew ?_))); (case side2 => exact HC0_1.out); rintro e w30 ⟨rfl, hb⟩; refine ⟨_, rfl, ?_⟩; have n0_ := Aside0.mk (blk_below (g := gb848) (o := .cells #[.int .i64 a0_0, .slice A0_1 l0_1.length c0_1] 32 (0, 0)) (by (with_reducible repeat (first | refine blk_drewN ?_ _ | refine blk_drew ?_ | refine blk_alloc ?_ _)); exact BK848.out) hb); have n1_ := Aside0.mk (blk_below (g := gb849) (o := .cells #[.int .i64 a1_0, .slice A1_1 l1_1.length c1_1] 32 (0, 0)) (by (with_reducible repeat (first | refine blk_drewN ?_ _ | refine blk_drew ?_ | refine blk_alloc ?_ _)); exact BK849.out) hb); have n2_ := Aside0.mk (below_step (by repeat (first | (with_reducible first | exact HB.out | apply below_alloc | apply pw_below_drewN | apply below_drew1 | refine below_set ?_ GE848.out | refine below_set ?_ GE849.out) | exact HB.out)) hb); clear BK848; clear BK849; clear HB; have BK848 := n0_; have BK849 := n1_; have HB := n2_; clear n0_ n1_ n2_; (try clear hb); (try clear hb2); (try clear hk); (try clear hi)))
  go_ret3
  exact ⟨_, _, by first | rfl | (simp [errW_none, errW_some] <;> rfl) | (simp [*, errW_none, errW_some] <;> rfl), by first | exact Kd.R_nil _ _ _ _ _ | exact Kd.N_nil _ _ _ _ _ | exact Kd.V_nil _ _ _ _ _ | exact Kd.Q_nil _ _ _ _ _ | exact Kd.S_nil _ _ _ _ _, by first | exact Kd.R_nil _ _ _ _ _ | exact Kd.N_nil _ _ _ _ _ | exact Kd.V_nil _ _ _ _ _ | exact Kd.Q_nil _ _ _ _ _ | exact Kd.S_nil _ _ _ _ _, by repeat (first | (with_reducible first | exact HB.out | apply below_alloc | apply pw_below_drewN | apply below_drew1 | refine below_set ?_ GE848.out | refine below_set ?_ GE849.out) | exact HB.out)⟩
end Go.Proofs.Ytodhkbahjomfhaa.Q

namespace Go.Proofs.Ytodhkbahjomfhaa.Q
open Go.RowKit Go.Proofs.YtodhkbahjomfhaaW.PrintWords Go.Proofs.YtodhkbahjomfhaaW.PrintLast Go.Proofs.YtodhkbahjomfhaaW.PrintMore Go.Proofs.Ytodhkbahjomfhaa.Gput Go.Proofs.Ytodhkbahjomfhaa.Gputl
attribute [local go_sem] max2_int min2_int max_two min_two max_three min_three max_four min_four   -- for this text's walks alone
set_option linter.unusedVariables false
set_option linter.unusedSimpArgs false
attribute [local go_sem high] eqA78
noncomputable def storagebarterref08_SameNames.l0 : Nat → List (S78) → List (S78) → Int → Int → Option (Bool)
 | 0, _, _, _, _ => none
 | k + 1, x0, x1, x12, x13 => if x13 < x12 then (if 0 ≤ x13 then (if x13 < (x0.length : Int) then (if x13 < (x1.length : Int) then (if (!(((rd_T78 x0 x13).f0) == ((rd_T78 x1 x13).f0)) || (!(((rd_T78 x0 x13).f1) == ((rd_T78 x1 x13).f1)))) = true then (some false) else (storagebarterref08_SameNames.l0 k x0 x1 x12 (wrap64 (x13 + 1)))) else (none)) else (none)) else (none)) else (some true)
noncomputable def storagebarterref08_SameNames.f (k : Nat) (l0 : List (S78)) (l1 : List (S78)) : Option (Bool) := if (l0.length : Int) = (l1.length : Int) then (storagebarterref08_SameNames.l0 k l0 l1 (l0.length : Int) 0) else (some false)
set_option maxHeartbeats 8000000 in
set_option maxRecDepth 100000 in
theorem storagebarterref08_SameNames.calls (k : Nat) (A0 : Option Addr) (c0 : Nat) (l0 : List (S78)) (A1 : Option Addr) (c1 : Nat) (l1 : List (S78)) (r : Bool) (w : World) (hr0 : Kd.C k78 w A0 l0.length l0) (hc0 : l0.length ≤ c0) (hr1 : Kd.C k78 w A1 l1.length l1) (hc1 : l1.length ≤ c1) (h : storagebarterref08_SameNames.f k l0 l1 = some r) :
 Calls Try.prog 48 #[.slice A0 l0.length c0, .slice A1 l1.length c1] w fun e w' => e = .returned (.bool r) ∧ Drawn0 w w' := by
 have hu78 := Try.underlying78
 have HR0 := Aside0.mk hr0
 have HC0 := Aside0.mk hc0
 clear hr0 hc0
 have HR1 := Aside0.mk hr1
 have HC1 := Aside0.mk hc1
 clear hr1 hc1
 have H : (if (l0.length : Int) = (l1.length : Int) then (storagebarterref08_SameNames.l0 k l0 l1 (l0.length : Int) 0) else (some false)) = some r := h
 clear h
 by_cases c3 : (l0.length : Int) = (l1.length : Int)
 ·rw [if_pos c3] at H
  have c3b0 : ((l0.length : Int) == (l1.length : Int)) = true := beq_iff_eq.mpr c3
  have c3b1 : ((l0.length : Int) != (l1.length : Int)) = false := bne_eq_false_iff_eq.mpr c3
  have c3b2 : (l0.length == l1.length) = true := by first | simpa using c3 | (simp at c3 ⊢; omega)
  clear c3
  have H' := Aside0.mk H
  clear H
  go_enter Try.func48, Try.ntmps48
  go_wp2
  repeat (go_quiet (fail); try go_wp2)
  go_loopg [13] k (fun kq v13 w' => ∃ (x13_1 : Int), v13 = .int .i64 x13_1 ∧ Aside0 (storagebarterref08_SameNames.l0 kq l0 l1 (l0.length : Int) x13_1 = some r) ∧ Aside0 (kq ≤ k) ∧ Drawn0 w w')
  case atStart => exact ⟨(0), (by first | rfl | (simp; done) | (simp [*]; done)), H', ⟨Nat.le_refl _⟩, by repeat (first | exact Drawn0.refl _ | apply Drawn0.step)⟩
  case round =>
   clear H'
   try clear c1
   try clear p2
   try clear c3
   try clear c3b0
   try clear c3b1
   try clear c3b2
   obtain ⟨x13_1, rfl, HA, HK1, ⟨m1, rfl⟩⟩ := hrel
   cases gk with
   | zero => exact absurd HA.out (by simp [storagebarterref08_SameNames.l0])
   | succ k1 =>
    have H := HA.out
    clear HA
    simp only [storagebarterref08_SameNames.l0] at H
    by_cases c4 : x13_1 < (l0.length : Int)
    ·rw [if_pos c4] at H
     have c4b0 : decide (x13_1 < (l0.length : Int)) = true := decide_eq_true c4
     clear c4
     by_cases c5 : 0 ≤ x13_1
     ·rw [if_pos c5] at H
      have c5b0 : decide (0 ≤ x13_1) = true := decide_eq_true c5
      clear c5
      by_cases c6 : x13_1 < (l0.length : Int)
      ·rw [if_pos c6] at H
       have c6b0 : decide (x13_1 < (l0.length : Int)) = true := decide_eq_true c6
       clear c6
       by_cases c7 : x13_1 < (l1.length : Int)
       ·rw [if_pos c7] at H
        have c7b0 : decide (x13_1 < (l1.length : Int)) = true := decide_eq_true c7
        clear c7
        by_cases c8 : (!(((rd_T78 l0 x13_1).f0) == ((rd_T78 l1 x13_1).f0)) || (!(((rd_T78 l0 x13_1).f1) == ((rd_T78 l1 x13_1).f1)))) = true
        ·rw [if_pos c8] at H
         have c8b0 : (!(((rd_T78 l0 x13_1).f0) == ((rd_T78 l1 x13_1).f0)) || (!(((rd_T78 l0 x13_1).f1) == ((rd_T78 l1 x13_1).f1)))) = true := c8
         clear c8
         obtain rfl := Option.some.inj H
         have p602 : 0 ≤ (x13_1 : Int) := of_decide_eq_true (by first | (with_reducible assumption) | assumption)
         have q602 : x13_1 < (l0.length : Int) := of_decide_eq_true (by first | (with_reducible assumption) | assumption)
         obtain ⟨ad602, e602, hx602_0, hx602_1⟩ := at_T78 HR0.out x13_1 p602 q602
         cases e602
         replace p602 := eq_true p602
         replace q602 := eq_true q602
         have p603 : 0 ≤ (x13_1 : Int) := of_decide_eq_true (by first | (with_reducible assumption) | assumption)
         have q603 : x13_1 < (l1.length : Int) := of_decide_eq_true (by first | (with_reducible assumption) | assumption)
         obtain ⟨ad603, e603, hx603_0, hx603_1⟩ := at_T78 HR1.out x13_1 p603 q603
         cases e603
         replace p603 := eq_true p603
         replace q603 := eq_true q603
         go_wp2
         repeat (go_quiet (fail); try go_wp2)
         go_ret
         exact ⟨by first | rfl | (simp; done) | (simp [*]; done), by repeat (first | exact Drawn0.refl _ | apply Drawn0.step)⟩
        ·rw [if_neg c8] at H
         have c8b0 : (!(((rd_T78 l0 x13_1).f0) == ((rd_T78 l1 x13_1).f0)) || (!(((rd_T78 l0 x13_1).f1) == ((rd_T78 l1 x13_1).f1)))) = false := by simpa using c8
         clear c8
         have H' := Aside0.mk H
         clear H
         have p602 : 0 ≤ (x13_1 : Int) := of_decide_eq_true (by first | (with_reducible assumption) | assumption)
         have q602 : x13_1 < (l0.length : Int) := of_decide_eq_true (by first | (with_reducible assumption) | assumption)
         obtain ⟨ad602, e602, hx602_0, hx602_1⟩ := at_T78 HR0.out x13_1 p602 q602
         cases e602
         replace p602 := eq_true p602
         replace q602 := eq_true q602
         have p603 : 0 ≤ (x13_1 : Int) := of_decide_eq_true (by first | (with_reducible assumption) | assumption)
         have q603 : x13_1 < (l1.length : Int) := of_decide_eq_true (by first | (with_reducible assumption) | assumption)
         obtain ⟨ad603, e603, hx603_0, hx603_1⟩ := at_T78 HR1.out x13_1 p603 q603
         cases e603
         replace p603 := eq_true p603
         replace q603 := eq_true q603
         go_wp2
         repeat (go_quiet (fail); try go_wp2)
         go_roundg k1
         case measure => have := HK1.out; omega
         case rel => exact ⟨(wrap64 (x13_1 + 1)), (by first | rfl | (simp; done) | (simp [*]; done)), H', ⟨by have := HK1.out; omega⟩, by repeat (first | exact Drawn0.refl _ | apply Drawn0.step)⟩
       ·rw [if_neg c7] at H
        exact absurd H (by simp)
      ·rw [if_neg c6] at H
       exact absurd H (by simp)
     ·rw [if_neg c5] at H
      exact absurd H (by simp)
    ·rw [if_neg c4] at H
     have c4b0 : decide (x13_1 < (l0.length : Int)) = false := decide_eq_false c4
     clear c4
     obtain rfl := Option.some.inj H
     go_wp2
     repeat (go_quiet (fail); try go_wp2)
     go_ret
     exact ⟨by first | rfl | (simp; done) | (simp [*]; done), by repeat (first | exact Drawn0.refl _ | apply Drawn0.step)⟩
 ·rw [if_neg c3] at H
  have c3b0 : ((l0.length : Int) == (l1.length : Int)) = false := beq_eq_false_iff_ne.mpr c3
  have c3b1 : ((l0.length : Int) != (l1.length : Int)) = true := bne_iff_ne.mpr c3
  have c3b2 : (l0.length == l1.length) = false := by first | simpa using c3 | (simp at c3 ⊢; omega)
  obtain rfl := Option.some.inj H
  go_enter Try.func48, Try.ntmps48
  go_wp2
  repeat (go_quiet (fail); try go_wp2)
  go_ret
  exact ⟨by first | rfl | (simp; done) | (simp [*]; done), by repeat (first | exact Drawn0.refl _ | apply Drawn0.step)⟩
end Go.Proofs.Ytodhkbahjomfhaa.Q
