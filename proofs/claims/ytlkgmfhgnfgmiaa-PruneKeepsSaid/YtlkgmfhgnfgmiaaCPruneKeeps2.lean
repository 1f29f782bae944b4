/- Nobody else's backups go, the last ones stay, and nothing is lost or made. -/
import Derived.Test.YtlkgmfhgnfgmiaaCPruneKeeps1
import Derived.OpenShut
import Derived.Test.YtlkgmfhgnfgmiaaRows
import Derived.WalkKit
import Derived.ProofKit
import Derived.ShutString
import Derived.ChangeOld
import Derived.Below
import Derived.SizedLaws
import Derived.Test.YtlkgmfhgnfgmiaaWSized
namespace Go.Proofs.Ytlkgmfhgnfgmiaa.Q
open Go.RowKit Go.Proofs.YtlkgmfhgnfgmiaaW.PrintWords Go.Proofs.YtlkgmfhgnfgmiaaW.PrintLast Go.Proofs.YtlkgmfhgnfgmiaaW.PrintMore
attribute [local go_sem] max2_int min2_int max_two min_two max_three min_three max_four min_four   -- for this text's walks alone
set_option linter.unusedVariables false
set_option linter.unusedSimpArgs false

/-! ### storagebarterlaw39_made: function 24 -/
mutual
def storagebarterlaw39_made.l0 : Nat → List (S29) → Int → List Int → Int → Option ((List (S29)) × (List (S72)) × Int)
  | 0, _, _, _, _ => none
  | k + 1, x4, x5, x1000, x1001 => if x5 > 0 then ((storagebarterplay_Dice_Pick.f x1000 x1001 3).bind fun bt668 => ((storagebarterplay_Dice_Pick.f x1000 bt668.2 4).bind fun bt670 => ((storagebarterplay_Dice_Pick.f x1000 bt670.2 4).bind fun bt673 => (storagebarterlaw39_made.l1 k x4 x5 bt673.1 x1000 bt673.2 (wrap64 (1 + bt668.1)) (wrap64 (1 + bt670.1)) 0 ([] : List (S74)))))) else ((storagebarterplay_Dice_Pick.f x1000 x1001 8).bind fun bt687 => (storagebarterlaw39_made.l2 k x4 ([] : List (S72)) bt687.1 x1000 bt687.2))
def storagebarterlaw39_made.l1 : Nat → List (S29) → Int → Int → List Int → Int → Int → Int → Int → List (S74) → Option ((List (S29)) × (List (S72)) × Int)
  | 0, _, _, _, _, _, _, _, _, _ => none
  | k + 1, x4, x5, x7, x1000, x1001, x673000, x673001, x673002, x673004 => if x7 > 0 then ((storagebarterplay_Dice_Pick.f x1000 x1001 2).bind fun bt675 => ((storagebarterplay_Dice_Pick.f x1000 bt675.2 3).bind fun bt677 => ((storagebarterplay_Dice_Pick.f x1000 bt677.2 2).bind fun bt679 => (if x673004.length < 5864062014805 then (storagebarterlaw39_made.l1 k x4 x5 (wrap64 (x7 - 1)) x1000 bt679.2 x673000 x673001 x673002 (x673004 ++ [(⟨bt675.1, bt677.1, wrap64 (4 + bt679.1)⟩ : S74)])) else (none))))) else (if x4.length < 1954687338268 then (storagebarterlaw39_made.l0 k (x4 ++ [(⟨x673000, x673001, x673002, ([] : List (S48)), x673004⟩ : S29)]) (wrap64 (x5 - 1)) x1000 x1001) else (none))
def storagebarterlaw39_made.l2 : Nat → List (S29) → List (S72) → Int → List Int → Int → Option ((List (S29)) × (List (S72)) × Int)
  | 0, _, _, _, _, _ => none
  | k + 1, x4, x8, x9, x1000, x1001 => if x9 > 0 then ((storagebarterplay_Dice_Pick.f x1000 x1001 3).bind fun bt689 => ((storagebarterplay_Dice_Pick.f x1000 bt689.2 4).bind fun bt691 => ((storagebarterplay_Dice_Pick.f x1000 bt691.2 2).bind fun bt693 => ((storagebarterplay_Dice_Pick.f x1000 bt693.2 3).bind fun bt695 => ((storagebarterplay_Dice_Shard.f x1000 bt695.2).bind fun bt697 => (if x8.length < 2932031007402 then (storagebarterlaw39_made.l2 k x4 (x8 ++ [(⟨wrap64 (1 + bt689.1), wrap64 (1 + bt691.1), bt693.1, bt695.1, bt697.1⟩ : S72)]) (wrap64 (x9 - 1)) x1000 bt697.2) else (none))))))) else (some (x4, x8, x1001))
end
def storagebarterlaw39_made.f (k : Nat) (s0_0 : List Int) (s0_1 : Int) : Option ((List (S29)) × (List (S72)) × Int) := (storagebarterplay_Dice_Pick.f s0_0 s0_1 6).bind fun bt666 => (storagebarterlaw39_made.l0 k ([] : List (S29)) bt666.1 s0_0 bt666.2)
theorem storagebarterlaw39_made.mono_l : ∀ k, (∀ y0 y1 y2 y3, LeO (storagebarterlaw39_made.l0 k y0 y1 y2 y3) (storagebarterlaw39_made.l0 (k + 1) y0 y1 y2 y3)) ∧ (∀ y0 y1 y2 y3 y4 y5 y6 y7 y8, LeO (storagebarterlaw39_made.l1 k y0 y1 y2 y3 y4 y5 y6 y7 y8) (storagebarterlaw39_made.l1 (k + 1) y0 y1 y2 y3 y4 y5 y6 y7 y8)) ∧ (∀ y0 y1 y2 y3 y4, LeO (storagebarterlaw39_made.l2 k y0 y1 y2 y3 y4) (storagebarterlaw39_made.l2 (k + 1) y0 y1 y2 y3 y4))
  | 0 => ⟨fun _ _ _ _ r h => by simp [storagebarterlaw39_made.l0] at h, fun _ _ _ _ _ _ _ _ _ r h => by simp [storagebarterlaw39_made.l1] at h, fun _ _ _ _ _ r h => by simp [storagebarterlaw39_made.l2] at h⟩
  | k + 1 => by
    obtain ⟨ih0, ih1, ih2⟩ := storagebarterlaw39_made.mono_l k
    refine ⟨?_, ?_, ?_⟩
    · intro y0 y1 y2 y3
      unfold storagebarterlaw39_made.l0
      repeat' first
      | (with_reducible exact ih0 _ _ _ _)
      | (with_reducible exact ih1 _ _ _ _ _ _ _ _ _)
      | (with_reducible exact ih2 _ _ _ _ _)
      | (with_reducible exact LeO.refl _)
      | (with_reducible exact LeO.none _)
      | (with_reducible refine LeO.ite ?_ ?_)
      | (with_reducible refine LeO.bind ?_ (fun _ => ?_))
      | exact ih0 _ _ _ _
      | exact ih1 _ _ _ _ _ _ _ _ _
      | exact ih2 _ _ _ _ _
      | exact LeO.none _
      | refine LeO.ite ?_ ?_
      | refine LeO.bind ?_ (fun _ => ?_)
    · intro y0 y1 y2 y3 y4 y5 y6 y7 y8
      unfold storagebarterlaw39_made.l1
      repeat' first
      | (with_reducible exact ih0 _ _ _ _)
      | (with_reducible exact ih1 _ _ _ _ _ _ _ _ _)
      | (with_reducible exact ih2 _ _ _ _ _)
      | (with_reducible exact LeO.refl _)
      | (with_reducible exact LeO.none _)
      | (with_reducible refine LeO.ite ?_ ?_)
      | (with_reducible refine LeO.bind ?_ (fun _ => ?_))
      | exact ih0 _ _ _ _
      | exact ih1 _ _ _ _ _ _ _ _ _
      | exact ih2 _ _ _ _ _
      | exact LeO.none _
      | refine LeO.ite ?_ ?_
      | refine LeO.bind ?_ (fun _ => ?_)
    · intro y0 y1 y2 y3 y4
      unfold storagebarterlaw39_made.l2
      repeat' first
      | (with_reducible exact ih0 _ _ _ _)
      | (with_reducible exact ih1 _ _ _ _ _ _ _ _ _)
      | (with_reducible exact ih2 _ _ _ _ _)
      | (with_reducible exact LeO.refl _)
      | (with_reducible exact LeO.none _)
      | (with_reducible refine LeO.ite ?_ ?_)
      | (with_reducible refine LeO.bind ?_ (fun _ => ?_))
      | exact ih0 _ _ _ _
      | exact ih1 _ _ _ _ _ _ _ _ _
      | exact ih2 _ _ _ _ _
      | exact LeO.none _
      | refine LeO.ite ?_ ?_
      | refine LeO.bind ?_ (fun _ => ?_)
theorem storagebarterlaw39_made.mono : ∀ a0 a1 k, LeO (storagebarterlaw39_made.f k a0 a1) (storagebarterlaw39_made.f (k + 1) a0 a1) := by
  intro a0 a1 k
  obtain ⟨ih0, ih1, ih2⟩ := storagebarterlaw39_made.mono_l k
  unfold storagebarterlaw39_made.f
  repeat' first
      | (with_reducible exact ih0 _ _ _ _)
      | (with_reducible exact ih1 _ _ _ _ _ _ _ _ _)
      | (with_reducible exact ih2 _ _ _ _ _)
      | (with_reducible exact LeO.refl _)
      | (with_reducible exact LeO.none _)
      | (with_reducible refine LeO.ite ?_ ?_)
      | (with_reducible refine LeO.bind ?_ (fun _ => ?_))
      | exact ih0 _ _ _ _
      | exact ih1 _ _ _ _ _ _ _ _ _
      | exact ih2 _ _ _ _ _
      | exact LeO.none _
      | refine LeO.ite ?_ ?_
      | refine LeO.bind ?_ (fun _ => ?_)
def storagebarterlaw39_made.T9 : Bool × List (List Nat × List Nat) := (true, [([], []), ([0], [0]), ([], []), ([2], [2]), ([], []), ([4, 3], [4]), ([], []), ([6, 5], [6]), ([7], [7]), ([3, 5, 8], [3, 5, 8]), ([9], [9]), ([1, 10, 7], [1, 10]), ([0, 1, 2, 3, 4, 5, 6, 7, 8, 9, 10, 11], []), ([12, 11, 11, 0, 1, 2, 3, 4, 5, 6, 7, 8, 9, 10, 11], [11, 12])])
def storagebarterlaw39_made.B9 : List Nat := [0, 1, 0, 4, 0, 28, 0, 124, 252, 508, 1020, 2047, 4095, 8191]
theorem storagebarterlaw39_made.tab9 : rtab .any (opsOf Try.f24 9) = storagebarterlaw39_made.T9 := by kernel_rfl
theorem storagebarterlaw39_made.bits9 : waitsOk storagebarterlaw39_made.T9.2 storagebarterlaw39_made.B9 = true := by kernel_rfl
set_option maxHeartbeats 8000000 in
set_option maxRecDepth 100000 in
theorem storagebarterlaw39_made.calls (k : Nat) (g : Nat) (s0_0 : List Int) (s0_1 : Int) (r1 : List (S29)) (r2 : List (S72)) (r3 : Int) (w0 w : World) (hI : IsS86 w0 w g s0_0 s0_1) (hB : Below w0.heap.size w0 w) (h : storagebarterlaw39_made.f k s0_0 s0_1 = some (r1, r2, r3)) :
    Calls Try.prog 24 #[.pointer (some ⟨g, 0, none⟩)] w fun e w' => ∃ v0_ v1_ : Value, e = .returned (.tuple #[v0_, v1_]) ∧ Kd.R k29 29 w' w.heap.size (fun _ => True) v0_ r1 ∧ Kd.R k72 72 w' w.heap.size (fun _ => True) v1_ r2 ∧ IsS86 w0 w' g s0_0 r3 ∧ Below w0.heap.size w0 w' ∧ KeepBut w w' g none := by
  have hu29 := Try.underlying29
  have hu74 := Try.underlying74
  have hu72 := Try.underlying72
  have HI0 := Aside0.mk hI
  have HK := Aside0.mk (KeepBut.refl w g none)
  have HL := Aside0.mk hB.size
  clear hI
  have HW0 := Aside0.mk hB.size
  have HB := Aside0.mk hB
  clear hB
  have H : ((storagebarterplay_Dice_Pick.f s0_0 s0_1 6).bind fun bt666 => (storagebarterlaw39_made.l0 k ([] : List (S29)) bt666.1 s0_0 bt666.2)) = some (r1, r2, r3) := h
  clear h
  replace H := Option.bind_eq_some_iff.mp H
  obtain ⟨⟨t666, t667⟩, A20, H⟩ := H
  replace H : (storagebarterlaw39_made.l0 k ([] : List (S29)) t666 s0_0 t667) = some (r1, r2, r3) := H
  have A2 := Aside0.mk A20
  clear A20
  have H' := Aside0.mk H
  clear H
  go_enter Try.func24, Try.ntmps24
  go_wp2_with (first | ((with_reducible refine gate_callee (f := 14) rfl ?_); refine goesL_ (some 11) rfl rfl Try.func14 (by kernel_rfl) rfl #[.pointer (some ⟨g, 0, none⟩), .int .i64 6] rfl (by (try simp only [List.map_toArray, List.map_cons, List.map_nil]); first | done | rfl | (simp only [List.length_drop, List.length_take]; rfl)) ?_; (with_reducible refine (storagebarterplay_Dice_Pick.calls g s0_0 s0_1 6 t666 t667 w0 _ ?side1 ?side2 A2.out).mono ?_); (case side1 => repeat (first | (with_reducible first | exact HI0.out | apply IsS86.alloc | apply IsS86.drewN | apply IsS86.drew | apply IsS86.set_1) | exact HI0.out)); (case side2 => repeat (first | (with_reducible first | exact HB.out | apply below_alloc | apply pw_below_drewN | apply below_drew1 | refine below_set ?_ (IsS86.ge HI0.out)) | exact HB.out)); rintro e w3 ⟨rfl, hi, hb, hk⟩; refine ⟨_, rfl, ?_⟩; have n0_ := Aside0.mk (KeepBut.trans (by repeat (first | (with_reducible first | exact HK.out | apply KeepBut.set_ | apply keep_drewN | apply keep_drew | apply keep_alloc) | exact HK.out)) hk (.inl rfl)); have n1_ := Aside0.mk (hb); have n2_ := Aside0.mk (hi); clear HK; clear HB; clear HI0; have HK := n0_; have HB := n1_; have HI0 := n2_; clear n0_ n1_ n2_; (try clear hb); (try clear hb2); (try clear hk); (try clear hi)))
  go_loopg [4, 5] k (fun kq v4 v5 w' => ∃ (x4_1 : List (S29)) (x5_1 : Int) (x1001_1 : Int), v5 = .int .i64 x5_1 ∧ Aside0 (storagebarterlaw39_made.l0 kq x4_1 x5_1 s0_0 x1001_1 = some (r1, r2, r3)) ∧ Aside0 (kq ≤ k) ∧ Aside0 (Kd.R k29 29 w' w.heap.size (fun _ => True) v4 x4_1) ∧ Aside0 (IsS86 w0 w' g s0_0 x1001_1) ∧ Aside0 (KeepBut w w' g none) ∧ Aside0 (Below w0.heap.size w0 w'))
  case atStart => exact ⟨(([] : List (S29))), (t666), (t667), (by first | rfl | (simp; done) | (simp [*]; done)), H', ⟨Nat.le_refl _⟩, ⟨by first | exact Kd.R_nil _ _ _ _ _ | exact Kd.N_nil _ _ _ _ _ | exact Kd.V_nil _ _ _ _ _ | exact Kd.Q_nil _ _ _ _ _ | exact Kd.S_nil _ _ _ _ _⟩, ⟨by repeat (first | (with_reducible first | exact HI0.out | apply IsS86.alloc | apply IsS86.drewN | apply IsS86.drew | apply IsS86.set_1) | exact HI0.out)⟩, ⟨by repeat (first | (with_reducible first | exact HK.out | apply KeepBut.set_ | apply keep_drewN | apply keep_drew | apply keep_alloc) | exact HK.out)⟩, ⟨by repeat (first | (with_reducible first | exact HB.out | apply below_alloc | apply pw_below_drewN | apply below_drew1 | refine below_set ?_ (IsS86.ge HI0.out)) | exact HB.out)⟩⟩
  case round =>
    clear H'
    try clear c1
    try clear c2
    try clear p2
    obtain ⟨x4_1, x5_1, x1001_1, rfl, HA, HK1, HO_4, HI0, HK, HB⟩ := hrel
    cases gk with
    | zero => exact absurd HA.out (by simp [storagebarterlaw39_made.l0])
    | succ k1 =>
      have H := HA.out
      clear HA
      simp only [storagebarterlaw39_made.l0] at H
      by_cases c4 : x5_1 > 0
      · rw [if_pos c4] at H
        have c4b0 : decide (0 < x5_1) = true := decide_eq_true c4
        clear c4
        replace H := Option.bind_eq_some_iff.mp H
        obtain ⟨⟨t668, t669⟩, A50, H⟩ := H
        replace H : ((storagebarterplay_Dice_Pick.f s0_0 t669 4).bind fun bt670 => ((storagebarterplay_Dice_Pick.f s0_0 bt670.2 4).bind fun bt673 => (storagebarterlaw39_made.l1 k1 x4_1 x5_1 bt673.1 s0_0 bt673.2 (wrap64 (1 + t668)) (wrap64 (1 + bt670.1)) 0 ([] : List (S74))))) = some (r1, r2, r3) := H
        have A5 := Aside0.mk A50
        clear A50
        replace H := Option.bind_eq_some_iff.mp H
        obtain ⟨⟨t670, t671⟩, A60, H⟩ := H
        replace H : ((storagebarterplay_Dice_Pick.f s0_0 t671 4).bind fun bt673 => (storagebarterlaw39_made.l1 k1 x4_1 x5_1 bt673.1 s0_0 bt673.2 (wrap64 (1 + t668)) (wrap64 (1 + t670)) 0 ([] : List (S74)))) = some (r1, r2, r3) := H
        have A6 := Aside0.mk A60
        clear A60
        replace H := Option.bind_eq_some_iff.mp H
        obtain ⟨⟨t673, t674⟩, A70, H⟩ := H
        replace H : (storagebarterlaw39_made.l1 k1 x4_1 x5_1 t673 s0_0 t674 (wrap64 (1 + t668)) (wrap64 (1 + t670)) 0 ([] : List (S74))) = some (r1, r2, r3) := H
        have A7 := Aside0.mk A70
        clear A70
        have H' := Aside0.mk H
        clear H
        go_wp2_with (first | ((with_reducible refine gate_callee (f := 14) rfl ?_); refine goesL_ (some 17) rfl rfl Try.func14 (by kernel_rfl) rfl #[.pointer (some ⟨g, 0, none⟩), .int .i64 3] rfl (by (try simp only [List.map_toArray, List.map_cons, List.map_nil]); first | done | rfl | (simp only [List.length_drop, List.length_take]; rfl)) ?_; (with_reducible refine (storagebarterplay_Dice_Pick.calls g s0_0 x1001_1 3 t668 t669 w0 _ ?side1 ?side2 A5.out).mono ?_); (case side1 => repeat (first | (with_reducible first | exact HI0.out | apply IsS86.alloc | apply IsS86.drewN | apply IsS86.drew | apply IsS86.set_1) | exact HI0.out)); (case side2 => repeat (first | (with_reducible first | exact HB.out | apply below_alloc | apply pw_below_drewN | apply below_drew1 | refine below_set ?_ (IsS86.ge HI0.out)) | exact HB.out)); rintro e w8 ⟨rfl, hi, hb, hk⟩; refine ⟨_, rfl, ?_⟩; have n0_ := Aside0.mk (Kd.R_mono (Kd.R_keep (IsS86.apart (show IsS86 w0 _ g s0_0 x1001_1 from by repeat (first | (with_reducible first | exact HI0.out | apply IsS86.alloc | apply IsS86.drewN | apply IsS86.drew | apply IsS86.set_1) | exact HI0.out)) (by (with_reducible repeat (first | apply Kd.R_alloc | apply Kd.R_drewN | apply Kd.R_drew)); exact HO_4.out) (by decide)) hk (fun _ h => h.2)) (fun _ h => h.1)); have n1_ := Aside0.mk (KeepBut.trans (by repeat (first | (with_reducible first | exact HK.out | apply KeepBut.set_ | apply keep_drewN | apply keep_drew | apply keep_alloc) | exact HK.out)) hk (.inl rfl)); have n2_ := Aside0.mk (hb); have n3_ := Aside0.mk (hi); clear HO_4; clear HK; clear HB; clear HI0; have HO_4 := n0_; have HK := n1_; have HB := n2_; have HI0 := n3_; clear n0_ n1_ n2_ n3_; (try clear hb); (try clear hb2); (try clear hk); (try clear hi)) | ((with_reducible refine gate_callee (f := 14) rfl ?_); refine goesL_ (some 20) rfl rfl Try.func14 (by kernel_rfl) rfl #[.pointer (some ⟨g, 0, none⟩), .int .i64 4] rfl (by (try simp only [List.map_toArray, List.map_cons, List.map_nil]); first | done | rfl | (simp only [List.length_drop, List.length_take]; rfl)) ?_; (with_reducible refine (storagebarterplay_Dice_Pick.calls g s0_0 t669 4 t670 t671 w0 _ ?side1 ?side2 A6.out).mono ?_); (case side1 => repeat (first | (with_reducible first | exact HI0.out | apply IsS86.alloc | apply IsS86.drewN | apply IsS86.drew | apply IsS86.set_1) | exact HI0.out)); (case side2 => repeat (first | (with_reducible first | exact HB.out | apply below_alloc | apply pw_below_drewN | apply below_drew1 | refine below_set ?_ (IsS86.ge HI0.out)) | exact HB.out)); rintro e w9 ⟨rfl, hi, hb, hk⟩; refine ⟨_, rfl, ?_⟩; have n0_ := Aside0.mk (Kd.R_mono (Kd.R_keep (IsS86.apart (show IsS86 w0 _ g s0_0 t669 from by repeat (first | (with_reducible first | exact HI0.out | apply IsS86.alloc | apply IsS86.drewN | apply IsS86.drew | apply IsS86.set_1) | exact HI0.out)) (by (with_reducible repeat (first | apply Kd.R_alloc | apply Kd.R_drewN | apply Kd.R_drew)); exact HO_4.out) (by decide)) hk (fun _ h => h.2)) (fun _ h => h.1)); have n1_ := Aside0.mk (KeepBut.trans (by repeat (first | (with_reducible first | exact HK.out | apply KeepBut.set_ | apply keep_drewN | apply keep_drew | apply keep_alloc) | exact HK.out)) hk (.inl rfl)); have n2_ := Aside0.mk (hb); have n3_ := Aside0.mk (hi); clear HO_4; clear HK; clear HB; clear HI0; have HO_4 := n0_; have HK := n1_; have HB := n2_; have HI0 := n3_; clear n0_ n1_ n2_ n3_; (try clear hb); (try clear hb2); (try clear hk); (try clear hi)) | ((with_reducible refine gate_dst (N := 6) rfl ?_); refine box_event ?hg (N := 6) ?hd (cs := #[.int .i64 0, .int .i64 0, .int .i64 0, .slice none 0 0, .slice none 0 0]) (t := 29) ?hr ?_; (case hd => rfl); (case hg => rfl); (case hr => first | (go_simp; done) | (go_simp; rfl)); intro gb672 hg w10 hbox hb; have n0_ := Aside0.mk (Kd.R_below (Kd.R_elderB (by (with_reducible repeat (first | apply Kd.R_alloc | apply Kd.R_drewN | apply Kd.R_drew)); exact HO_4.out) gb672 (Nat.le_of_eq hg.symm)) hb); have n1_ := Aside0.mk (IsS86.below (by repeat (first | (with_reducible first | exact HI0.out | apply IsS86.alloc | apply IsS86.drewN | apply IsS86.drew | apply IsS86.set_1) | exact HI0.out)) hb); have n2_ := Aside0.mk (KeepBut.trans (by repeat (first | (with_reducible first | exact HK.out | apply KeepBut.set_ | apply keep_drewN | apply keep_drew | apply keep_alloc) | exact HK.out)) (KeepBut.of_below hb g none) (.inl rfl)); have n3_ := Aside0.mk (below_step (by repeat (first | (with_reducible first | exact HB.out | apply below_alloc | apply pw_below_drewN | apply below_drew1 | refine below_set ?_ (IsS86.ge HI0.out)) | exact HB.out)) hb); have n4_ := Aside0.mk (hbox); have n5_ := Aside0.mk ((by rw [hg]; exact (keep_size (w := w) (g := g) (row := none) (by repeat (first | (with_reducible first | exact HK.out | apply KeepBut.set_ | apply keep_drewN | apply keep_drew | apply keep_alloc) | exact HK.out))) : w.heap.size ≤ gb672)); have n6_ := Aside0.mk ((Nat.le_trans HW0.out (by rw [hg]; exact (keep_size (w := w) (g := g) (row := none) (by repeat (first | (with_reducible first | exact HK.out | apply KeepBut.set_ | apply keep_drewN | apply keep_drew | apply keep_alloc) | exact HK.out))) : w.heap.size ≤ gb672) : w0.heap.size ≤ gb672)); have n7_ := Aside0.mk ((by rw [hg]; exact Nat.ne_of_lt (IsS86.lt (show IsS86 w0 _ g s0_0 t671 from by repeat (first | (with_reducible first | exact HI0.out | apply IsS86.alloc | apply IsS86.drewN | apply IsS86.drew | apply IsS86.set_1) | exact HI0.out))) : g ≠ gb672)); have n8_ := Aside0.mk ((by rw [hg]; exact Nat.ne_of_gt (IsS86.lt (show IsS86 w0 _ g s0_0 t671 from by repeat (first | (with_reducible first | exact HI0.out | apply IsS86.alloc | apply IsS86.drewN | apply IsS86.drew | apply IsS86.set_1) | exact HI0.out))) : gb672 ≠ g)); clear HO_4; clear HI0; clear HK; clear HB; have HO_4 := n0_; have HI0 := n1_; have HK := n2_; have HB := n3_; have BK672 := n4_; have GW672 := n5_; have GE672 := n6_; have NB0_672 := n7_; have NB672_0 := n8_; clear n0_ n1_ n2_ n3_ n4_ n5_ n6_ n7_ n8_; clear hb hbox hg; have hnb11 := NB672_0.out; have hnc11 := NB0_672.out; have hcz12_0 : w10.cell? ⟨gb672, 0, none⟩ = some (.int .i64 0) := (blk_cell BK672.out 0).trans rfl; have hcz12_1 : w10.cell? ⟨gb672, 1, none⟩ = some (.int .i64 0) := (blk_cell BK672.out 1).trans rfl; have hcz12_2 : w10.cell? ⟨gb672, 2, none⟩ = some (.int .i64 0) := (blk_cell BK672.out 2).trans rfl; have hcz12_3 : w10.cell? ⟨gb672, 3, none⟩ = some (.slice none 0 0) := (blk_cell BK672.out 3).trans rfl; have hcz12_4 : w10.cell? ⟨gb672, 4, none⟩ = some (.slice none 0 0) := (blk_cell BK672.out 4).trans rfl; have hfz12_0 := blk_frozen BK672.out 0; have hfz12_1 := blk_frozen BK672.out 1; have hfz12_2 := blk_frozen BK672.out 2; have hfz12_3 := blk_frozen BK672.out 3; have hfz12_4 := blk_frozen BK672.out 4) | ((with_reducible refine gate_callee (f := 14) rfl ?_); refine goesL_ (some 24) rfl rfl Try.func14 (by kernel_rfl) rfl #[.pointer (some ⟨g, 0, none⟩), .int .i64 4] rfl (by (try simp only [List.map_toArray, List.map_cons, List.map_nil]); first | done | rfl | (simp only [List.length_drop, List.length_take]; rfl)) ?_; (with_reducible refine (storagebarterplay_Dice_Pick.calls g s0_0 t671 4 t673 t674 w0 _ ?side1 ?side2 A7.out).mono ?_); (case side1 => repeat (first | (with_reducible first | exact HI0.out | apply IsS86.alloc | apply IsS86.drewN | apply IsS86.drew | apply IsS86.set_1 | refine IsS86.far ?_ NB0_672.out _) | exact HI0.out)); (case side2 => repeat (first | (with_reducible first | exact HB.out | apply below_alloc | apply pw_below_drewN | apply below_drew1 | refine below_set ?_ (IsS86.ge HI0.out) | refine below_set ?_ GE672.out) | exact HB.out)); rintro e w13 ⟨rfl, hi, hb, hk⟩; refine ⟨_, rfl, ?_⟩; have n0_ := Aside0.mk (Kd.R_mono (Kd.R_keep (IsS86.apart (show IsS86 w0 _ g s0_0 t671 from by repeat (first | (with_reducible first | exact HI0.out | apply IsS86.alloc | apply IsS86.drewN | apply IsS86.drew | apply IsS86.set_1 | refine IsS86.far ?_ NB0_672.out _) | exact HI0.out)) (by (with_reducible repeat (first | apply Kd.R_alloc | apply Kd.R_drewN | apply Kd.R_drew)); exact (Kd.R_mono (Kd.R_far (p := ⟨gb672, 4, none⟩) (Kd.R_far (p := ⟨gb672, 3, none⟩) (Kd.R_far (p := ⟨gb672, 2, none⟩) (Kd.R_far (p := ⟨gb672, 1, none⟩) (Kd.R_far (p := ⟨gb672, 0, none⟩) (Kd.R_mono HO_4.out (fun k_ hk => (⟨hk, hk.2⟩ : _ ∧ k_ ≠ gb672))) (fun _ hk => hk.2) (.int .i64 (wrap64 (1 + t668)))) (fun _ hk => hk.2) (.int .i64 (wrap64 (1 + t670)))) (fun _ hk => hk.2) (.int .i64 0)) (fun _ hk => hk.2) (.slice none 0 0)) (fun _ hk => hk.2) (.slice none 0 0)) (fun _ h_ => h_.1))) (by decide)) hk (fun _ h => h.2)) (fun _ h => h.1)); have n1_ := Aside0.mk (KeepBut.blk hk (g' := gb672) (o := .cells #[.int .i64 (wrap64 (1 + t668)), .int .i64 (wrap64 (1 + t670)), .int .i64 0, .slice none 0 0, .slice none 0 0] 29 (0, 0)) (by (with_reducible repeat (first | refine blk_drewN ?_ _ | refine blk_drew ?_ | refine blk_alloc ?_ _)); refine blk_put (cs := #[.int .i64 (wrap64 (1 + t668)), .int .i64 (wrap64 (1 + t670)), .int .i64 0, .slice none 0 0, .slice none 0 0]) ?_ 4 _ rfl; (with_reducible repeat (first | refine blk_drewN ?_ _ | refine blk_drew ?_ | refine blk_alloc ?_ _)); refine blk_put (cs := #[.int .i64 (wrap64 (1 + t668)), .int .i64 (wrap64 (1 + t670)), .int .i64 0, .slice none 0 0, .slice none 0 0]) ?_ 3 _ rfl; (with_reducible repeat (first | refine blk_drewN ?_ _ | refine blk_drew ?_ | refine blk_alloc ?_ _)); refine blk_put (cs := #[.int .i64 (wrap64 (1 + t668)), .int .i64 (wrap64 (1 + t670)), .int .i64 0, .slice none 0 0, .slice none 0 0]) ?_ 2 _ rfl; (with_reducible repeat (first | refine blk_drewN ?_ _ | refine blk_drew ?_ | refine blk_alloc ?_ _)); refine blk_put (cs := #[.int .i64 (wrap64 (1 + t668)), .int .i64 0, .int .i64 0, .slice none 0 0, .slice none 0 0]) ?_ 1 _ rfl; (with_reducible repeat (first | refine blk_drewN ?_ _ | refine blk_drew ?_ | refine blk_alloc ?_ _)); refine blk_put (cs := #[.int .i64 0, .int .i64 0, .int .i64 0, .slice none 0 0, .slice none 0 0]) ?_ 0 _ rfl; (with_reducible repeat (first | refine blk_drewN ?_ _ | refine blk_drew ?_ | refine blk_alloc ?_ _)); exact BK672.out) NB672_0.out (by simp)); have n2_ := Aside0.mk (KeepBut.trans (by repeat (first | (with_reducible first | exact HK.out | apply KeepBut.set_ | apply keep_drewN | apply keep_drew | apply keep_alloc | refine keep_far ?_ GW672.out _) | exact HK.out)) hk (.inl rfl)); have n3_ := Aside0.mk (hb); have n4_ := Aside0.mk (hi); clear HO_4; clear BK672; clear HK; clear HB; clear HI0; have HO_4 := n0_; have BK672 := n1_; have HK := n2_; have HB := n3_; have HI0 := n4_; clear n0_ n1_ n2_ n3_ n4_; (try clear hb); (try clear hb2); (try clear hk); (try clear hi)))
        go_loopg [7] k1 (fun kq v7 w' => ∃ (x7_2 : Int) (x1001_2 : Int) (x673004_2 : List (S74)) (u673004 : Value), v7 = .int .i64 x7_2 ∧ Aside0 (storagebarterlaw39_made.l1 kq x4_1 x5_1 x7_2 s0_0 x1001_2 (wrap64 (1 + t668)) (wrap64 (1 + t670)) 0 x673004_2 = some (r1, r2, r3)) ∧ Aside0 (kq ≤ k1) ∧ Aside0 (Kd.R k29 29 w' w.heap.size (fun k_ => some k_ ≠ (u673004 : Value).ownBlock ∧ k_ ≠ gb672) u4 x4_1) ∧ Aside0 (Kd.R k74 74 w' w.heap.size (fun _ => True) u673004 x673004_2) ∧ Aside0 (w'.heap[gb672]? = some (.cells #[.int .i64 (wrap64 (1 + t668)), .int .i64 (wrap64 (1 + t670)), .int .i64 0, (.slice none 0 0), u673004] 29 (0, 0))) ∧ Aside0 (IsS86 w0 w' g s0_0 x1001_2) ∧ Aside0 (KeepBut w w' g none) ∧ Aside0 (Below w0.heap.size w0 w'))
        case atStart => exact ⟨(t673), (t674), (([] : List (S74))), (.slice none 0 0), (by first | rfl | (simp; done) | (simp [*]; done)), H', ⟨Nat.le_refl _⟩, ⟨by (with_reducible repeat (first | apply Kd.R_alloc | apply Kd.R_drewN | apply Kd.R_drew)); exact Kd.R_mono HO_4.out (fun _ hk => ⟨(by simp [Value.ownBlock]), hk.2⟩)⟩, ⟨by first | exact Kd.R_nil _ _ _ _ _ | exact Kd.N_nil _ _ _ _ _ | exact Kd.V_nil _ _ _ _ _ | exact Kd.Q_nil _ _ _ _ _ | exact Kd.S_nil _ _ _ _ _⟩, ⟨by (with_reducible repeat (first | refine blk_drewN ?_ _ | refine blk_drew ?_ | refine blk_alloc ?_ _)); exact BK672.out⟩, ⟨by repeat (first | (with_reducible first | exact HI0.out | apply IsS86.alloc | apply IsS86.drewN | apply IsS86.drew | apply IsS86.set_1 | refine IsS86.far ?_ NB0_672.out _) | exact HI0.out)⟩, ⟨by repeat (first | (with_reducible first | exact HK.out | apply KeepBut.set_ | apply keep_drewN | apply keep_drew | apply keep_alloc | refine keep_far ?_ GW672.out _) | exact HK.out)⟩, ⟨by repeat (first | (with_reducible first | exact HB.out | apply below_alloc | apply pw_below_drewN | apply below_drew1 | refine below_set ?_ (IsS86.ge HI0.out) | refine below_set ?_ GE672.out) | exact HB.out)⟩⟩
        case round =>
          clear H'
          try clear c1
          try clear c2
          try clear p2
          try clear c4
          try clear c4b0
          try clear p6
          try clear c11
          try clear hcz12_0
          try clear hcz12_1
          try clear hcz12_2
          try clear hcz12_3
          try clear hcz12_4
          try clear hfz12_0
          try clear hfz12_1
          try clear hfz12_2
          try clear hfz12_3
          try clear hfz12_4
          try clear p2
          obtain ⟨x7_2, x1001_2, x673004_2, u673004, rfl, HA, HK2, HO_4, HO_673004, BK672, HI0, HK, HB⟩ := hrel
          cases gk with
          | zero => exact absurd HA.out (by simp [storagebarterlaw39_made.l1])
          | succ k2 =>
            have H := HA.out
            clear HA
            simp only [storagebarterlaw39_made.l1] at H
            by_cases c14 : x7_2 > 0
            · rw [if_pos c14] at H
              have c14b0 : decide (0 < x7_2) = true := decide_eq_true c14
              clear c14
              replace H := Option.bind_eq_some_iff.mp H
              obtain ⟨⟨t675, t676⟩, A150, H⟩ := H
              replace H : ((storagebarterplay_Dice_Pick.f s0_0 t676 3).bind fun bt677 => ((storagebarterplay_Dice_Pick.f s0_0 bt677.2 2).bind fun bt679 => (if x673004_2.length < 5864062014805 then (storagebarterlaw39_made.l1 k2 x4_1 x5_1 (wrap64 (x7_2 - 1)) s0_0 bt679.2 (wrap64 (1 + t668)) (wrap64 (1 + t670)) 0 (x673004_2 ++ [(⟨t675, bt677.1, wrap64 (4 + bt679.1)⟩ : S74)])) else (none)))) = some (r1, r2, r3) := H
              have A15 := Aside0.mk A150
              clear A150
              replace H := Option.bind_eq_some_iff.mp H
              obtain ⟨⟨t677, t678⟩, A160, H⟩ := H
              replace H : ((storagebarterplay_Dice_Pick.f s0_0 t678 2).bind fun bt679 => (if x673004_2.length < 5864062014805 then (storagebarterlaw39_made.l1 k2 x4_1 x5_1 (wrap64 (x7_2 - 1)) s0_0 bt679.2 (wrap64 (1 + t668)) (wrap64 (1 + t670)) 0 (x673004_2 ++ [(⟨t675, t677, wrap64 (4 + bt679.1)⟩ : S74)])) else (none))) = some (r1, r2, r3) := H
              have A16 := Aside0.mk A160
              clear A160
              replace H := Option.bind_eq_some_iff.mp H
              obtain ⟨⟨t679, t680⟩, A170, H⟩ := H
              replace H : (if x673004_2.length < 5864062014805 then (storagebarterlaw39_made.l1 k2 x4_1 x5_1 (wrap64 (x7_2 - 1)) s0_0 t680 (wrap64 (1 + t668)) (wrap64 (1 + t670)) 0 (x673004_2 ++ [(⟨t675, t677, wrap64 (4 + t679)⟩ : S74)])) else (none)) = some (r1, r2, r3) := H
              have A17 := Aside0.mk A170
              clear A170
              by_cases c18 : x673004_2.length < 5864062014805
              · rw [if_pos c18] at H
                have LMc18 := Aside0.mk c18
                clear c18
                obtain ⟨y681, hy681⟩ : ∃ y_ : List (S74), y_ = (x673004_2 ++ [(⟨t675, t677, wrap64 (4 + t679)⟩ : S74)]) := ⟨_, rfl⟩
                replace H : (storagebarterlaw39_made.l1 k2 x4_1 x5_1 (wrap64 (x7_2 - 1)) s0_0 t680 (wrap64 (1 + t668)) (wrap64 (1 + t670)) 0 y681) = some (r1, r2, r3) := by first | (rw [hy681]; with_reducible exact H) | (have H2_ := (Option.bind_some _ _).symm.trans H; rw [hy681]; with_reducible exact H2_) | (have H2_ := (Option.bind_some _ _).symm.trans H; with_reducible exact H2_) | with_reducible exact H | (rw [hy681]; exact H) | exact H
                have Ny681 := Aside0.mk hy681
                clear hy681
                have H' := Aside0.mk H
                clear H
                try go_wp2
                have n0_ := Aside0.mk (Kd.R_drew HO_4.out)
                have n1_ := Aside0.mk (Kd.R_drew HO_673004.out)
                have n2_ := Aside0.mk (blk_drew BK672.out)
                have n3_ := Aside0.mk (IsS86.drew HI0.out)
                have n4_ := Aside0.mk (keep_drew HK.out)
                have n5_ := Aside0.mk (below_drew1 HB.out)
                clear HO_4
                clear HO_673004
                clear BK672
                clear HI0
                clear HK
                clear HB
                have HO_4 := n0_
                have HO_673004 := n1_
                have BK672 := n2_
                have HI0 := n3_
                have HK := n4_
                have HB := n5_
                clear n0_ n1_ n2_ n3_ n4_ n5_
                refine start_ (n := 14) (S := fun w' => w'.cell? ⟨gb672, 0, none⟩ = some (.int .i64 (wrap64 (1 + t668))) ∧ w'.cell? ⟨gb672, 1, none⟩ = some (.int .i64 (wrap64 (1 + t670))) ∧ w'.cell? ⟨gb672, 2, none⟩ = some (.int .i64 0) ∧ w'.cell? ⟨gb672, 3, none⟩ = some (.slice none 0 0) ∧ w'.cell? ⟨gb672, 4, none⟩ = some (u673004)) (ds := [13]) #[false, false, false, false, false, false, false, false, false, false, false, false, false, false] (by kernel_rfl) rfl rfl ⟨(blk_cell BK672.out 0).trans rfl, (blk_cell BK672.out 1).trans rfl, (blk_cell BK672.out 2).trans rfl, (blk_cell BK672.out 3).trans rfl, (blk_cell BK672.out 4).trans rfl⟩ (fun hHeld => ?_); refine with_tabW storagebarterlaw39_made.tab9 storagebarterlaw39_made.bits9 (fun HT_ HW_ => ?_)
                generalize wr.drew = w19 at HO_4 HO_673004 BK672 HI0 HK HB hHeld ⊢
                refine pure_ (i := 0) (N := some 29) (v := ?_) (a' := ?_) #[true, false, false, false, false, false, false, false, false, false, false, false, false, false] rfl rfl (any_of HT_.out (by kernel_rfl)) (fun _ _ _ h => h) (Or.inl ⟨by rfl, ?_⟩) ?_ ?_
                rotate_left
                · intro w'
                  go_simp
                  with_reducible rfl
                rotate_left
                · simp only [Act.put, List.setIfInBounds_toArray, List.set_cons_zero, List.set_cons_succ, i64_w, i32_w]
                  rfl
                refine pure_ (i := 2) (N := some 31) (v := ?_) (a' := ?_) #[true, false, true, false, false, false, false, false, false, false, false, false, false, false] rfl rfl (any_of HT_.out (by kernel_rfl)) (fun _ _ _ h => h) (Or.inl ⟨by rfl, ?_⟩) ?_ ?_
                rotate_left
                · intro w'
                  go_simp
                  with_reducible rfl
                rotate_left
                · simp only [Act.put, List.setIfInBounds_toArray, List.set_cons_zero, List.set_cons_succ, i64_w, i32_w]
                  rfl
                refine pure_ (i := 4) (N := some 33) (v := ?_) (a' := ?_) #[true, false, true, false, true, false, false, false, false, false, false, false, false, false] rfl rfl (any_of HT_.out (by kernel_rfl)) (fun _ _ _ h => h) (Or.inl ⟨by rfl, ?_⟩) ?_ ?_
                rotate_left
                · intro w'
                  go_simp
                  with_reducible rfl
                rotate_left
                · simp only [Act.put, List.setIfInBounds_toArray, List.set_cons_zero, List.set_cons_succ, i64_w, i32_w]
                  rfl
                refine pure_ (i := 6) (N := some 35) (v := ?_) (a' := ?_) #[true, false, true, false, true, false, true, false, false, false, false, false, false, false] rfl rfl (any_of HT_.out (by kernel_rfl)) (fun _ _ _ h => h) (Or.inl ⟨by rfl, ?_⟩) ?_ ?_
                rotate_left
                · intro w'
                  go_simp
                  with_reducible rfl
                rotate_left
                · simp only [Act.put, List.setIfInBounds_toArray, List.set_cons_zero, List.set_cons_succ, i64_w, i32_w]
                  rfl
                refine take_ (i := 1) (N := some 30) (v := ?_) (a' := ?_) #[true, true, true, false, true, false, true, false, false, false, false, false, false, false] rfl rfl (take_ofW HT_.out HW_.out (by kernel_rfl)) (fun _ _ _ h => h) (Or.inl ⟨by rfl, ?_⟩) hHeld ?_ ?_
                rotate_left
                · rintro w' ⟨s0, s1, s2, s3, s4⟩
                  go_simp
                  with_reducible rfl
                rotate_left
                · simp only [Act.put, List.setIfInBounds_toArray, List.set_cons_zero, List.set_cons_succ, i64_w, i32_w]
                  rfl
                refine one_ (i := 3) (N := some 32) #[true, true, true, true, true, false, true, false, false, false, false, false, false, false] rfl rfl (one_of HT_.out (by kernel_rfl)) (by decide) (fun K hK => ?_)
                refine goes_ Try.func14 (by kernel_rfl) rfl #[.pointer (some ⟨g, 0, none⟩), .int .i64 2] (by rfl) rfl rfl (by (try simp only [List.map_toArray, List.map_cons, List.map_nil]); first | done | rfl | (simp only [List.length_drop, List.length_take]; rfl)) ?_
                with_reducible refine (storagebarterplay_Dice_Pick.calls g s0_0 x1001_2 2 t675 t676 w0 _ ?side1 ?side2 A15.out).mono ?_
                (case side1 => repeat (first | (with_reducible first | exact HI0.out | apply IsS86.alloc | apply IsS86.drewN | apply IsS86.drew | apply IsS86.set_1 | refine IsS86.far ?_ NB0_672.out _) | exact HI0.out))
                (case side2 => repeat (first | (with_reducible first | exact HB.out | apply below_alloc | apply pw_below_drewN | apply below_drew1 | refine below_set ?_ (IsS86.ge HI0.out) | refine below_set ?_ GE672.out) | exact HB.out))
                rintro e w20 ⟨rfl, hi, hb, hk⟩
                refine ⟨_, rfl, ?_⟩
                have n0_ := Aside0.mk (Kd.R_mono (Kd.R_keep (IsS86.apart (show IsS86 w0 _ g s0_0 x1001_2 from by repeat (first | (with_reducible first | exact HI0.out | apply IsS86.alloc | apply IsS86.drewN | apply IsS86.drew | apply IsS86.set_1 | refine IsS86.far ?_ NB0_672.out _) | exact HI0.out)) (by (with_reducible repeat (first | apply Kd.R_alloc | apply Kd.R_drewN | apply Kd.R_drew)); exact HO_4.out) (by decide)) hk (fun _ h => h.2)) (fun _ h => h.1))
                have n1_ := Aside0.mk (Kd.R_mono (Kd.R_keep (IsS86.apart (show IsS86 w0 _ g s0_0 x1001_2 from by repeat (first | (with_reducible first | exact HI0.out | apply IsS86.alloc | apply IsS86.drewN | apply IsS86.drew | apply IsS86.set_1 | refine IsS86.far ?_ NB0_672.out _) | exact HI0.out)) (by (with_reducible repeat (first | apply Kd.R_alloc | apply Kd.R_drewN | apply Kd.R_drew)); exact HO_673004.out) (by decide)) hk (fun _ h => h.2)) (fun _ h => h.1))
                have n2_ := Aside0.mk (KeepBut.blk hk (g' := gb672) (o := .cells #[.int .i64 (wrap64 (1 + t668)), .int .i64 (wrap64 (1 + t670)), .int .i64 0, .slice none 0 0, u673004] 29 (0, 0)) (by (with_reducible repeat (first | refine blk_drewN ?_ _ | refine blk_drew ?_ | refine blk_alloc ?_ _)); exact BK672.out) NB672_0.out (by simp))
                have n3_ := Aside0.mk (KeepBut.trans (by repeat (first | (with_reducible first | exact HK.out | apply KeepBut.set_ | apply keep_drewN | apply keep_drew | apply keep_alloc | refine keep_far ?_ GW672.out _) | exact HK.out)) hk (.inl rfl))
                have n4_ := Aside0.mk (hb)
                have n5_ := Aside0.mk (hi)
                clear HO_4
                clear HO_673004
                clear BK672
                clear HK
                clear HB
                clear HI0
                have HO_4 := n0_
                have HO_673004 := n1_
                have BK672 := n2_
                have HK := n3_
                have HB := n4_
                have HI0 := n5_
                clear n0_ n1_ n2_ n3_ n4_ n5_
                (try clear hb)
                (try clear hb2)
                (try clear hk)
                (try clear hi)
                refine hK.out _ _ ⟨(blk_cell BK672.out 0).trans rfl, (blk_cell BK672.out 1).trans rfl, (blk_cell BK672.out 2).trans rfl, (blk_cell BK672.out 3).trans rfl, (blk_cell BK672.out 4).trans rfl⟩ (fun hHeld => ?_)
                clear hK K
                refine norm_ (a' := ?_) ?_ ?_
                rotate_left
                · show Act.put _ (some 32) _ = _
                  simp only [Act.put, List.setIfInBounds_toArray, List.set_cons_zero, List.set_cons_succ, i64_w, i32_w]
                  rfl
                refine one_ (i := 5) (N := some 34) #[true, true, true, true, true, true, true, false, false, false, false, false, false, false] rfl rfl (one_of HT_.out (by kernel_rfl)) (by decide) (fun K hK => ?_)
                refine goes_ Try.func14 (by kernel_rfl) rfl #[.pointer (some ⟨g, 0, none⟩), .int .i64 3] (by rfl) rfl rfl (by (try simp only [List.map_toArray, List.map_cons, List.map_nil]); first | done | rfl | (simp only [List.length_drop, List.length_take]; rfl)) ?_
                with_reducible refine (storagebarterplay_Dice_Pick.calls g s0_0 t676 3 t677 t678 w0 _ ?side1 ?side2 A16.out).mono ?_
                (case side1 => repeat (first | (with_reducible first | exact HI0.out | apply IsS86.alloc | apply IsS86.drewN | apply IsS86.drew | apply IsS86.set_1 | refine IsS86.far ?_ NB0_672.out _) | exact HI0.out))
                (case side2 => repeat (first | (with_reducible first | exact HB.out | apply below_alloc | apply pw_below_drewN | apply below_drew1 | refine below_set ?_ (IsS86.ge HI0.out) | refine below_set ?_ GE672.out) | exact HB.out))
                rintro e w21 ⟨rfl, hi, hb, hk⟩
                refine ⟨_, rfl, ?_⟩
                have n0_ := Aside0.mk (Kd.R_mono (Kd.R_keep (IsS86.apart (show IsS86 w0 _ g s0_0 t676 from by repeat (first | (with_reducible first | exact HI0.out | apply IsS86.alloc | apply IsS86.drewN | apply IsS86.drew | apply IsS86.set_1 | refine IsS86.far ?_ NB0_672.out _) | exact HI0.out)) (by (with_reducible repeat (first | apply Kd.R_alloc | apply Kd.R_drewN | apply Kd.R_drew)); exact HO_4.out) (by decide)) hk (fun _ h => h.2)) (fun _ h => h.1))
                have n1_ := Aside0.mk (Kd.R_mono (Kd.R_keep (IsS86.apart (show IsS86 w0 _ g s0_0 t676 from by repeat (first | (with_reducible first | exact HI0.out | apply IsS86.alloc | apply IsS86.drewN | apply IsS86.drew | apply IsS86.set_1 | refine IsS86.far ?_ NB0_672.out _) | exact HI0.out)) (by (with_reducible repeat (first | apply Kd.R_alloc | apply Kd.R_drewN | apply Kd.R_drew)); exact HO_673004.out) (by decide)) hk (fun _ h => h.2)) (fun _ h => h.1))
                have n2_ := Aside0.mk (KeepBut.blk hk (g' := gb672) (o := .cells #[.int .i64 (wrap64 (1 + t668)), .int .i64 (wrap64 (1 + t670)), .int .i64 0, .slice none 0 0, u673004] 29 (0, 0)) (by (with_reducible repeat (first | refine blk_drewN ?_ _ | refine blk_drew ?_ | refine blk_alloc ?_ _)); exact BK672.out) NB672_0.out (by simp))
                have n3_ := Aside0.mk (KeepBut.trans (by repeat (first | (with_reducible first | exact HK.out | apply KeepBut.set_ | apply keep_drewN | apply keep_drew | apply keep_alloc | refine keep_far ?_ GW672.out _) | exact HK.out)) hk (.inl rfl))
                have n4_ := Aside0.mk (hb)
                have n5_ := Aside0.mk (hi)
                clear HO_4
                clear HO_673004
                clear BK672
                clear HK
                clear HB
                clear HI0
                have HO_4 := n0_
                have HO_673004 := n1_
                have BK672 := n2_
                have HK := n3_
                have HB := n4_
                have HI0 := n5_
                clear n0_ n1_ n2_ n3_ n4_ n5_
                (try clear hb)
                (try clear hb2)
                (try clear hk)
                (try clear hi)
                refine hK.out _ _ ⟨(blk_cell BK672.out 0).trans rfl, (blk_cell BK672.out 1).trans rfl, (blk_cell BK672.out 2).trans rfl, (blk_cell BK672.out 3).trans rfl, (blk_cell BK672.out 4).trans rfl⟩ (fun hHeld => ?_)
                clear hK K
                refine norm_ (a' := ?_) ?_ ?_
                rotate_left
                · show Act.put _ (some 34) _ = _
                  simp only [Act.put, List.setIfInBounds_toArray, List.set_cons_zero, List.set_cons_succ, i64_w, i32_w]
                  rfl
                refine one_ (i := 7) (N := some 36) #[true, true, true, true, true, true, true, true, false, false, false, false, false, false] rfl rfl (one_of HT_.out (by kernel_rfl)) (by decide) (fun K hK => ?_)
                refine goes_ Try.func14 (by kernel_rfl) rfl #[.pointer (some ⟨g, 0, none⟩), .int .i64 2] (by rfl) rfl rfl (by (try simp only [List.map_toArray, List.map_cons, List.map_nil]); first | done | rfl | (simp only [List.length_drop, List.length_take]; rfl)) ?_
                with_reducible refine (storagebarterplay_Dice_Pick.calls g s0_0 t678 2 t679 t680 w0 _ ?side1 ?side2 A17.out).mono ?_
                (case side1 => repeat (first | (with_reducible first | exact HI0.out | apply IsS86.alloc | apply IsS86.drewN | apply IsS86.drew | apply IsS86.set_1 | refine IsS86.far ?_ NB0_672.out _) | exact HI0.out))
                (case side2 => repeat (first | (with_reducible first | exact HB.out | apply below_alloc | apply pw_below_drewN | apply below_drew1 | refine below_set ?_ (IsS86.ge HI0.out) | refine below_set ?_ GE672.out) | exact HB.out))
                rintro e w22 ⟨rfl, hi, hb, hk⟩
                refine ⟨_, rfl, ?_⟩
                have n0_ := Aside0.mk (Kd.R_mono (Kd.R_keep (IsS86.apart (show IsS86 w0 _ g s0_0 t678 from by repeat (first | (with_reducible first | exact HI0.out | apply IsS86.alloc | apply IsS86.drewN | apply IsS86.drew | apply IsS86.set_1 | refine IsS86.far ?_ NB0_672.out _) | exact HI0.out)) (by (with_reducible repeat (first | apply Kd.R_alloc | apply Kd.R_drewN | apply Kd.R_drew)); exact HO_4.out) (by decide)) hk (fun _ h => h.2)) (fun _ h => h.1))
                have n1_ := Aside0.mk (Kd.R_mono (Kd.R_keep (IsS86.apart (show IsS86 w0 _ g s0_0 t678 from by repeat (first | (with_reducible first | exact HI0.out | apply IsS86.alloc | apply IsS86.drewN | apply IsS86.drew | apply IsS86.set_1 | refine IsS86.far ?_ NB0_672.out _) | exact HI0.out)) (by (with_reducible repeat (first | apply Kd.R_alloc | apply Kd.R_drewN | apply Kd.R_drew)); exact HO_673004.out) (by decide)) hk (fun _ h => h.2)) (fun _ h => h.1))
                have n2_ := Aside0.mk (KeepBut.blk hk (g' := gb672) (o := .cells #[.int .i64 (wrap64 (1 + t668)), .int .i64 (wrap64 (1 + t670)), .int .i64 0, .slice none 0 0, u673004] 29 (0, 0)) (by (with_reducible repeat (first | refine blk_drewN ?_ _ | refine blk_drew ?_ | refine blk_alloc ?_ _)); exact BK672.out) NB672_0.out (by simp))
                have n3_ := Aside0.mk (KeepBut.trans (by repeat (first | (with_reducible first | exact HK.out | apply KeepBut.set_ | apply keep_drewN | apply keep_drew | apply keep_alloc | refine keep_far ?_ GW672.out _) | exact HK.out)) hk (.inl rfl))
                have n4_ := Aside0.mk (hb)
                have n5_ := Aside0.mk (hi)
                clear HO_4
                clear HO_673004
                clear BK672
                clear HK
                clear HB
                clear HI0
                have HO_4 := n0_
                have HO_673004 := n1_
                have BK672 := n2_
                have HK := n3_
                have HB := n4_
                have HI0 := n5_
                clear n0_ n1_ n2_ n3_ n4_ n5_
                (try clear hb)
                (try clear hb2)
                (try clear hk)
                (try clear hi)
                refine hK.out _ _ ⟨(blk_cell BK672.out 0).trans rfl, (blk_cell BK672.out 1).trans rfl, (blk_cell BK672.out 2).trans rfl, (blk_cell BK672.out 3).trans rfl, (blk_cell BK672.out 4).trans rfl⟩ (fun hHeld => ?_)
                clear hK K
                refine norm_ (a' := ?_) ?_ ?_
                rotate_left
                · show Act.put _ (some 36) _ = _
                  simp only [Act.put, List.setIfInBounds_toArray, List.set_cons_zero, List.set_cons_succ, i64_w, i32_w]
                  rfl
                refine pure_ (i := 8) (N := some 37) (v := ?_) (a' := ?_) #[true, true, true, true, true, true, true, true, true, false, false, false, false, false] rfl rfl (any_of HT_.out (by kernel_rfl)) (fun _ _ _ h => h) (Or.inl ⟨by rfl, ?_⟩) ?_ ?_
                rotate_left
                · intro w'
                  go_simp
                  with_reducible rfl
                rotate_left
                · simp only [Act.put, List.setIfInBounds_toArray, List.set_cons_zero, List.set_cons_succ, i64_w, i32_w]
                  rfl
                refine pure_ (i := 9) (N := some 38) (v := ?_) (a' := ?_) #[true, true, true, true, true, true, true, true, true, true, false, false, false, false] rfl rfl (any_of HT_.out (by kernel_rfl)) (fun _ _ _ h => h) (Or.inl ⟨by rfl, ?_⟩) ?_ ?_
                rotate_left
                · intro w'
                  go_simp
                  with_reducible rfl
                rotate_left
                · simp only [Act.put, List.setIfInBounds_toArray, List.set_cons_zero, List.set_cons_succ, i64_w, i32_w]
                  rfl
                refine one_ (i := 10) (N := some 39) #[true, true, true, true, true, true, true, true, true, true, true, false, false, false] rfl rfl (one_of HT_.out (by kernel_rfl)) (by decide) (fun K hK => ?_)
                refine value_ (w1 := ?_) (v := ?_) (by rfl) rfl ?_ ?_
                rotate_left 2
                · go_simp
                  constructor
                  · rfl
                  · rfl
                refine hK.out _ _ ⟨(blk_cell (blk_alloc BK672.out _) 0).trans rfl, (blk_cell (blk_alloc BK672.out _) 1).trans rfl, (blk_cell (blk_alloc BK672.out _) 2).trans rfl, (blk_cell (blk_alloc BK672.out _) 3).trans rfl, (blk_cell (blk_alloc BK672.out _) 4).trans rfl⟩ (fun hHeld => ?_)
                clear hK K
                refine norm_ (a' := ?_) ?_ ?_
                rotate_left
                · show Act.put _ (some 39) _ = _
                  simp only [Act.put, List.setIfInBounds_toArray, List.set_cons_zero, List.set_cons_succ, i64_w, i32_w]
                  rfl
                refine one_ (i := 11) (N := some 40) #[true, true, true, true, true, true, true, true, true, true, true, true, false, false] rfl rfl (one_of HT_.out (by kernel_rfl)) (by decide) (fun K hK => ?_)
                refine Kd.R_append_step k74 w.heap.size (by rfl) (.tmp 30) (.tmp 39) 27 74 (.agg #[(.int .i64 0), (.int .i64 0), (.int .i64 0)]) 24 rfl Try.underlying27 info74 rfl (by decide) (by omega) u673004 x673004_2 (⟨t675, t677, wrap64 (4 + t679)⟩ : S74) [.int .i64 t675, .int .i64 t677, .int .i64 (wrap64 (4 + t679))] (fun _ => True) (fun _ => False) rfl rfl ?aP (fun _ hk => hk.elim) ?aF ?aO (Below.refl _ _) ?aS ?aL ?_
                (case aP => exact k74_mkM _ _ _ (⟨t675, t677, wrap64 (4 + t679)⟩ : S74))
                (case aF => exact (fun _ _ => trivial))
                (case aO => exact (by (with_reducible repeat (first | apply Kd.R_alloc | apply Kd.R_drewN | apply Kd.R_drew)); exact HO_673004.out))
                (case aS => exact (keep_size (w := w) (g := g) (row := none) (by repeat (first | (with_reducible first | exact HK.out | apply KeepBut.set_ | apply keep_drewN | apply keep_drew | apply keep_alloc | refine keep_far ?_ GW672.out _) | exact HK.out))))
                (case aL => have := LMc18.out; omega)
                intro v682 w23 ho hb hg hat
                rw [← Ny681.out] at ho
                have n0_ := Aside0.mk (Kd.R_after (ok := (fun k_ => k_ ≠ gb672)) (by (with_reducible repeat (first | apply Kd.R_alloc | apply Kd.R_drewN | apply Kd.R_drew)); exact Kd.R_mono HO_4.out (fun _ hk => ⟨hk.2, hk.1⟩)) hg hat)
                have n1_ := Aside0.mk (blk_grown (g := gb672) (o := .cells #[.int .i64 (wrap64 (1 + t668)), .int .i64 (wrap64 (1 + t670)), .int .i64 0, .slice none 0 0, u673004] 29 (0, 0)) (by (with_reducible repeat (first | refine blk_drewN ?_ _ | refine blk_drew ?_ | refine blk_alloc ?_ _)); exact BK672.out) hg (Kd.R_ne HO_673004.out BK672.out (by decide)))
                have n2_ := Aside0.mk (IsS86.grown (by repeat (first | (with_reducible first | exact HI0.out | apply IsS86.alloc | apply IsS86.drewN | apply IsS86.drew | apply IsS86.set_1 | refine IsS86.far ?_ NB0_672.out _) | exact HI0.out)) hg (IsS86.own_ne HI0.out HO_673004.out (by decide)))
                have n3_ := Aside0.mk (below_weaken (by repeat (first | (with_reducible first | exact HB.out | apply below_alloc | apply pw_below_drewN | apply below_drew1 | refine below_set ?_ (IsS86.ge HI0.out) | refine below_set ?_ GE672.out) | exact HB.out)) HL.out hb)
                have n4_ := Aside0.mk (KeepBut.trans (by repeat (first | (with_reducible first | exact HK.out | apply KeepBut.set_ | apply keep_drewN | apply keep_drew | apply keep_alloc | refine keep_far ?_ GW672.out _) | exact HK.out)) (KeepBut.of_grown hg g) (Kd.R_base2 HO_673004.out))
                have n5_ := Aside0.mk (ho)
                clear HO_4
                clear BK672
                clear HI0
                clear HB
                clear HK
                clear HO_673004
                have HO_4 := n0_
                have BK672 := n1_
                have HI0 := n2_
                have HB := n3_
                have HK := n4_
                have HO683 := n5_
                clear n0_ n1_ n2_ n3_ n4_ n5_
                clear ho hb hg hat
                obtain ⟨Ao24, co24, eo24⟩ := Kd.R_slice HO683.out
                (first | subst eo24 | (injection eo24 with f1_ f2_ f3_; have f4_ := f1_.symm; have f5_ := f3_.symm; clear f1_ f2_ f3_; subst f4_; subst f5_))
                refine hK.out _ _ ⟨(blk_cell BK672.out 0).trans rfl, (blk_cell BK672.out 1).trans rfl, (blk_cell BK672.out 2).trans rfl, (blk_cell BK672.out 3).trans rfl, (blk_cell BK672.out 4).trans rfl⟩ (fun hHeld => ?_)
                clear hK K
                refine norm_ (a' := ?_) ?_ ?_
                rotate_left
                · show Act.put _ (some 40) _ = _
                  simp only [Act.put, List.setIfInBounds_toArray, List.set_cons_zero, List.set_cons_succ, i64_w, i32_w]
                  rfl
                refine pure_ (i := 12) (N := some 41) (v := ?_) (a' := ?_) #[true, true, true, true, true, true, true, true, true, true, true, true, true, false] rfl rfl (any_of HT_.out (by kernel_rfl)) (fun _ _ _ h => h) (Or.inl ⟨by rfl, ?_⟩) ?_ ?_
                rotate_left
                · intro w'
                  go_simp
                  with_reducible rfl
                rotate_left
                · simp only [Act.put, List.setIfInBounds_toArray, List.set_cons_zero, List.set_cons_succ, i64_w, i32_w]
                  rfl
                refine last_ (i := 13) (N := none) #[true, true, true, true, true, true, true, true, true, true, true, true, true, true] rfl rfl (one_of HT_.out (by kernel_rfl)) (by decide) (fun K hK => ?_)
                have hs25 : w23.cell? ⟨gb672, 4, none⟩ = some (u673004) := (blk_cell BK672.out 4).trans rfl
                have hfs25 := blk_frozen BK672.out 4
                refine skip_ (w1 := ?_) (by rfl) rfl ?_ ?_
                rotate_left
                · go_simp
                  rfl
                refine hK.out _ _ ?_
                clear hK K
                refine done_ (done_of HT_.out (by kernel_rfl)) ?_
                try go_wp2
                go_roundg k2
                case measure => have := HK1.out; have := HK2.out; omega
                case rel => exact ⟨(wrap64 (x7_2 - 1)), (t680), (y681), (.slice Ao24 y681.length co24), (by first | rfl | (simp; done) | (simp [*]; done)), H', ⟨by have := HK1.out; have := HK2.out; omega⟩, ⟨by (with_reducible repeat (first | apply Kd.R_alloc | apply Kd.R_drewN | apply Kd.R_drew)); exact Kd.R_mono (Kd.R_far (p := ⟨gb672, 4, none⟩) (Kd.R_mono HO_4.out (fun k_ hk => (⟨hk, hk.1⟩ : _ ∧ k_ ≠ gb672))) (fun _ hk => hk.2) (.slice Ao24 y681.length co24)) (fun _ hk => ⟨hk.1.2, hk.1.1⟩)⟩, ⟨by (with_reducible repeat (first | apply Kd.R_alloc | apply Kd.R_drewN | apply Kd.R_drew)); exact Kd.R_mono (Kd.R_far (p := ⟨gb672, 4, none⟩) (Kd.R_types HO683.out BK672.out (by decide)) (fun _ hk => hk.2) (.slice Ao24 y681.length co24)) (fun _ hk => trivial)⟩, ⟨by (with_reducible repeat (first | refine blk_drewN ?_ _ | refine blk_drew ?_ | refine blk_alloc ?_ _)); refine blk_put (cs := #[.int .i64 (wrap64 (1 + t668)), .int .i64 (wrap64 (1 + t670)), .int .i64 0, .slice none 0 0, u673004]) ?_ 4 _ rfl; (with_reducible repeat (first | refine blk_drewN ?_ _ | refine blk_drew ?_ | refine blk_alloc ?_ _)); exact BK672.out⟩, ⟨by repeat (first | (with_reducible first | exact HI0.out | apply IsS86.alloc | apply IsS86.drewN | apply IsS86.drew | apply IsS86.set_1 | refine IsS86.far ?_ NB0_672.out _) | exact HI0.out)⟩, ⟨by repeat (first | (with_reducible first | exact HK.out | apply KeepBut.set_ | apply keep_drewN | apply keep_drew | apply keep_alloc | refine keep_far ?_ GW672.out _) | exact HK.out)⟩, ⟨by repeat (first | (with_reducible first | exact HB.out | apply below_alloc | apply pw_below_drewN | apply below_drew1 | refine below_set ?_ (IsS86.ge HI0.out) | refine below_set ?_ GE672.out) | exact HB.out)⟩⟩
              · rw [if_neg c18] at H
                exact absurd H (by simp)
            · rw [if_neg c14] at H
              have c14b0 : decide (0 < x7_2) = false := decide_eq_false c14
              clear c14
              by_cases c26 : x4_1.length < 1954687338268
              · rw [if_pos c26] at H
                have LMc26 := Aside0.mk c26
                clear c26
                obtain ⟨y684, hy684⟩ : ∃ y_ : List (S29), y_ = (x4_1 ++ [(⟨(wrap64 (1 + t668)), (wrap64 (1 + t670)), 0, ([] : List (S48)), x673004_2⟩ : S29)]) := ⟨_, rfl⟩
                replace H : (storagebarterlaw39_made.l0 k2 y684 (wrap64 (x5_1 - 1)) s0_0 x1001_2) = some (r1, r2, r3) := by first | (rw [hy684]; with_reducible exact H) | (have H2_ := (Option.bind_some _ _).symm.trans H; rw [hy684]; with_reducible exact H2_) | (have H2_ := (Option.bind_some _ _).symm.trans H; with_reducible exact H2_) | with_reducible exact H | (rw [hy684]; exact H) | exact H
                have Ny684 := Aside0.mk hy684
                clear hy684
                have H' := Aside0.mk H
                clear H
                have hnb27 := NB672_0.out
                have hnc27 := NB0_672.out
                have hcz28_0 : wr.cell? ⟨gb672, 0, none⟩ = some (.int .i64 (wrap64 (1 + t668))) := (blk_cell BK672.out 0).trans rfl
                have hcz28_1 : wr.cell? ⟨gb672, 1, none⟩ = some (.int .i64 (wrap64 (1 + t670))) := (blk_cell BK672.out 1).trans rfl
                have hcz28_2 : wr.cell? ⟨gb672, 2, none⟩ = some (.int .i64 0) := (blk_cell BK672.out 2).trans rfl
                have hcz28_3 : wr.cell? ⟨gb672, 3, none⟩ = some (.slice none 0 0) := (blk_cell BK672.out 3).trans rfl
                have hcz28_4 : wr.cell? ⟨gb672, 4, none⟩ = some (u673004) := (blk_cell BK672.out 4).trans rfl
                have hfz28_0 := blk_frozen BK672.out 0
                have hfz28_1 := blk_frozen BK672.out 1
                have hfz28_2 := blk_frozen BK672.out 2
                have hfz28_3 := blk_frozen BK672.out 3
                have hfz28_4 := blk_frozen BK672.out 4
                obtain ⟨Ao30, co30, eo30⟩ := Kd.R_slice HO_673004.out
                subst eo30
                go_wp2_with (first | ((with_reducible refine gate_builtin (b := .append) (xs := #[.tmp 42, .tmp 44]) rfl ?_); at_builtin; refine Kd.R_append k29 w.heap.size rfl (.tmp 42) (.tmp 44) 51 29 (.agg #[(.int .i64 0), (.int .i64 0), (.int .i64 0), (.slice none 0 0), (.slice none 0 0)]) 72 rfl Try.underlying51 info29 rfl (by decide) (by omega) u4 x4_1 (⟨(wrap64 (1 + t668)), (wrap64 (1 + t670)), 0, ([] : List (S48)), x673004_2⟩ : S29) [.int .i64 (wrap64 (1 + t668)), .int .i64 (wrap64 (1 + t670)), .int .i64 0, .slice none 0 0, .slice Ao30 x673004_2.length co30] (fun k_ => k_ ≠ gb672) (fun k_ => ((fun k_ => k_ ≠ gb672)) k_ ∧ some k_ ≠ (u4 : Value).ownBlock) rfl rfl ?aP (fun _ hk => hk) ?aF ?aO (Below.refl _ _) ?aS ?aL ?_; (case aP => exact k29_mkM _ _ _ (⟨(wrap64 (1 + t668)), (wrap64 (1 + t670)), 0, ([] : List (S48)), x673004_2⟩ : S29) (Kd.R_nil _ _ _ _ _) (Kd.R_mono (Kd.R_types (Kd.R_apart' (HO_673004.out) (Kd.R_typed HO_4.out) (by decide)) BK672.out (by decide)) (fun k_ hk => ⟨hk.2, hk.1.2⟩))); (case aF => exact (fun k_ hk => Kd.freshB (g := gb672) (o := .cells #[.int .i64 (wrap64 (1 + t668)), .int .i64 (wrap64 (1 + t670)), .int .i64 0, .slice none 0 0, .slice Ao30 x673004_2.length co30] 29 (0, 0)) (by (with_reducible repeat (first | refine blk_drewN ?_ _ | refine blk_drew ?_ | refine blk_alloc ?_ _)); exact BK672.out) k_ hk)); (case aO => exact (by (with_reducible repeat (first | apply Kd.R_alloc | apply Kd.R_drewN | apply Kd.R_drew)); exact Kd.R_mono HO_4.out (fun _ hk => hk.2))); (case aS => exact (keep_size (w := w) (g := g) (row := none) (by repeat (first | (with_reducible first | exact HK.out | apply KeepBut.set_ | apply keep_drewN | apply keep_drew | apply keep_alloc | refine keep_far ?_ GW672.out _) | exact HK.out)))); (case aL => have := LMc26.out; omega); intro v685 w29 ho hb hg hat; rw [← Ny684.out] at ho; have n0_ := Aside0.mk (blk_grown (g := gb672) (o := .cells #[.int .i64 (wrap64 (1 + t668)), .int .i64 (wrap64 (1 + t670)), .int .i64 0, .slice none 0 0, .slice Ao30 x673004_2.length co30] 29 (0, 0)) (by (with_reducible repeat (first | refine blk_drewN ?_ _ | refine blk_drew ?_ | refine blk_alloc ?_ _)); exact BK672.out) hg (Kd.R_away HO_4.out (fun _ hk => hk.2))); have n1_ := Aside0.mk (IsS86.grown (by repeat (first | (with_reducible first | exact HI0.out | apply IsS86.alloc | apply IsS86.drewN | apply IsS86.drew | apply IsS86.set_1 | refine IsS86.far ?_ NB0_672.out _) | exact HI0.out)) hg (IsS86.own_ne HI0.out HO_4.out (by decide))); have n2_ := Aside0.mk (below_weaken (by repeat (first | (with_reducible first | exact HB.out | apply below_alloc | apply pw_below_drewN | apply below_drew1 | refine below_set ?_ (IsS86.ge HI0.out) | refine below_set ?_ GE672.out) | exact HB.out)) HL.out hb); have n3_ := Aside0.mk (KeepBut.trans (by repeat (first | (with_reducible first | exact HK.out | apply KeepBut.set_ | apply keep_drewN | apply keep_drew | apply keep_alloc | refine keep_far ?_ GW672.out _) | exact HK.out)) (KeepBut.of_grown hg g) (Kd.R_base2 HO_4.out)); have n4_ := Aside0.mk (ho); clear BK672; clear HI0; clear HB; clear HK; clear HO_4; clear HO_673004; have BK672 := n0_; have HI0 := n1_; have HB := n2_; have HK := n3_; have HO686 := n4_; clear n0_ n1_ n2_ n3_ n4_; clear ho hb hg hat))
                go_roundg k2
                case measure => have := HK1.out; have := HK2.out; omega
                case rel => exact ⟨(y684), (wrap64 (x5_1 - 1)), (x1001_2), (by first | rfl | (simp; done) | (simp [*]; done)), H', ⟨by have := HK1.out; have := HK2.out; omega⟩, ⟨by (with_reducible repeat (first | apply Kd.R_alloc | apply Kd.R_drewN | apply Kd.R_drew)); exact Kd.R_mono HO686.out (fun _ hk => trivial)⟩, ⟨by repeat (first | (with_reducible first | exact HI0.out | apply IsS86.alloc | apply IsS86.drewN | apply IsS86.drew | apply IsS86.set_1 | refine IsS86.far ?_ NB0_672.out _) | exact HI0.out)⟩, ⟨by repeat (first | (with_reducible first | exact HK.out | apply KeepBut.set_ | apply keep_drewN | apply keep_drew | apply keep_alloc | refine keep_far ?_ GW672.out _) | exact HK.out)⟩, ⟨by repeat (first | (with_reducible first | exact HB.out | apply below_alloc | apply pw_below_drewN | apply below_drew1 | refine below_set ?_ (IsS86.ge HI0.out) | refine below_set ?_ GE672.out) | exact HB.out)⟩⟩
              · rw [if_neg c26] at H
                exact absurd H (by simp)
      · rw [if_neg c4] at H
        have c4b0 : decide (0 < x5_1) = false := decide_eq_false c4
        clear c4
        replace H := Option.bind_eq_some_iff.mp H
        obtain ⟨⟨t687, t688⟩, A310, H⟩ := H
        replace H : (storagebarterlaw39_made.l2 k1 x4_1 ([] : List (S72)) t687 s0_0 t688) = some (r1, r2, r3) := H
        have A31 := Aside0.mk A310
        clear A310
        have H' := Aside0.mk H
        clear H
        go_wp2_with (first | ((with_reducible refine gate_callee (f := 14) rfl ?_); refine goesL_ (some 47) rfl rfl Try.func14 (by kernel_rfl) rfl #[.pointer (some ⟨g, 0, none⟩), .int .i64 8] rfl (by (try simp only [List.map_toArray, List.map_cons, List.map_nil]); first | done | rfl | (simp only [List.length_drop, List.length_take]; rfl)) ?_; (with_reducible refine (storagebarterplay_Dice_Pick.calls g s0_0 x1001_1 8 t687 t688 w0 _ ?side1 ?side2 A31.out).mono ?_); (case side1 => repeat (first | (with_reducible first | exact HI0.out | apply IsS86.alloc | apply IsS86.drewN | apply IsS86.drew | apply IsS86.set_1) | exact HI0.out)); (case side2 => repeat (first | (with_reducible first | exact HB.out | apply below_alloc | apply pw_below_drewN | apply below_drew1 | refine below_set ?_ (IsS86.ge HI0.out)) | exact HB.out)); rintro e w32 ⟨rfl, hi, hb, hk⟩; refine ⟨_, rfl, ?_⟩; have n0_ := Aside0.mk (Kd.R_mono (Kd.R_keep (IsS86.apart (show IsS86 w0 _ g s0_0 x1001_1 from by repeat (first | (with_reducible first | exact HI0.out | apply IsS86.alloc | apply IsS86.drewN | apply IsS86.drew | apply IsS86.set_1) | exact HI0.out)) (by (with_reducible repeat (first | apply Kd.R_alloc | apply Kd.R_drewN | apply Kd.R_drew)); exact HO_4.out) (by decide)) hk (fun _ h => h.2)) (fun _ h => h.1)); have n1_ := Aside0.mk (KeepBut.trans (by repeat (first | (with_reducible first | exact HK.out | apply KeepBut.set_ | apply keep_drewN | apply keep_drew | apply keep_alloc) | exact HK.out)) hk (.inl rfl)); have n2_ := Aside0.mk (hb); have n3_ := Aside0.mk (hi); clear HO_4; clear HK; clear HB; clear HI0; have HO_4 := n0_; have HK := n1_; have HB := n2_; have HI0 := n3_; clear n0_ n1_ n2_ n3_; (try clear hb); (try clear hb2); (try clear hk); (try clear hi)))
        go_loopg [8, 9] k1 (fun kq v8 v9 w' => ∃ (x8_2 : List (S72)) (x9_2 : Int) (x1001_2 : Int), v9 = .int .i64 x9_2 ∧ Aside0 (storagebarterlaw39_made.l2 kq x4_1 x8_2 x9_2 s0_0 x1001_2 = some (r1, r2, r3)) ∧ Aside0 (kq ≤ k1) ∧ Aside0 (Kd.R k29 29 w' w.heap.size (fun _ => True) u4 x4_1) ∧ Aside0 (Kd.R k72 72 w' w.heap.size (fun _ => True) v8 x8_2) ∧ Aside0 (IsS86 w0 w' g s0_0 x1001_2) ∧ Aside0 (KeepBut w w' g none) ∧ Aside0 (Below w0.heap.size w0 w'))
        case atStart => exact ⟨(([] : List (S72))), (t687), (t688), (by first | rfl | (simp; done) | (simp [*]; done)), H', ⟨Nat.le_refl _⟩, ⟨by (with_reducible repeat (first | apply Kd.R_alloc | apply Kd.R_drewN | apply Kd.R_drew)); exact HO_4.out⟩, ⟨by first | exact Kd.R_nil _ _ _ _ _ | exact Kd.N_nil _ _ _ _ _ | exact Kd.V_nil _ _ _ _ _ | exact Kd.Q_nil _ _ _ _ _ | exact Kd.S_nil _ _ _ _ _⟩, ⟨by repeat (first | (with_reducible first | exact HI0.out | apply IsS86.alloc | apply IsS86.drewN | apply IsS86.drew | apply IsS86.set_1) | exact HI0.out)⟩, ⟨by repeat (first | (with_reducible first | exact HK.out | apply KeepBut.set_ | apply keep_drewN | apply keep_drew | apply keep_alloc) | exact HK.out)⟩, ⟨by repeat (first | (with_reducible first | exact HB.out | apply below_alloc | apply pw_below_drewN | apply below_drew1 | refine below_set ?_ (IsS86.ge HI0.out)) | exact HB.out)⟩⟩
        case round =>
          clear H'
          try clear c1
          try clear c2
          try clear p2
          try clear c4
          try clear c4b0
          try clear p6
          try clear c11
          try clear c14
          try clear c14b0
          try clear c18
          try clear c24
          try clear c26
          try clear c27
          try clear hcz12_0
          try clear hcz12_1
          try clear hcz12_2
          try clear hcz12_3
          try clear hcz12_4
          try clear hcz28_0
          try clear hcz28_1
          try clear hcz28_2
          try clear hcz28_3
          try clear hcz28_4
          try clear hfz12_0
          try clear hfz12_1
          try clear hfz12_2
          try clear hfz12_3
          try clear hfz12_4
          try clear hfz28_0
          try clear hfz28_1
          try clear hfz28_2
          try clear hfz28_3
          try clear hfz28_4
          try clear p2
          try clear p6
          obtain ⟨x8_2, x9_2, x1001_2, rfl, HA, HK2, HO_4, HO_8, HI0, HK, HB⟩ := hrel
          cases gk with
          | zero => exact absurd HA.out (by simp [storagebarterlaw39_made.l2])
          | succ k2 =>
            have H := HA.out
            clear HA
            simp only [storagebarterlaw39_made.l2] at H
            by_cases c33 : x9_2 > 0
            · rw [if_pos c33] at H
              have c33b0 : decide (0 < x9_2) = true := decide_eq_true c33
              clear c33
              replace H := Option.bind_eq_some_iff.mp H
              obtain ⟨⟨t689, t690⟩, A340, H⟩ := H
              replace H : ((storagebarterplay_Dice_Pick.f s0_0 t690 4).bind fun bt691 => ((storagebarterplay_Dice_Pick.f s0_0 bt691.2 2).bind fun bt693 => ((storagebarterplay_Dice_Pick.f s0_0 bt693.2 3).bind fun bt695 => ((storagebarterplay_Dice_Shard.f s0_0 bt695.2).bind fun bt697 => (if x8_2.length < 2932031007402 then (storagebarterlaw39_made.l2 k2 x4_1 (x8_2 ++ [(⟨wrap64 (1 + t689), wrap64 (1 + bt691.1), bt693.1, bt695.1, bt697.1⟩ : S72)]) (wrap64 (x9_2 - 1)) s0_0 bt697.2) else (none)))))) = some (r1, r2, r3) := H
              have A34 := Aside0.mk A340
              clear A340
              replace H := Option.bind_eq_some_iff.mp H
              obtain ⟨⟨t691, t692⟩, A350, H⟩ := H
              replace H : ((storagebarterplay_Dice_Pick.f s0_0 t692 2).bind fun bt693 => ((storagebarterplay_Dice_Pick.f s0_0 bt693.2 3).bind fun bt695 => ((storagebarterplay_Dice_Shard.f s0_0 bt695.2).bind fun bt697 => (if x8_2.length < 2932031007402 then (storagebarterlaw39_made.l2 k2 x4_1 (x8_2 ++ [(⟨wrap64 (1 + t689), wrap64 (1 + t691), bt693.1, bt695.1, bt697.1⟩ : S72)]) (wrap64 (x9_2 - 1)) s0_0 bt697.2) else (none))))) = some (r1, r2, r3) := H
              have A35 := Aside0.mk A350
              clear A350
              replace H := Option.bind_eq_some_iff.mp H
              obtain ⟨⟨t693, t694⟩, A360, H⟩ := H
              replace H : ((storagebarterplay_Dice_Pick.f s0_0 t694 3).bind fun bt695 => ((storagebarterplay_Dice_Shard.f s0_0 bt695.2).bind fun bt697 => (if x8_2.length < 2932031007402 then (storagebarterlaw39_made.l2 k2 x4_1 (x8_2 ++ [(⟨wrap64 (1 + t689), wrap64 (1 + t691), t693, bt695.1, bt697.1⟩ : S72)]) (wrap64 (x9_2 - 1)) s0_0 bt697.2) else (none)))) = some (r1, r2, r3) := H
              have A36 := Aside0.mk A360
              clear A360
              replace H := Option.bind_eq_some_iff.mp H
              obtain ⟨⟨t695, t696⟩, A370, H⟩ := H
              replace H : ((storagebarterplay_Dice_Shard.f s0_0 t696).bind fun bt697 => (if x8_2.length < 2932031007402 then (storagebarterlaw39_made.l2 k2 x4_1 (x8_2 ++ [(⟨wrap64 (1 + t689), wrap64 (1 + t691), t693, t695, bt697.1⟩ : S72)]) (wrap64 (x9_2 - 1)) s0_0 bt697.2) else (none))) = some (r1, r2, r3) := H
              have A37 := Aside0.mk A370
              clear A370
              replace H := Option.bind_eq_some_iff.mp H
              obtain ⟨⟨t697, t698⟩, A380, H⟩ := H
              replace H : (if x8_2.length < 2932031007402 then (storagebarterlaw39_made.l2 k2 x4_1 (x8_2 ++ [(⟨wrap64 (1 + t689), wrap64 (1 + t691), t693, t695, t697⟩ : S72)]) (wrap64 (x9_2 - 1)) s0_0 t698) else (none)) = some (r1, r2, r3) := H
              have A38 := Aside0.mk A380
              clear A380
              by_cases c39 : x8_2.length < 2932031007402
              · rw [if_pos c39] at H
                have LMc39 := Aside0.mk c39
                clear c39
                obtain ⟨y699, hy699⟩ : ∃ y_ : List (S72), y_ = (x8_2 ++ [(⟨wrap64 (1 + t689), wrap64 (1 + t691), t693, t695, t697⟩ : S72)]) := ⟨_, rfl⟩
                replace H : (storagebarterlaw39_made.l2 k2 x4_1 y699 (wrap64 (x9_2 - 1)) s0_0 t698) = some (r1, r2, r3) := by first | (rw [hy699]; with_reducible exact H) | (have H2_ := (Option.bind_some _ _).symm.trans H; rw [hy699]; with_reducible exact H2_) | (have H2_ := (Option.bind_some _ _).symm.trans H; with_reducible exact H2_) | with_reducible exact H | (rw [hy699]; exact H) | exact H
                have Ny699 := Aside0.mk hy699
                clear hy699
                have H' := Aside0.mk H
                clear H
                go_wp2_with (first | ((with_reducible refine gate_callee (f := 14) rfl ?_); refine goesL_ (some 54) rfl rfl Try.func14 (by kernel_rfl) rfl #[.pointer (some ⟨g, 0, none⟩), .int .i64 3] rfl (by (try simp only [List.map_toArray, List.map_cons, List.map_nil]); first | done | rfl | (simp only [List.length_drop, List.length_take]; rfl)) ?_; (with_reducible refine (storagebarterplay_Dice_Pick.calls g s0_0 x1001_2 3 t689 t690 w0 _ ?side1 ?side2 A34.out).mono ?_); (case side1 => repeat (first | (with_reducible first | exact HI0.out | apply IsS86.alloc | apply IsS86.drewN | apply IsS86.drew | apply IsS86.set_1) | exact HI0.out)); (case side2 => repeat (first | (with_reducible first | exact HB.out | apply below_alloc | apply pw_below_drewN | apply below_drew1 | refine below_set ?_ (IsS86.ge HI0.out)) | exact HB.out)); rintro e w40 ⟨rfl, hi, hb, hk⟩; refine ⟨_, rfl, ?_⟩; have n0_ := Aside0.mk (Kd.R_mono (Kd.R_keep (IsS86.apart (show IsS86 w0 _ g s0_0 x1001_2 from by repeat (first | (with_reducible first | exact HI0.out | apply IsS86.alloc | apply IsS86.drewN | apply IsS86.drew | apply IsS86.set_1) | exact HI0.out)) (by (with_reducible repeat (first | apply Kd.R_alloc | apply Kd.R_drewN | apply Kd.R_drew)); exact HO_4.out) (by decide)) hk (fun _ h => h.2)) (fun _ h => h.1)); have n1_ := Aside0.mk (Kd.R_mono (Kd.R_keep (IsS86.apart (show IsS86 w0 _ g s0_0 x1001_2 from by repeat (first | (with_reducible first | exact HI0.out | apply IsS86.alloc | apply IsS86.drewN | apply IsS86.drew | apply IsS86.set_1) | exact HI0.out)) (by (with_reducible repeat (first | apply Kd.R_alloc | apply Kd.R_drewN | apply Kd.R_drew)); exact HO_8.out) (by decide)) hk (fun _ h => h.2)) (fun _ h => h.1)); have n2_ := Aside0.mk (KeepBut.trans (by repeat (first | (with_reducible first | exact HK.out | apply KeepBut.set_ | apply keep_drewN | apply keep_drew | apply keep_alloc) | exact HK.out)) hk (.inl rfl)); have n3_ := Aside0.mk (hb); have n4_ := Aside0.mk (hi); clear HO_4; clear HO_8; clear HK; clear HB; clear HI0; have HO_4 := n0_; have HO_8 := n1_; have HK := n2_; have HB := n3_; have HI0 := n4_; clear n0_ n1_ n2_ n3_ n4_; (try clear hb); (try clear hb2); (try clear hk); (try clear hi)) | ((with_reducible refine gate_callee (f := 14) rfl ?_); refine goesL_ (some 57) rfl rfl Try.func14 (by kernel_rfl) rfl #[.pointer (some ⟨g, 0, none⟩), .int .i64 4] rfl (by (try simp only [List.map_toArray, List.map_cons, List.map_nil]); first | done | rfl | (simp only [List.length_drop, List.length_take]; rfl)) ?_; (with_reducible refine (storagebarterplay_Dice_Pick.calls g s0_0 t690 4 t691 t692 w0 _ ?side1 ?side2 A35.out).mono ?_); (case side1 => repeat (first | (with_reducible first | exact HI0.out | apply IsS86.alloc | apply IsS86.drewN | apply IsS86.drew | apply IsS86.set_1) | exact HI0.out)); (case side2 => repeat (first | (with_reducible first | exact HB.out | apply below_alloc | apply pw_below_drewN | apply below_drew1 | refine below_set ?_ (IsS86.ge HI0.out)) | exact HB.out)); rintro e w41 ⟨rfl, hi, hb, hk⟩; refine ⟨_, rfl, ?_⟩; have n0_ := Aside0.mk (Kd.R_mono (Kd.R_keep (IsS86.apart (show IsS86 w0 _ g s0_0 t690 from by repeat (first | (with_reducible first | exact HI0.out | apply IsS86.alloc | apply IsS86.drewN | apply IsS86.drew | apply IsS86.set_1) | exact HI0.out)) (by (with_reducible repeat (first | apply Kd.R_alloc | apply Kd.R_drewN | apply Kd.R_drew)); exact HO_4.out) (by decide)) hk (fun _ h => h.2)) (fun _ h => h.1)); have n1_ := Aside0.mk (Kd.R_mono (Kd.R_keep (IsS86.apart (show IsS86 w0 _ g s0_0 t690 from by repeat (first | (with_reducible first | exact HI0.out | apply IsS86.alloc | apply IsS86.drewN | apply IsS86.drew | apply IsS86.set_1) | exact HI0.out)) (by (with_reducible repeat (first | apply Kd.R_alloc | apply Kd.R_drewN | apply Kd.R_drew)); exact HO_8.out) (by decide)) hk (fun _ h => h.2)) (fun _ h => h.1)); have n2_ := Aside0.mk (KeepBut.trans (by repeat (first | (with_reducible first | exact HK.out | apply KeepBut.set_ | apply keep_drewN | apply keep_drew | apply keep_alloc) | exact HK.out)) hk (.inl rfl)); have n3_ := Aside0.mk (hb); have n4_ := Aside0.mk (hi); clear HO_4; clear HO_8; clear HK; clear HB; clear HI0; have HO_4 := n0_; have HO_8 := n1_; have HK := n2_; have HB := n3_; have HI0 := n4_; clear n0_ n1_ n2_ n3_ n4_; (try clear hb); (try clear hb2); (try clear hk); (try clear hi)) | ((with_reducible refine gate_callee (f := 14) rfl ?_); refine goesL_ (some 60) rfl rfl Try.func14 (by kernel_rfl) rfl #[.pointer (some ⟨g, 0, none⟩), .int .i64 2] rfl (by (try simp only [List.map_toArray, List.map_cons, List.map_nil]); first | done | rfl | (simp only [List.length_drop, List.length_take]; rfl)) ?_; (with_reducible refine (storagebarterplay_Dice_Pick.calls g s0_0 t692 2 t693 t694 w0 _ ?side1 ?side2 A36.out).mono ?_); (case side1 => repeat (first | (with_reducible first | exact HI0.out | apply IsS86.alloc | apply IsS86.drewN | apply IsS86.drew | apply IsS86.set_1) | exact HI0.out)); (case side2 => repeat (first | (with_reducible first | exact HB.out | apply below_alloc | apply pw_below_drewN | apply below_drew1 | refine below_set ?_ (IsS86.ge HI0.out)) | exact HB.out)); rintro e w42 ⟨rfl, hi, hb, hk⟩; refine ⟨_, rfl, ?_⟩; have n0_ := Aside0.mk (Kd.R_mono (Kd.R_keep (IsS86.apart (show IsS86 w0 _ g s0_0 t692 from by repeat (first | (with_reducible first | exact HI0.out | apply IsS86.alloc | apply IsS86.drewN | apply IsS86.drew | apply IsS86.set_1) | exact HI0.out)) (by (with_reducible repeat (first | apply Kd.R_alloc | apply Kd.R_drewN | apply Kd.R_drew)); exact HO_4.out) (by decide)) hk (fun _ h => h.2)) (fun _ h => h.1)); have n1_ := Aside0.mk (Kd.R_mono (Kd.R_keep (IsS86.apart (show IsS86 w0 _ g s0_0 t692 from by repeat (first | (with_reducible first | exact HI0.out | apply IsS86.alloc | apply IsS86.drewN | apply IsS86.drew | apply IsS86.set_1) | exact HI0.out)) (by (with_reducible repeat (first | apply Kd.R_alloc | apply Kd.R_drewN | apply Kd.R_drew)); exact HO_8.out) (by decide)) hk (fun _ h => h.2)) (fun _ h => h.1)); have n2_ := Aside0.mk (KeepBut.trans (by repeat (first | (with_reducible first | exact HK.out | apply KeepBut.set_ | apply keep_drewN | apply keep_drew | apply keep_alloc) | exact HK.out)) hk (.inl rfl)); have n3_ := Aside0.mk (hb); have n4_ := Aside0.mk (hi); clear HO_4; clear HO_8; clear HK; clear HB; clear HI0; have HO_4 := n0_; have HO_8 := n1_; have HK := n2_; have HB := n3_; have HI0 := n4_; clear n0_ n1_ n2_ n3_ n4_; (try clear hb); (try clear hb2); (try clear hk); (try clear hi)) | ((with_reducible refine gate_callee (f := 14) rfl ?_); refine goesL_ (some 62) rfl rfl Try.func14 (by kernel_rfl) rfl #[.pointer (some ⟨g, 0, none⟩), .int .i64 3] rfl (by (try simp only [List.map_toArray, List.map_cons, List.map_nil]); first | done | rfl | (simp only [List.length_drop, List.length_take]; rfl)) ?_; (with_reducible refine (storagebarterplay_Dice_Pick.calls g s0_0 t694 3 t695 t696 w0 _ ?side1 ?side2 A37.out).mono ?_); (case side1 => repeat (first | (with_reducible first | exact HI0.out | apply IsS86.alloc | apply IsS86.drewN | apply IsS86.drew | apply IsS86.set_1) | exact HI0.out)); (case side2 => repeat (first | (with_reducible first | exact HB.out | apply below_alloc | apply pw_below_drewN | apply below_drew1 | refine below_set ?_ (IsS86.ge HI0.out)) | exact HB.out)); rintro e w43 ⟨rfl, hi, hb, hk⟩; refine ⟨_, rfl, ?_⟩; have n0_ := Aside0.mk (Kd.R_mono (Kd.R_keep (IsS86.apart (show IsS86 w0 _ g s0_0 t694 from by repeat (first | (with_reducible first | exact HI0.out | apply IsS86.alloc | apply IsS86.drewN | apply IsS86.drew | apply IsS86.set_1) | exact HI0.out)) (by (with_reducible repeat (first | apply Kd.R_alloc | apply Kd.R_drewN | apply Kd.R_drew)); exact HO_4.out) (by decide)) hk (fun _ h => h.2)) (fun _ h => h.1)); have n1_ := Aside0.mk (Kd.R_mono (Kd.R_keep (IsS86.apart (show IsS86 w0 _ g s0_0 t694 from by repeat (first | (with_reducible first | exact HI0.out | apply IsS86.alloc | apply IsS86.drewN | apply IsS86.drew | apply IsS86.set_1) | exact HI0.out)) (by (with_reducible repeat (first | apply Kd.R_alloc | apply Kd.R_drewN | apply Kd.R_drew)); exact HO_8.out) (by decide)) hk (fun _ h => h.2)) (fun _ h => h.1)); have n2_ := Aside0.mk (KeepBut.trans (by repeat (first | (with_reducible first | exact HK.out | apply KeepBut.set_ | apply keep_drewN | apply keep_drew | apply keep_alloc) | exact HK.out)) hk (.inl rfl)); have n3_ := Aside0.mk (hb); have n4_ := Aside0.mk (hi); clear HO_4; clear HO_8; clear HK; clear HB; clear HI0; have HO_4 := n0_; have HO_8 := n1_; have HK := n2_; have HB := n3_; have HI0 := n4_; clear n0_ n1_ n2_ n3_ n4_; (try clear hb); (try clear hb2); (try clear hk); (try clear hi)) | ((with_reducible refine gate_callee (f := 59) rfl ?_); refine goesL_ (some 64) rfl rfl Try.func59 (by kernel_rfl) rfl #[.pointer (some ⟨g, 0, none⟩)] rfl (by (try simp only [List.map_toArray, List.map_cons, List.map_nil]); first | done | rfl | (simp only [List.length_drop, List.length_take]; rfl)) ?_; (with_reducible refine (storagebarterplay_Dice_Shard.calls g s0_0 t696 t697 t698 w0 _ ?side1 ?side2 A38.out).mono ?_); (case side1 => repeat (first | (with_reducible first | exact HI0.out | apply IsS86.alloc | apply IsS86.drewN | apply IsS86.drew | apply IsS86.set_1) | exact HI0.out)); (case side2 => repeat (first | (with_reducible first | exact HB.out | apply below_alloc | apply pw_below_drewN | apply below_drew1 | refine below_set ?_ (IsS86.ge HI0.out)) | exact HB.out)); rintro e w44 ⟨rfl, hi, hb, hk⟩; refine ⟨_, rfl, ?_⟩; have n0_ := Aside0.mk (Kd.R_mono (Kd.R_keep (IsS86.apart (show IsS86 w0 _ g s0_0 t696 from by repeat (first | (with_reducible first | exact HI0.out | apply IsS86.alloc | apply IsS86.drewN | apply IsS86.drew | apply IsS86.set_1) | exact HI0.out)) (by (with_reducible repeat (first | apply Kd.R_alloc | apply Kd.R_drewN | apply Kd.R_drew)); exact HO_4.out) (by decide)) hk (fun _ h => h.2)) (fun _ h => h.1)); have n1_ := Aside0.mk (Kd.R_mono (Kd.R_keep (IsS86.apart (show IsS86 w0 _ g s0_0 t696 from by repeat (first | (with_reducible first | exact HI0.out | apply IsS86.alloc | apply IsS86.drewN | apply IsS86.drew | apply IsS86.set_1) | exact HI0.out)) (by (with_reducible repeat (first | apply Kd.R_alloc | apply Kd.R_drewN | apply Kd.R_drew)); exact HO_8.out) (by decide)) hk (fun _ h => h.2)) (fun _ h => h.1)); have n2_ := Aside0.mk (KeepBut.trans (by repeat (first | (with_reducible first | exact HK.out | apply KeepBut.set_ | apply keep_drewN | apply keep_drew | apply keep_alloc) | exact HK.out)) hk (.inl rfl)); have n3_ := Aside0.mk (hb); have n4_ := Aside0.mk (hi); clear HO_4; clear HO_8; clear HK; clear HB; clear HI0; have HO_4 := n0_; have HO_8 := n1_; have HK := n2_; have HB := n3_; have HI0 := n4_; clear n0_ n1_ n2_ n3_ n4_; (try clear hb); (try clear hb2); (try clear hk); (try clear hi)) | ((with_reducible refine gate_builtin (b := .append) (xs := #[.tmp 52, .tmp 66]) rfl ?_); at_builtin; refine Kd.R_append k72 w.heap.size rfl (.tmp 52) (.tmp 66) 52 72 (.agg #[(.int .i64 0), (.int .i64 0), (.int .i64 0), (.int .i64 0), (.string ⟨#[]⟩)]) 48 rfl Try.underlying52 info72 rfl (by decide) (by omega) u8 x8_2 (⟨wrap64 (1 + t689), wrap64 (1 + t691), t693, t695, t697⟩ : S72) [.int .i64 (wrap64 (1 + t689)), .int .i64 (wrap64 (1 + t691)), .int .i64 t693, .int .i64 t695, .string t697] (fun _ => True) (fun _ => False) rfl rfl ?aP (fun _ hk => hk.elim) ?aF ?aO (Below.refl _ _) ?aS ?aL ?_; (case aP => exact k72_mkM _ _ _ (⟨wrap64 (1 + t689), wrap64 (1 + t691), t693, t695, t697⟩ : S72)); (case aF => exact (fun _ _ => trivial)); (case aO => exact (by (with_reducible repeat (first | apply Kd.R_alloc | apply Kd.R_drewN | apply Kd.R_drew)); exact HO_8.out)); (case aS => exact (keep_size (w := w) (g := g) (row := none) (by repeat (first | (with_reducible first | exact HK.out | apply KeepBut.set_ | apply keep_drewN | apply keep_drew | apply keep_alloc) | exact HK.out)))); (case aL => have := LMc39.out; omega); intro v700 w45 ho hb hg hat; rw [← Ny699.out] at ho; have n0_ := Aside0.mk (Kd.R_over' (by (with_reducible repeat (first | apply Kd.R_alloc | apply Kd.R_drewN | apply Kd.R_drew)); exact HO_4.out) (Kd.R_typed (by (with_reducible repeat (first | apply Kd.R_alloc | apply Kd.R_drewN | apply Kd.R_drew)); exact HO_8.out)) (by decide) hg); have n1_ := Aside0.mk (IsS86.grown (by repeat (first | (with_reducible first | exact HI0.out | apply IsS86.alloc | apply IsS86.drewN | apply IsS86.drew | apply IsS86.set_1) | exact HI0.out)) hg (IsS86.own_ne HI0.out HO_8.out (by decide))); have n2_ := Aside0.mk (below_weaken (by repeat (first | (with_reducible first | exact HB.out | apply below_alloc | apply pw_below_drewN | apply below_drew1 | refine below_set ?_ (IsS86.ge HI0.out)) | exact HB.out)) HL.out hb); have n3_ := Aside0.mk (KeepBut.trans (by repeat (first | (with_reducible first | exact HK.out | apply KeepBut.set_ | apply keep_drewN | apply keep_drew | apply keep_alloc) | exact HK.out)) (KeepBut.of_grown hg g) (Kd.R_base2 HO_8.out)); have n4_ := Aside0.mk (ho); clear HO_4; clear HI0; clear HB; clear HK; clear HO_8; have HO_4 := n0_; have HI0 := n1_; have HB := n2_; have HK := n3_; have HO701 := n4_; clear n0_ n1_ n2_ n3_ n4_; clear ho hb hg hat))
                go_roundg k2
                case measure => have := HK1.out; have := HK2.out; omega
                case rel => exact ⟨(y699), (wrap64 (x9_2 - 1)), (t698), (by first | rfl | (simp; done) | (simp [*]; done)), H', ⟨by have := HK1.out; have := HK2.out; omega⟩, ⟨by (with_reducible repeat (first | apply Kd.R_alloc | apply Kd.R_drewN | apply Kd.R_drew)); exact HO_4.out⟩, ⟨by (with_reducible repeat (first | apply Kd.R_alloc | apply Kd.R_drewN | apply Kd.R_drew)); exact HO701.out⟩, ⟨by repeat (first | (with_reducible first | exact HI0.out | apply IsS86.alloc | apply IsS86.drewN | apply IsS86.drew | apply IsS86.set_1) | exact HI0.out)⟩, ⟨by repeat (first | (with_reducible first | exact HK.out | apply KeepBut.set_ | apply keep_drewN | apply keep_drew | apply keep_alloc) | exact HK.out)⟩, ⟨by repeat (first | (with_reducible first | exact HB.out | apply below_alloc | apply pw_below_drewN | apply below_drew1 | refine below_set ?_ (IsS86.ge HI0.out)) | exact HB.out)⟩⟩
              · rw [if_neg c39] at H
                exact absurd H (by simp)
            · rw [if_neg c33] at H
              have c33b0 : decide (0 < x9_2) = false := decide_eq_false c33
              clear c33
              simp only [Option.some.injEq, Prod.mk.injEq] at H
              obtain ⟨rfl, rfl, rfl⟩ := H
              go_wp2
              go_ret2
              exact ⟨_, _, by first | rfl | (simp [errW_none, errW_some] <;> rfl) | (simp [*, errW_none, errW_some] <;> rfl), by (with_reducible repeat (first | apply Kd.R_alloc | apply Kd.R_drewN | apply Kd.R_drew)); exact HO_4.out, by (with_reducible repeat (first | apply Kd.R_alloc | apply Kd.R_drewN | apply Kd.R_drew)); exact HO_8.out, by repeat (first | (with_reducible first | exact HI0.out | apply IsS86.alloc | apply IsS86.drewN | apply IsS86.drew | apply IsS86.set_1) | exact HI0.out), by repeat (first | (with_reducible first | exact HB.out | apply below_alloc | apply pw_below_drewN | apply below_drew1 | refine below_set ?_ (IsS86.ge HI0.out)) | exact HB.out), by repeat (first | (with_reducible first | exact HK.out | apply KeepBut.set_ | apply keep_drewN | apply keep_drew | apply keep_alloc) | exact HK.out)⟩

end Go.Proofs.Ytlkgmfhgnfgmiaa.Q

namespace Go.Proofs.Ytlkgmfhgnfgmiaa.Q
open Go.RowKit Go.Proofs.YtlkgmfhgnfgmiaaW.PrintWords Go.Proofs.YtlkgmfhgnfgmiaaW.PrintLast Go.Proofs.YtlkgmfhgnfgmiaaW.PrintMore
attribute [local go_sem] max2_int min2_int max_two min_two max_three min_three max_four min_four   -- for this text's walks alone
set_option linter.unusedVariables false
set_option linter.unusedSimpArgs false

/-! ### storagebarterref28_SameInts: function 27 -/
def storagebarterref28_SameInts.l0 : Nat → List Int → List Int → Int → Option (Bool)
  | 0, _, _, _ => none
  | k + 1, x0, x1, x5 => if x5 < (x0.length : Int) then (if 0 ≤ x5 then (if x5 < (x1.length : Int) then (if (rd x0 x5) = (rd x1 x5) then (storagebarterref28_SameInts.l0 k x0 x1 (wrap64 (x5 + 1))) else (some false)) else (none)) else (none)) else (some true)
def storagebarterref28_SameInts.f (k : Nat) (l0 : List Int) (l1 : List Int) : Option (Bool) := if (l0.length : Int) = (l1.length : Int) then (storagebarterref28_SameInts.l0 k l0 l1 0) else (some false)
theorem storagebarterref28_SameInts.mono_l : ∀ k, (∀ y0 y1 y2, LeO (storagebarterref28_SameInts.l0 k y0 y1 y2) (storagebarterref28_SameInts.l0 (k + 1) y0 y1 y2))
  | 0 => fun _ _ _ r h => by simp [storagebarterref28_SameInts.l0] at h
  | k + 1 => by
    have ih0 := storagebarterref28_SameInts.mono_l k
    · intro y0 y1 y2
      unfold storagebarterref28_SameInts.l0
      repeat' first
      | (with_reducible exact ih0 _ _ _)
      | (with_reducible exact LeO.refl _)
      | (with_reducible exact LeO.none _)
      | (with_reducible refine LeO.ite ?_ ?_)
      | (with_reducible refine LeO.bind ?_ (fun _ => ?_))
      | exact ih0 _ _ _
      | exact LeO.none _
      | refine LeO.ite ?_ ?_
      | refine LeO.bind ?_ (fun _ => ?_)
theorem storagebarterref28_SameInts.mono : ∀ a0 a1 k, LeO (storagebarterref28_SameInts.f k a0 a1) (storagebarterref28_SameInts.f (k + 1) a0 a1) := by
  intro a0 a1 k
  have ih0 := storagebarterref28_SameInts.mono_l k
  unfold storagebarterref28_SameInts.f
  repeat' first
      | (with_reducible exact ih0 _ _ _)
      | (with_reducible exact LeO.refl _)
      | (with_reducible exact LeO.none _)
      | (with_reducible refine LeO.ite ?_ ?_)
      | (with_reducible refine LeO.bind ?_ (fun _ => ?_))
      | exact ih0 _ _ _
      | exact LeO.none _
      | refine LeO.ite ?_ ?_
      | refine LeO.bind ?_ (fun _ => ?_)
set_option maxHeartbeats 8000000 in
set_option maxRecDepth 100000 in
theorem storagebarterref28_SameInts.calls (k : Nat) (A0 : Option Addr) (c0 : Nat) (l0 : List Int) (A1 : Option Addr) (c1 : Nat) (l1 : List Int) (r : Bool) (w : World) (hr0 : Kd.C (Kd.int .i64) w A0 l0.length l0) (hc0 : l0.length ≤ c0) (hr1 : Kd.C (Kd.int .i64) w A1 l1.length l1) (hc1 : l1.length ≤ c1) (h : storagebarterref28_SameInts.f k l0 l1 = some r) :
    Calls Try.prog 27 #[.slice A0 l0.length c0, .slice A1 l1.length c1] w fun e w' => e = .returned (.bool r) ∧ Drawn0 w w' := by
  have HR0 := Aside0.mk hr0
  have HC0 := Aside0.mk hc0
  clear hr0 hc0
  have HR1 := Aside0.mk hr1
  have HC1 := Aside0.mk hc1
  clear hr1 hc1
  have H : (if (l0.length : Int) = (l1.length : Int) then (storagebarterref28_SameInts.l0 k l0 l1 0) else (some false)) = some r := h
  clear h
  by_cases c3 : (l0.length : Int) = (l1.length : Int)
  · rw [if_pos c3] at H
    have c3b0 : ((l0.length : Int) == (l1.length : Int)) = true := beq_iff_eq.mpr c3
    have c3b1 : ((l0.length : Int) != (l1.length : Int)) = false := bne_eq_false_iff_eq.mpr c3
    have c3b2 : (l0.length == l1.length) = true := by first | simpa using c3 | (simp at c3 ⊢; omega)
    clear c3
    have H' := Aside0.mk H
    clear H
    go_enter Try.func27, Try.ntmps27
    go_wp2
    repeat (go_quiet (fail); try go_wp2)
    go_loopg [5] k (fun kq v5 w' => ∃ (x5_1 : Int), v5 = .int .i64 x5_1 ∧ Aside0 (storagebarterref28_SameInts.l0 kq l0 l1 x5_1 = some r) ∧ Aside0 (kq ≤ k) ∧ Drawn0 w w')
    case atStart => exact ⟨(0), (by first | rfl | (simp; done) | (simp [*]; done)), H', ⟨Nat.le_refl _⟩, by repeat (first | exact Drawn0.refl _ | apply Drawn0.step)⟩
    case round =>
      clear H'
      try clear c1
      try clear c2
      try clear p2
      try clear c3
      try clear c3b0
      try clear c3b1
      try clear c3b2
      obtain ⟨x5_1, rfl, HA, HK1, ⟨m1, rfl⟩⟩ := hrel
      cases gk with
      | zero => exact absurd HA.out (by simp [storagebarterref28_SameInts.l0])
      | succ k1 =>
        have H := HA.out
        clear HA
        simp only [storagebarterref28_SameInts.l0] at H
        by_cases c4 : x5_1 < (l0.length : Int)
        · rw [if_pos c4] at H
          have c4b0 : decide (x5_1 < (l0.length : Int)) = true := decide_eq_true c4
          clear c4
          by_cases c5 : 0 ≤ x5_1
          · rw [if_pos c5] at H
            have c5b0 : decide (0 ≤ x5_1) = true := decide_eq_true c5
            clear c5
            by_cases c6 : x5_1 < (l1.length : Int)
            · rw [if_pos c6] at H
              have c6b0 : decide (x5_1 < (l1.length : Int)) = true := decide_eq_true c6
              clear c6
              by_cases c7 : (rd l0 x5_1) = (rd l1 x5_1)
              · rw [if_pos c7] at H
                have c7b0 : ((rd l0 x5_1) == (rd l1 x5_1)) = true := beq_iff_eq.mpr c7
                have c7b1 : ((rd l0 x5_1) != (rd l1 x5_1)) = false := bne_eq_false_iff_eq.mpr c7
                clear c7
                have H' := Aside0.mk H
                clear H
                have p702 : 0 ≤ (x5_1 : Int) := of_decide_eq_true (by first | (with_reducible assumption) | assumption)
                have q702 : x5_1 < (l0.length : Int) := of_decide_eq_true (by first | (with_reducible assumption) | assumption)
                obtain ⟨ad702, e702, hx702_0⟩ := Kd.at_int HR0.out x5_1 p702 q702
                cases e702
                replace p702 := eq_true p702
                replace q702 := eq_true q702
                have p703 : 0 ≤ (x5_1 : Int) := of_decide_eq_true (by first | (with_reducible assumption) | assumption)
                have q703 : x5_1 < (l1.length : Int) := of_decide_eq_true (by first | (with_reducible assumption) | assumption)
                obtain ⟨ad703, e703, hx703_0⟩ := Kd.at_int HR1.out x5_1 p703 q703
                cases e703
                replace p703 := eq_true p703
                replace q703 := eq_true q703
                go_wp2
                repeat (go_quiet (fail); try go_wp2)
                go_roundg k1
                case measure => have := HK1.out; omega
                case rel => exact ⟨(wrap64 (x5_1 + 1)), (by first | rfl | (simp; done) | (simp [*]; done)), H', ⟨by have := HK1.out; omega⟩, by repeat (first | exact Drawn0.refl _ | apply Drawn0.step)⟩
              · rw [if_neg c7] at H
                have c7b0 : ((rd l0 x5_1) == (rd l1 x5_1)) = false := beq_eq_false_iff_ne.mpr c7
                have c7b1 : ((rd l0 x5_1) != (rd l1 x5_1)) = true := bne_iff_ne.mpr c7
                obtain rfl := Option.some.inj H
                have p702 : 0 ≤ (x5_1 : Int) := of_decide_eq_true (by first | (with_reducible assumption) | assumption)
                have q702 : x5_1 < (l0.length : Int) := of_decide_eq_true (by first | (with_reducible assumption) | assumption)
                obtain ⟨ad702, e702, hx702_0⟩ := Kd.at_int HR0.out x5_1 p702 q702
                cases e702
                replace p702 := eq_true p702
                replace q702 := eq_true q702
                have p703 : 0 ≤ (x5_1 : Int) := of_decide_eq_true (by first | (with_reducible assumption) | assumption)
                have q703 : x5_1 < (l1.length : Int) := of_decide_eq_true (by first | (with_reducible assumption) | assumption)
                obtain ⟨ad703, e703, hx703_0⟩ := Kd.at_int HR1.out x5_1 p703 q703
                cases e703
                replace p703 := eq_true p703
                replace q703 := eq_true q703
                go_wp2
                repeat (go_quiet (fail); try go_wp2)
                go_ret
                exact ⟨by first | rfl | (simp; done) | (simp [*]; done), by repeat (first | exact Drawn0.refl _ | apply Drawn0.step)⟩
            · rw [if_neg c6] at H
              exact absurd H (by simp)
          · rw [if_neg c5] at H
            exact absurd H (by simp)
        · rw [if_neg c4] at H
          have c4b0 : decide (x5_1 < (l0.length : Int)) = false := decide_eq_false c4
          clear c4
          obtain rfl := Option.some.inj H
          go_wp2
          repeat (go_quiet (fail); try go_wp2)
          go_ret
          exact ⟨by first | rfl | (simp; done) | (simp [*]; done), by repeat (first | exact Drawn0.refl _ | apply Drawn0.step)⟩
  · rw [if_neg c3] at H
    have c3b0 : ((l0.length : Int) == (l1.length : Int)) = false := beq_eq_false_iff_ne.mpr c3
    have c3b1 : ((l0.length : Int) != (l1.length : Int)) = true := bne_iff_ne.mpr c3
    have c3b2 : (l0.length == l1.length) = false := by first | simpa using c3 | (simp at c3 ⊢; omega)
    obtain rfl := Option.some.inj H
    go_enter Try.func27, Try.ntmps27
    go_wp2
    repeat (go_quiet (fail); try go_wp2)
    go_ret
    exact ⟨by first | rfl | (simp; done) | (simp [*]; done), by repeat (first | exact Drawn0.refl _ | apply Drawn0.step)⟩

end Go.Proofs.Ytlkgmfhgnfgmiaa.Q

namespace Go.Proofs.Ytlkgmfhgnfgmiaa.Q
open Go.RowKit Go.Proofs.YtlkgmfhgnfgmiaaW.PrintWords Go.Proofs.YtlkgmfhgnfgmiaaW.PrintLast Go.Proofs.YtlkgmfhgnfgmiaaW.PrintMore
attribute [local go_sem] max2_int min2_int max_two min_two max_three min_three max_four min_four   -- for this text's walks alone
set_option linter.unusedVariables false
set_option linter.unusedSimpArgs false

/-! ### storagebarterlaw39_PruneKeeps: function 6 -/
mutual
def storagebarterlaw39_PruneKeeps.l0 : Nat → List (S29) → Int → Int → List (S29) → List (S29) → Int → Int → Option (Bool)
  | 0, _, _, _, _, _, _, _ => none
  | k + 1, x6, x8, x9, x10, x49, x50, x51 => if x51 < x50 then (if 0 ≤ x51 then (if x51 < (x49.length : Int) then (if ((rd_T29 x49 x51).f0) = x8 then ((prune_Numbers.f k x6 x8).bind fun t725 => (storagebarterlaw39_PruneKeeps.l1 k x6 x8 x9 x10 0 x49 x50 x51 t725 (t725.length : Int) 0 ((rd_T29 x49 x51).f0) ((rd_T29 x49 x51).f1) ((rd_T29 x49 x51).f2) ((rd_T29 x49 x51).f3) ((rd_T29 x49 x51).f4))) else (some false)) else (none)) else (none)) else ((prune_Numbers.f k x10 x8).bind fun t729 => ((prune_Numbers.f k x6 x8).bind fun t732 => ((prune_Keep.f k x6 x8 x9).bind fun t735 => ((storagebarterref28_SameInts.f k t729 t735).bind fun t738 => (if t738 = true then (if (t729.length : Int) = (mn x9 (t732.length : Int)) then ((prune_Numbers.f k x10 (wrap64 ((Int.tmod x8 3) + 1))).bind fun t739 => ((prune_Numbers.f k x6 (wrap64 ((Int.tmod x8 3) + 1))).bind fun t742 => ((storagebarterref28_SameInts.f k t739 t742).bind fun t745 => (some t745)))) else (some false)) else (some false))))))
def storagebarterlaw39_PruneKeeps.l1 : Nat → List (S29) → Int → Int → List (S29) → Int → List (S29) → Int → Int → List Int → Int → Int → Int → Int → Int → List (S48) → List (S74) → Option (Bool)
  | 0, _, _, _, _, _, _, _, _, _, _, _, _, _, _, _, _ => none
  | k + 1, x6, x8, x9, x10, x14, x49, x50, x51, x61, x62, x63, x725000, x725001, x725002, x725003, x725004 => if x63 < x62 then (if 0 ≤ x63 then (if x63 < (x61.length : Int) then (if (rd x61 x63) > x725001 then (storagebarterlaw39_PruneKeeps.l1 k x6 x8 x9 x10 (wrap64 (x14 + 1)) x49 x50 x51 x61 x62 (wrap64 (x63 + 1)) x725000 x725001 x725002 x725003 x725004) else (storagebarterlaw39_PruneKeeps.l1 k x6 x8 x9 x10 x14 x49 x50 x51 x61 x62 (wrap64 (x63 + 1)) x725000 x725001 x725002 x725003 x725004)) else (none)) else (none)) else (if x14 < x9 then (some false) else (storagebarterlaw39_PruneKeeps.l0 k x6 x8 x9 x10 x49 x50 (wrap64 (x51 + 1))))
end
def storagebarterlaw39_PruneKeeps.f (k : Nat) (l0 : List Int) (a1 : Int) : Option (Bool) := (storagebarterlaw39_sane.f k).bind fun t704 => (if t704 = true then ((storagebarterplay_New.f l0).bind fun bt705 => ((storagebarterlaw39_made.f k bt705.1 bt705.2).bind fun bt708 => ((storagebarterplay_Dice_Pick.f bt705.1 bt708.2.2 3).bind fun bt715 => ((prune_Drop.f k bt708.1 (wrap64 (1 + bt715.1)) (Int.tmod (wrap64 (a1)) 5)).bind fun bt717 => (if (wrap64 ((bt717.1.length : Int) + (bt717.2.length : Int))) = (bt708.1.length : Int) then (storagebarterlaw39_PruneKeeps.l0 k bt708.1 (wrap64 (1 + bt715.1)) (Int.tmod (wrap64 (a1)) 5) bt717.1 bt717.2 (bt717.2.length : Int) 0) else (some false)))))) else (some false))
theorem storagebarterlaw39_PruneKeeps.mono_l : ∀ k, (∀ y0 y1 y2 y3 y4 y5 y6, LeO (storagebarterlaw39_PruneKeeps.l0 k y0 y1 y2 y3 y4 y5 y6) (storagebarterlaw39_PruneKeeps.l0 (k + 1) y0 y1 y2 y3 y4 y5 y6)) ∧ (∀ y0 y1 y2 y3 y4 y5 y6 y7 y8 y9 y10 y11 y12 y13 y14 y15, LeO (storagebarterlaw39_PruneKeeps.l1 k y0 y1 y2 y3 y4 y5 y6 y7 y8 y9 y10 y11 y12 y13 y14 y15) (storagebarterlaw39_PruneKeeps.l1 (k + 1) y0 y1 y2 y3 y4 y5 y6 y7 y8 y9 y10 y11 y12 y13 y14 y15))
  | 0 => ⟨fun _ _ _ _ _ _ _ r h => by simp [storagebarterlaw39_PruneKeeps.l0] at h, fun _ _ _ _ _ _ _ _ _ _ _ _ _ _ _ _ r h => by simp [storagebarterlaw39_PruneKeeps.l1] at h⟩
  | k + 1 => by
    obtain ⟨ih0, ih1⟩ := storagebarterlaw39_PruneKeeps.mono_l k
    refine ⟨?_, ?_⟩
    · intro y0 y1 y2 y3 y4 y5 y6
      unfold storagebarterlaw39_PruneKeeps.l0
      repeat' first
      | (with_reducible exact ih0 _ _ _ _ _ _ _)
      | (with_reducible exact ih1 _ _ _ _ _ _ _ _ _ _ _ _ _ _ _ _)
      | (with_reducible exact prune_Drop.mono _ _ _ _)
      | (with_reducible exact prune_Keep.mono _ _ _ _)
      | (with_reducible exact prune_Numbers.mono _ _ _)
      | (with_reducible exact storagebarterlaw39_made.mono _ _ _)
      | (with_reducible exact storagebarterlaw39_sane.mono _)
      | (with_reducible exact storagebarterref28_SameInts.mono _ _ _)
      | (with_reducible exact LeO.refl _)
      | (with_reducible exact LeO.none _)
      | (with_reducible refine LeO.ite ?_ ?_)
      | (with_reducible refine LeO.bind ?_ (fun _ => ?_))
      | exact ih0 _ _ _ _ _ _ _
      | exact ih1 _ _ _ _ _ _ _ _ _ _ _ _ _ _ _ _
      | exact prune_Drop.mono _ _ _ _
      | exact prune_Keep.mono _ _ _ _
      | exact prune_Numbers.mono _ _ _
      | exact storagebarterlaw39_made.mono _ _ _
      | exact storagebarterlaw39_sane.mono _
      | exact storagebarterref28_SameInts.mono _ _ _
      | exact LeO.none _
      | refine LeO.ite ?_ ?_
      | refine LeO.bind ?_ (fun _ => ?_)
    · intro y0 y1 y2 y3 y4 y5 y6 y7 y8 y9 y10 y11 y12 y13 y14 y15
      unfold storagebarterlaw39_PruneKeeps.l1
      repeat' first
      | (with_reducible exact ih0 _ _ _ _ _ _ _)
      | (with_reducible exact ih1 _ _ _ _ _ _ _ _ _ _ _ _ _ _ _ _)
      | (with_reducible exact prune_Drop.mono _ _ _ _)
      | (with_reducible exact prune_Keep.mono _ _ _ _)
      | (with_reducible exact prune_Numbers.mono _ _ _)
      | (with_reducible exact storagebarterlaw39_made.mono _ _ _)
      | (with_reducible exact storagebarterlaw39_sane.mono _)
      | (with_reducible exact storagebarterref28_SameInts.mono _ _ _)
      | (with_reducible exact LeO.refl _)
      | (with_reducible exact LeO.none _)
      | (with_reducible refine LeO.ite ?_ ?_)
      | (with_reducible refine LeO.bind ?_ (fun _ => ?_))
      | exact ih0 _ _ _ _ _ _ _
      | exact ih1 _ _ _ _ _ _ _ _ _ _ _ _ _ _ _ _
      | exact prune_Drop.mono _ _ _ _
      | exact prune_Keep.mono _ _ _ _
      | exact prune_Numbers.mono _ _ _
      | exact storagebarterlaw39_made.mono _ _ _
      | exact storagebarterlaw39_sane.mono _
      | exact storagebarterref28_SameInts.mono _ _ _
      | exact LeO.none _
      | refine LeO.ite ?_ ?_
      | refine LeO.bind ?_ (fun _ => ?_)
theorem storagebarterlaw39_PruneKeeps.mono : ∀ a0 a1 k, LeO (storagebarterlaw39_PruneKeeps.f k a0 a1) (storagebarterlaw39_PruneKeeps.f (k + 1) a0 a1) := by
  intro a0 a1 k
  obtain ⟨ih0, ih1⟩ := storagebarterlaw39_PruneKeeps.mono_l k
  unfold storagebarterlaw39_PruneKeeps.f
  repeat' first
      | (with_reducible exact ih0 _ _ _ _ _ _ _)
      | (with_reducible exact ih1 _ _ _ _ _ _ _ _ _ _ _ _ _ _ _ _)
      | (with_reducible exact prune_Drop.mono _ _ _ _)
      | (with_reducible exact prune_Keep.mono _ _ _ _)
      | (with_reducible exact prune_Numbers.mono _ _ _)
      | (with_reducible exact storagebarterlaw39_made.mono _ _ _)
      | (with_reducible exact storagebarterlaw39_sane.mono _)
      | (with_reducible exact storagebarterref28_SameInts.mono _ _ _)
      | (with_reducible exact LeO.refl _)
      | (with_reducible exact LeO.none _)
      | (with_reducible refine LeO.ite ?_ ?_)
      | (with_reducible refine LeO.bind ?_ (fun _ => ?_))
      | exact ih0 _ _ _ _ _ _ _
      | exact ih1 _ _ _ _ _ _ _ _ _ _ _ _ _ _ _ _
      | exact prune_Drop.mono _ _ _ _
      | exact prune_Keep.mono _ _ _ _
      | exact prune_Numbers.mono _ _ _
      | exact storagebarterlaw39_made.mono _ _ _
      | exact storagebarterlaw39_sane.mono _
      | exact storagebarterref28_SameInts.mono _ _ _
      | exact LeO.none _
      | refine LeO.ite ?_ ?_
      | refine LeO.bind ?_ (fun _ => ?_)
set_option maxHeartbeats 8000000 in
set_option maxRecDepth 100000 in
theorem storagebarterlaw39_PruneKeeps.calls (k : Nat) (A0 : Option Addr) (c0 : Nat) (l0 : List Int) (a1 : Int) (r : Bool) (w : World) (hr0 : Kd.C (Kd.int .u8) w A0 l0.length l0) (hc0 : l0.length ≤ c0) (h : storagebarterlaw39_PruneKeeps.f k l0 a1 = some r) (hrt : r = true) :
    Calls Try.prog 6 #[.slice A0 l0.length c0, .int .u8 a1] w fun e w' => e = .returned (.bool r) ∧ Below w.heap.size w w' := by
  have hu29 := Try.underlying29
  have HR0 := Aside0.mk hr0
  have HC0 := Aside0.mk hc0
  clear hr0 hc0
  have HB := Aside0.mk (Below.refl w.heap.size w)
  have H : ((storagebarterlaw39_sane.f k).bind fun t704 => (if t704 = true then ((storagebarterplay_New.f l0).bind fun bt705 => ((storagebarterlaw39_made.f k bt705.1 bt705.2).bind fun bt708 => ((storagebarterplay_Dice_Pick.f bt705.1 bt708.2.2 3).bind fun bt715 => ((prune_Drop.f k bt708.1 (wrap64 (1 + bt715.1)) (Int.tmod (wrap64 (a1)) 5)).bind fun bt717 => (if (wrap64 ((bt717.1.length : Int) + (bt717.2.length : Int))) = (bt708.1.length : Int) then (storagebarterlaw39_PruneKeeps.l0 k bt708.1 (wrap64 (1 + bt715.1)) (Int.tmod (wrap64 (a1)) 5) bt717.1 bt717.2 (bt717.2.length : Int) 0) else (some false)))))) else (some false))) = some r := h
  clear h
  have RT_ := Aside0.mk hrt
  clear hrt
  replace H := Option.bind_eq_some_iff.mp H
  obtain ⟨t704, A30, H⟩ := H
  replace H : (if t704 = true then ((storagebarterplay_New.f l0).bind fun bt705 => ((storagebarterlaw39_made.f k bt705.1 bt705.2).bind fun bt708 => ((storagebarterplay_Dice_Pick.f bt705.1 bt708.2.2 3).bind fun bt715 => ((prune_Drop.f k bt708.1 (wrap64 (1 + bt715.1)) (Int.tmod (wrap64 (a1)) 5)).bind fun bt717 => (if (wrap64 ((bt717.1.length : Int) + (bt717.2.length : Int))) = (bt708.1.length : Int) then (storagebarterlaw39_PruneKeeps.l0 k bt708.1 (wrap64 (1 + bt715.1)) (Int.tmod (wrap64 (a1)) 5) bt717.1 bt717.2 (bt717.2.length : Int) 0) else (some false)))))) else (some false)) = some r := H
  have A3 := Aside0.mk A30
  clear A30
  by_cases c4 : t704 = true
  · subst c4
    have H1 : ((storagebarterplay_New.f l0).bind fun bt705 => ((storagebarterlaw39_made.f k bt705.1 bt705.2).bind fun bt708 => ((storagebarterplay_Dice_Pick.f bt705.1 bt708.2.2 3).bind fun bt715 => ((prune_Drop.f k bt708.1 (wrap64 (1 + bt715.1)) (Int.tmod (wrap64 (a1)) 5)).bind fun bt717 => (if (wrap64 ((bt717.1.length : Int) + (bt717.2.length : Int))) = (bt708.1.length : Int) then (storagebarterlaw39_PruneKeeps.l0 k bt708.1 (wrap64 (1 + bt715.1)) (Int.tmod (wrap64 (a1)) 5) bt717.1 bt717.2 (bt717.2.length : Int) 0) else (some false)))))) = some r := by rw [if_pos rfl] at H; exact H
    clear H
    have H := H1
    clear H1
    replace H := Option.bind_eq_some_iff.mp H
    obtain ⟨⟨t705, t706⟩, A50, H⟩ := H
    replace H : ((storagebarterlaw39_made.f k t705 t706).bind fun bt708 => ((storagebarterplay_Dice_Pick.f t705 bt708.2.2 3).bind fun bt715 => ((prune_Drop.f k bt708.1 (wrap64 (1 + bt715.1)) (Int.tmod (wrap64 (a1)) 5)).bind fun bt717 => (if (wrap64 ((bt717.1.length : Int) + (bt717.2.length : Int))) = (bt708.1.length : Int) then (storagebarterlaw39_PruneKeeps.l0 k bt708.1 (wrap64 (1 + bt715.1)) (Int.tmod (wrap64 (a1)) 5) bt717.1 bt717.2 (bt717.2.length : Int) 0) else (some false))))) = some r := H
    have A5 := Aside0.mk A50
    clear A50
    replace H := Option.bind_eq_some_iff.mp H
    obtain ⟨⟨t708, t711, t714⟩, A60, H⟩ := H
    replace H : ((storagebarterplay_Dice_Pick.f t705 t714 3).bind fun bt715 => ((prune_Drop.f k t708 (wrap64 (1 + bt715.1)) (Int.tmod (wrap64 (a1)) 5)).bind fun bt717 => (if (wrap64 ((bt717.1.length : Int) + (bt717.2.length : Int))) = (t708.length : Int) then (storagebarterlaw39_PruneKeeps.l0 k t708 (wrap64 (1 + bt715.1)) (Int.tmod (wrap64 (a1)) 5) bt717.1 bt717.2 (bt717.2.length : Int) 0) else (some false)))) = some r := H
    have A6 := Aside0.mk A60
    clear A60
    replace H := Option.bind_eq_some_iff.mp H
    obtain ⟨⟨t715, t716⟩, A70, H⟩ := H
    replace H : ((prune_Drop.f k t708 (wrap64 (1 + t715)) (Int.tmod (wrap64 (a1)) 5)).bind fun bt717 => (if (wrap64 ((bt717.1.length : Int) + (bt717.2.length : Int))) = (t708.length : Int) then (storagebarterlaw39_PruneKeeps.l0 k t708 (wrap64 (1 + t715)) (Int.tmod (wrap64 (a1)) 5) bt717.1 bt717.2 (bt717.2.length : Int) 0) else (some false))) = some r := H
    have A7 := Aside0.mk A70
    clear A70
    replace H := Option.bind_eq_some_iff.mp H
    obtain ⟨⟨t717, t718⟩, A80, H⟩ := H
    replace H : (if (wrap64 ((t717.length : Int) + (t718.length : Int))) = (t708.length : Int) then (storagebarterlaw39_PruneKeeps.l0 k t708 (wrap64 (1 + t715)) (Int.tmod (wrap64 (a1)) 5) t717 t718 (t718.length : Int) 0) else (some false)) = some r := H
    have A8 := Aside0.mk A80
    clear A80
    by_cases c9 : (wrap64 ((t717.length : Int) + (t718.length : Int))) = (t708.length : Int)
    · rw [if_pos c9] at H
      have c9b0 : ((wrap64 ((t717.length : Int) + (t718.length : Int))) == (t708.length : Int)) = true := beq_iff_eq.mpr c9
      have c9b1 : ((wrap64 ((t717.length : Int) + (t718.length : Int))) != (t708.length : Int)) = false := bne_eq_false_iff_eq.mpr c9
      clear c9
      have H' := Aside0.mk H
      clear H
      go_enter Try.func6, Try.ntmps6
      go_wp2_with (first | ((with_reducible refine gate_callee (f := 23) rfl ?_); refine goesL_ (some 19) rfl rfl Try.func23 (by kernel_rfl) rfl #[] rfl (by (try simp only [List.map_toArray, List.map_cons, List.map_nil]); first | done | rfl | (simp only [List.length_drop, List.length_take]; rfl)) ?_; (with_reducible refine (storagebarterlaw39_sane.calls k  true _ A3.out).mono ?_); rintro e w10 ⟨rfl, hb⟩; refine ⟨_, rfl, ?_⟩; have n0_ := Aside0.mk (below_step (by repeat (first | (with_reducible first | exact HB.out | apply below_alloc | apply pw_below_drewN | apply below_drew1) | exact HB.out)) hb); clear HB; have HB := n0_; clear n0_; (try clear hb); (try clear hb2); (try clear hk); (try clear hi)) | ((with_reducible refine gate_callee (f := 12) rfl ?_); refine goesL_ (some 22) rfl rfl Try.func12 (by kernel_rfl) rfl #[.slice A0 l0.length c0] rfl (by (try simp only [List.map_toArray, List.map_cons, List.map_nil]); first | done | rfl | (simp only [List.length_drop, List.length_take]; rfl)) ?_; (with_reducible refine (storagebarterplay_New.calls _ _ l0 t705 t706 w _ ?side1 ?side2 ?side3 A5.out).mono ?_); (case side1 => repeat (first | (with_reducible first | exact HB.out | apply below_alloc | apply pw_below_drewN | apply below_drew1) | exact HB.out)); (case side2 => exact HR0.out); (case side3 => exact HC0.out); rintro e w11 ⟨g707, rfl, hi, hb, hb2⟩; refine ⟨_, rfl, ?_⟩; have n0_ := Aside0.mk (hb); have n1_ := Aside0.mk (hi); clear HB; have HB := n0_; have HI707 := n1_; clear n0_ n1_; (try clear hb); (try clear hb2); (try clear hk); (try clear hi)) | ((with_reducible refine gate_callee (f := 24) rfl ?_); refine goesL_ (some 25) rfl rfl Try.func24 (by kernel_rfl) rfl #[.pointer (some ⟨g707, 0, none⟩)] rfl (by (try simp only [List.map_toArray, List.map_cons, List.map_nil]); first | done | rfl | (simp only [List.length_drop, List.length_take]; rfl)) ?_; (with_reducible refine (storagebarterlaw39_made.calls k g707 t705 t706 t708 t711 t714 w _ ?side1 ?side2 A6.out).mono ?_); (case side1 => repeat (first | (with_reducible first | exact HI707.out | apply IsS86.alloc | apply IsS86.drewN | apply IsS86.drew | apply IsS86.set_1) | exact HI707.out)); (case side2 => repeat (first | (with_reducible first | exact HB.out | apply below_alloc | apply pw_below_drewN | apply below_drew1 | refine below_set ?_ (IsS86.ge HI707.out)) | exact HB.out)); rintro e w12 ⟨v709, v712, rfl, ho0, ho1, hi, hb, hk⟩; refine ⟨_, rfl, ?_⟩; have n0_ := Aside0.mk (Kd.R_lower ho0 (below_size (by repeat (first | (with_reducible first | exact HB.out | apply below_alloc | apply pw_below_drewN | apply below_drew1 | refine below_set ?_ (IsS86.ge HI707.out)) | exact HB.out)))); have n1_ := Aside0.mk (Kd.R_lower ho1 (below_size (by repeat (first | (with_reducible first | exact HB.out | apply below_alloc | apply pw_below_drewN | apply below_drew1 | refine below_set ?_ (IsS86.ge HI707.out)) | exact HB.out)))); have n2_ := Aside0.mk (hb); have n3_ := Aside0.mk (hi); clear HB; clear HI707; have HO710 := n0_; have HO713 := n1_; have HB := n2_; have HI707 := n3_; clear n0_ n1_ n2_ n3_; (try clear hb); (try clear hb2); (try clear hk); (try clear hi); (try clear ho0); (try clear ho1)) | ((with_reducible refine gate_callee (f := 14) rfl ?_); refine goesL_ (some 29) rfl rfl Try.func14 (by kernel_rfl) rfl #[.pointer (some ⟨g707, 0, none⟩), .int .i64 3] rfl (by (try simp only [List.map_toArray, List.map_cons, List.map_nil]); first | done | rfl | (simp only [List.length_drop, List.length_take]; rfl)) ?_; (with_reducible refine (storagebarterplay_Dice_Pick.calls g707 t705 t714 3 t715 t716 w _ ?side1 ?side2 A7.out).mono ?_); (case side1 => repeat (first | (with_reducible first | exact HI707.out | apply IsS86.alloc | apply IsS86.drewN | apply IsS86.drew | apply IsS86.set_1) | exact HI707.out)); (case side2 => repeat (first | (with_reducible first | exact HB.out | apply below_alloc | apply pw_below_drewN | apply below_drew1 | refine below_set ?_ (IsS86.ge HI707.out)) | exact HB.out)); rintro e w13 ⟨rfl, hi, hb, hk⟩; refine ⟨_, rfl, ?_⟩; have n0_ := Aside0.mk (Kd.R_mono (Kd.R_keep (IsS86.apart (show IsS86 w _ g707 t705 t714 from by repeat (first | (with_reducible first | exact HI707.out | apply IsS86.alloc | apply IsS86.drewN | apply IsS86.drew | apply IsS86.set_1) | exact HI707.out)) (by (with_reducible repeat (first | apply Kd.R_alloc | apply Kd.R_drewN | apply Kd.R_drew)); exact HO710.out) (by decide)) hk (fun _ h => h.2)) (fun _ h => h.1)); have n1_ := Aside0.mk (Kd.R_mono (Kd.R_keep (IsS86.apart (show IsS86 w _ g707 t705 t714 from by repeat (first | (with_reducible first | exact HI707.out | apply IsS86.alloc | apply IsS86.drewN | apply IsS86.drew | apply IsS86.set_1) | exact HI707.out)) (by (with_reducible repeat (first | apply Kd.R_alloc | apply Kd.R_drewN | apply Kd.R_drew)); exact HO713.out) (by decide)) hk (fun _ h => h.2)) (fun _ h => h.1)); have n2_ := Aside0.mk (hb); have n3_ := Aside0.mk (hi); clear HO710; clear HO713; clear HB; clear HI707; have HO710 := n0_; have HO713 := n1_; have HB := n2_; have HI707 := n3_; clear n0_ n1_ n2_ n3_; (try clear hb); (try clear hb2); (try clear hk); (try clear hi); obtain ⟨Ao14, co14, eo14⟩ := Kd.R_slice HO710.out; subst eo14) | ((with_reducible refine gate_callee (f := 25) rfl ?_); refine goesL_ (some 38) rfl rfl Try.func25 (by kernel_rfl) rfl #[.slice Ao14 t708.length co14, .int .i64 (wrap64 (1 + t715)), .int .i64 (Int.tmod (wrap64 (a1)) 5)] rfl (by (try simp only [List.map_toArray, List.map_cons, List.map_nil]); first | done | rfl | (simp only [List.length_drop, List.length_take]; rfl)) ?_; (with_reducible refine (prune_Drop.calls k _ _ t708 (wrap64 (1 + t715)) (Int.tmod (wrap64 (a1)) 5) t717 t718 _ ?side1 ?side2 A8.out).mono ?_); (case side1 => repeat (first | exact (Kd.R_reads' HO710.out).2.2 | (with_reducible refine Kd.C_alloc ?_ _) | (with_reducible refine Kd.C_drewN ?_ _) | (with_reducible refine Kd.C_drew ?_))); (case side2 => exact (Kd.R_reads' HO710.out).2.1); rintro e w15 ⟨v719, v721, rfl, ho0, ho1, hb⟩; refine ⟨_, rfl, ?_⟩; have n0_ := Aside0.mk (Kd.R_mono (Kd.R_told (Kd.R_told (Kd.R_old (by (with_reducible repeat (first | apply Kd.R_alloc | apply Kd.R_drewN | apply Kd.R_drew)); exact HO710.out) hb) (Kd.R_base ho0)) (Kd.R_base ho1)) (fun _ h_ => h_.1)); have n1_ := Aside0.mk (Kd.R_below (by (with_reducible repeat (first | apply Kd.R_alloc | apply Kd.R_drewN | apply Kd.R_drew)); exact HO713.out) hb); have n2_ := Aside0.mk (Kd.R_lower (Kd.R_new' ho0 (Kd.R_lt (by (with_reducible repeat (first | apply Kd.R_alloc | apply Kd.R_drewN | apply Kd.R_drew)); exact HO710.out))) (below_size (by repeat (first | (with_reducible first | exact HB.out | apply below_alloc | apply pw_below_drewN | apply below_drew1 | refine below_set ?_ (IsS86.ge HI707.out)) | exact HB.out)))); have n3_ := Aside0.mk (Kd.R_lower (Kd.R_new' ho1 (Kd.R_lt (by (with_reducible repeat (first | apply Kd.R_alloc | apply Kd.R_drewN | apply Kd.R_drew)); exact HO710.out))) (below_size (by repeat (first | (with_reducible first | exact HB.out | apply below_alloc | apply pw_below_drewN | apply below_drew1 | refine below_set ?_ (IsS86.ge HI707.out)) | exact HB.out)))); have n4_ := Aside0.mk (IsS86.below (by repeat (first | (with_reducible first | exact HI707.out | apply IsS86.alloc | apply IsS86.drewN | apply IsS86.drew | apply IsS86.set_1) | exact HI707.out)) hb); have n5_ := Aside0.mk (below_step (by repeat (first | (with_reducible first | exact HB.out | apply below_alloc | apply pw_below_drewN | apply below_drew1 | refine below_set ?_ (IsS86.ge HI707.out)) | exact HB.out)) hb); clear HO710; clear HO713; clear HI707; clear HB; have HO710 := n0_; have HO713 := n1_; have HO720 := n2_; have HO722 := n3_; have HI707 := n4_; have HB := n5_; clear n0_ n1_ n2_ n3_ n4_ n5_; (try clear hb); (try clear hb2); (try clear hk); (try clear hi); (try clear ho0); (try clear ho1); obtain ⟨Ao16, co16, eo16⟩ := Kd.R_slice HO720.out; subst eo16; obtain ⟨Ao17, co17, eo17⟩ := Kd.R_slice HO722.out; subst eo17))
      go_loopg [51] k (fun kq v51 w' => ∃ (x51_1 : Int), v51 = .int .i64 x51_1 ∧ Aside0 (storagebarterlaw39_PruneKeeps.l0 kq t708 (wrap64 (1 + t715)) (Int.tmod (wrap64 (a1)) 5) t717 t718 (t718.length : Int) x51_1 = some r) ∧ Aside0 (kq ≤ k) ∧ Aside0 (Kd.R k29 29 w' w.heap.size (fun k_ => some k_ ≠ ((.slice Ao16 t717.length co16) : Value).ownBlock ∧ some k_ ≠ ((.slice Ao17 t718.length co17) : Value).ownBlock) (.slice Ao14 t708.length co14) t708) ∧ Aside0 (Kd.R k29 29 w' w.heap.size (fun k_ => some k_ ≠ ((.slice Ao14 t708.length co14) : Value).ownBlock ∧ some k_ ≠ ((.slice Ao17 t718.length co17) : Value).ownBlock) (.slice Ao16 t717.length co16) t717) ∧ Aside0 (Kd.R k29 29 w' w.heap.size (fun k_ => some k_ ≠ ((.slice Ao14 t708.length co14) : Value).ownBlock ∧ some k_ ≠ ((.slice Ao16 t717.length co16) : Value).ownBlock) (.slice Ao17 t718.length co17) t718) ∧ Aside0 (Below w.heap.size w w'))
      case atStart => exact ⟨(0), (by first | rfl | (simp; done) | (simp [*]; done)), H', ⟨Nat.le_refl _⟩, ⟨by (with_reducible repeat (first | apply Kd.R_alloc | apply Kd.R_drewN | apply Kd.R_drew)); exact Kd.R_mono HO710.out (fun _ hk => ⟨hk.1.2, hk.2⟩)⟩, ⟨by (with_reducible repeat (first | apply Kd.R_alloc | apply Kd.R_drewN | apply Kd.R_drew)); exact Kd.R_mono HO720.out (fun _ hk => ⟨hk.2, hk.1⟩)⟩, ⟨by (with_reducible repeat (first | apply Kd.R_alloc | apply Kd.R_drewN | apply Kd.R_drew)); exact Kd.R_mono HO722.out (fun _ hk => ⟨hk.2, hk.1⟩)⟩, ⟨by repeat (first | (with_reducible first | exact HB.out | apply below_alloc | apply pw_below_drewN | apply below_drew1 | refine below_set ?_ (IsS86.ge HI707.out)) | exact HB.out)⟩⟩
      case round =>
        clear H'
        try clear c1
        try clear c2
        try clear p2
        try clear c4
        try clear c6
        try clear p6
        try clear c9
        try clear c9b0
        try clear c9b1
        try clear c12
        try clear c14
        obtain ⟨x51_1, rfl, HA, HK1, HO_6, HO_10, HO_49, HB⟩ := hrel
        cases gk with
        | zero => exact absurd HA.out (by simp [storagebarterlaw39_PruneKeeps.l0])
        | succ k1 =>
          have H := HA.out
          clear HA
          simp only [storagebarterlaw39_PruneKeeps.l0] at H
          by_cases c18 : x51_1 < (t718.length : Int)
          · rw [if_pos c18] at H
            have c18b0 : decide (x51_1 < (t718.length : Int)) = true := decide_eq_true c18
            clear c18
            by_cases c19 : 0 ≤ x51_1
            · rw [if_pos c19] at H
              have c19b0 : decide (0 ≤ x51_1) = true := decide_eq_true c19
              clear c19
              by_cases c20 : x51_1 < (t718.length : Int)
              · rw [if_pos c20] at H
                have c20b0 : decide (x51_1 < (t718.length : Int)) = true := decide_eq_true c20
                clear c20
                by_cases c21 : ((rd_T29 t718 x51_1).f0) = (wrap64 (1 + t715))
                · rw [if_pos c21] at H
                  have c21b0 : (((rd_T29 t718 x51_1).f0) == (wrap64 (1 + t715))) = true := beq_iff_eq.mpr c21
                  have c21b1 : (((rd_T29 t718 x51_1).f0) != (wrap64 (1 + t715))) = false := bne_eq_false_iff_eq.mpr c21
                  clear c21
                  replace H := Option.bind_eq_some_iff.mp H
                  obtain ⟨t725, A220, H⟩ := H
                  replace H : (storagebarterlaw39_PruneKeeps.l1 k1 t708 (wrap64 (1 + t715)) (Int.tmod (wrap64 (a1)) 5) t717 0 t718 (t718.length : Int) x51_1 t725 (t725.length : Int) 0 ((rd_T29 t718 x51_1).f0) ((rd_T29 t718 x51_1).f1) ((rd_T29 t718 x51_1).f2) ((rd_T29 t718 x51_1).f3) ((rd_T29 t718 x51_1).f4)) = some r := H
                  have A22 := Aside0.mk A220
                  clear A220
                  have H' := Aside0.mk H
                  clear H
                  have p723 : 0 ≤ (x51_1 : Int) := of_decide_eq_true (by first | (with_reducible assumption) | assumption)
                  have q723 : x51_1 < (t718.length : Int) := of_decide_eq_true (by first | (with_reducible assumption) | assumption)
                  obtain ⟨ad723, A723_3, c723_3, A723_4, c723_4, e723, hx723_0, hx723_1, hx723_2, hx723_3, hx723_4, hl723_3, hi723_3, hl723_4, hi723_4⟩ := at_T29 (Kd.R_reads' HO_49.out).2.2 x51_1 p723 q723
                  cases e723
                  obtain ⟨ce723, hce723, hMe723, hcc723⟩ := Kd.R_get HO_49.out z29 x51_1 p723 (by first | exact q723 | exact of_decide_eq_true (by first | (with_reducible assumption) | assumption) | (have e_ := (Kd.R_reads' HO_49.out).1; omega))
                  obtain ⟨ve723_3, ve723_4, rfl, ge723_3, ge723_4⟩ := k29_openM hMe723
                  have hv723_3 := hcc723 3 _ rfl
                  rw [add_field _ _ 3 (by omega)] at hv723_3
                  replace hv723_3 := Option.some.inj (hv723_3.symm.trans hx723_3)
                  rw [hv723_3] at ge723_3
                  have HL723_3 := Aside0.mk (show Kd.R k48 48 _ _ _ _ ((rd_T29 t718 x51_1).f3) from ge723_3)
                  clear hv723_3 ge723_3
                  have hv723_4 := hcc723 4 _ rfl
                  rw [add_field _ _ 4 (by omega)] at hv723_4
                  replace hv723_4 := Option.some.inj (hv723_4.symm.trans hx723_4)
                  rw [hv723_4] at ge723_4
                  have HL723_4 := Aside0.mk (show Kd.R k74 74 _ _ _ _ ((rd_T29 t718 x51_1).f4) from ge723_4)
                  clear hv723_4 ge723_4
                  clear hcc723 hce723
                  have HR723_3 := Aside0.mk hi723_3
                  have HC723_3 := Aside0.mk hl723_3
                  clear hi723_3 hl723_3
                  have HR723_4 := Aside0.mk hi723_4
                  have HC723_4 := Aside0.mk hl723_4
                  clear hi723_4 hl723_4
                  replace p723 := eq_true p723
                  replace q723 := eq_true q723
                  go_wp2_with (first | ((with_reducible refine gate_dst (N := 13) rfl ?_); (try (refine gate_guard (by rfl) ?_; dsimp only)); refine box_event ?hg (N := 13) ?hd (cs := #[.int .i64 0, .int .i64 0, .int .i64 0, .slice none 0 0, .slice none 0 0]) (t := 29) ?hr ?_; (case hd => rfl); (case hg => rfl); (case hr => first | (go_simp; done) | (go_simp; rfl)); intro gb724 hg w23 hbox hb; have n0_ := Aside0.mk (Kd.R_below (Kd.R_elderB (by (with_reducible repeat (first | apply Kd.R_alloc | apply Kd.R_drewN | apply Kd.R_drew)); exact HO_6.out) gb724 (Nat.le_of_eq hg.symm)) hb); have n1_ := Aside0.mk (Kd.R_below (Kd.R_elderB (by (with_reducible repeat (first | apply Kd.R_alloc | apply Kd.R_drewN | apply Kd.R_drew)); exact HO_10.out) gb724 (Nat.le_of_eq hg.symm)) hb); have n2_ := Aside0.mk (Kd.R_below (Kd.R_elderB (by (with_reducible repeat (first | apply Kd.R_alloc | apply Kd.R_drewN | apply Kd.R_drew)); exact HO_49.out) gb724 (Nat.le_of_eq hg.symm)) hb); have n3_ := Aside0.mk (Kd.R_below (by (with_reducible repeat (first | apply Kd.R_alloc | apply Kd.R_drewN | apply Kd.R_drew)); exact HL723_3.out) hb); have n4_ := Aside0.mk (Kd.R_below (by (with_reducible repeat (first | apply Kd.R_alloc | apply Kd.R_drewN | apply Kd.R_drew)); exact HL723_4.out) hb); have n5_ := Aside0.mk (Kd.C_below (by repeat (first | (with_reducible exact HR723_3.out) | (with_reducible refine Kd.C_alloc ?_ _) | (with_reducible refine Kd.C_drewN ?_ _) | (with_reducible refine Kd.C_drew ?_) | exact HR723_3.out)) hb); have n6_ := Aside0.mk (Kd.C_below (by repeat (first | (with_reducible exact HR723_4.out) | (with_reducible refine Kd.C_alloc ?_ _) | (with_reducible refine Kd.C_drewN ?_ _) | (with_reducible refine Kd.C_drew ?_) | exact HR723_4.out)) hb); have n7_ := Aside0.mk (below_step (by repeat (first | (with_reducible first | exact HB.out | apply below_alloc | apply pw_below_drewN | apply below_drew1) | exact HB.out)) hb); have n8_ := Aside0.mk (hbox); have n9_ := Aside0.mk ((by rw [hg]; exact (below_size (by repeat (first | (with_reducible first | exact HB.out | apply below_alloc | apply pw_below_drewN | apply below_drew1) | exact HB.out))) : w.heap.size ≤ gb724)); have n10_ := Aside0.mk ((by rw [hg]; exact (below_size (by repeat (first | (with_reducible first | exact HB.out | apply below_alloc | apply pw_below_drewN | apply below_drew1) | exact HB.out))) : w.heap.size ≤ gb724)); clear HO_6; clear HO_10; clear HO_49; clear HL723_3; clear HL723_4; clear HR723_3; clear HR723_4; clear HB; have HO_6 := n0_; have HO_10 := n1_; have HO_49 := n2_; have HL723_3 := n3_; have HL723_4 := n4_; have HR723_3 := n5_; have HR723_4 := n6_; have HB := n7_; have BK724 := n8_; have GW724 := n9_; have GE724 := n10_; clear n0_ n1_ n2_ n3_ n4_ n5_ n6_ n7_ n8_ n9_ n10_; clear hb hbox hg; have hcz24_0 : w23.cell? ⟨gb724, 0, none⟩ = some (.int .i64 0) := (blk_cell BK724.out 0).trans rfl; have hcz24_1 : w23.cell? ⟨gb724, 1, none⟩ = some (.int .i64 0) := (blk_cell BK724.out 1).trans rfl; have hcz24_2 : w23.cell? ⟨gb724, 2, none⟩ = some (.int .i64 0) := (blk_cell BK724.out 2).trans rfl; have hcz24_3 : w23.cell? ⟨gb724, 3, none⟩ = some (.slice none 0 0) := (blk_cell BK724.out 3).trans rfl; have hcz24_4 : w23.cell? ⟨gb724, 4, none⟩ = some (.slice none 0 0) := (blk_cell BK724.out 4).trans rfl; have hfz24_0 := blk_frozen BK724.out 0; have hfz24_1 := blk_frozen BK724.out 1; have hfz24_2 := blk_frozen BK724.out 2; have hfz24_3 := blk_frozen BK724.out 3; have hfz24_4 := blk_frozen BK724.out 4) | ((with_reducible refine gate_callee (f := 26) rfl ?_); refine goesL_ (some 61) rfl rfl Try.func26 (by kernel_rfl) rfl #[.slice Ao14 t708.length co14, .int .i64 (wrap64 (1 + t715))] rfl (by (try simp only [List.map_toArray, List.map_cons, List.map_nil]); first | done | rfl | (simp only [List.length_drop, List.length_take]; rfl)) ?_; (with_reducible refine (prune_Numbers.calls k1 _ _ t708 (wrap64 (1 + t715)) t725 _ ?side1 ?side2 A22.out).mono ?_); (case side1 => refine (Kd.R_reads' (e := 29) (base := w.heap.size) (ok := fun k_ => ((some k_ ≠ (.slice Ao16 t717.length co16 : Value).ownBlock ∧ some k_ ≠ (.slice (some ad723) t718.length co17 : Value).ownBlock) ∧ k_ ≠ gb724)) (n := t708.length) (c := co14) ?_).2.2; exact (by (with_reducible repeat (first | apply Kd.R_alloc | apply Kd.R_drewN | apply Kd.R_drew)); exact (Kd.R_mono (Kd.R_far (p := ⟨gb724, 4, none⟩) (Kd.R_far (p := ⟨gb724, 3, none⟩) (Kd.R_far (p := ⟨gb724, 2, none⟩) (Kd.R_far (p := ⟨gb724, 1, none⟩) (Kd.R_far (p := ⟨gb724, 0, none⟩) (Kd.R_mono HO_6.out (fun k_ hk => (⟨hk, hk.2⟩ : _ ∧ k_ ≠ gb724))) (fun _ hk => hk.2) (.int .i64 ((rd_T29 t718 x51_1).f0))) (fun _ hk => hk.2) (.int .i64 ((rd_T29 t718 x51_1).f1))) (fun _ hk => hk.2) (.int .i64 ((rd_T29 t718 x51_1).f2))) (fun _ hk => hk.2) (.slice A723_3 ((rd_T29 t718 x51_1).f3).length c723_3)) (fun _ hk => hk.2) (.slice A723_4 ((rd_T29 t718 x51_1).f4).length c723_4)) (fun _ h_ => h_.1)))); (case side2 => exact (Kd.R_reads' HO_6.out).2.1); rintro e w25 ⟨v726, rfl, ho0, hb⟩; refine ⟨_, rfl, ?_⟩; have n0_ := Aside0.mk (Kd.R_elder' (by (with_reducible repeat (first | apply Kd.R_alloc | apply Kd.R_drewN | apply Kd.R_drew)); exact (Kd.R_mono (Kd.R_far (p := ⟨gb724, 4, none⟩) (Kd.R_far (p := ⟨gb724, 3, none⟩) (Kd.R_far (p := ⟨gb724, 2, none⟩) (Kd.R_far (p := ⟨gb724, 1, none⟩) (Kd.R_far (p := ⟨gb724, 0, none⟩) (Kd.R_mono HO_6.out (fun k_ hk => (⟨hk, hk.2⟩ : _ ∧ k_ ≠ gb724))) (fun _ hk => hk.2) (.int .i64 ((rd_T29 t718 x51_1).f0))) (fun _ hk => hk.2) (.int .i64 ((rd_T29 t718 x51_1).f1))) (fun _ hk => hk.2) (.int .i64 ((rd_T29 t718 x51_1).f2))) (fun _ hk => hk.2) (.slice A723_3 ((rd_T29 t718 x51_1).f3).length c723_3)) (fun _ hk => hk.2) (.slice A723_4 ((rd_T29 t718 x51_1).f4).length c723_4)) (fun _ h_ => h_.1))) (Kd.R_base ho0) hb); have n1_ := Aside0.mk (Kd.R_elder' (by (with_reducible repeat (first | apply Kd.R_alloc | apply Kd.R_drewN | apply Kd.R_drew)); exact (Kd.R_mono (Kd.R_far (p := ⟨gb724, 4, none⟩) (Kd.R_far (p := ⟨gb724, 3, none⟩) (Kd.R_far (p := ⟨gb724, 2, none⟩) (Kd.R_far (p := ⟨gb724, 1, none⟩) (Kd.R_far (p := ⟨gb724, 0, none⟩) (Kd.R_mono HO_10.out (fun k_ hk => (⟨hk, hk.2⟩ : _ ∧ k_ ≠ gb724))) (fun _ hk => hk.2) (.int .i64 ((rd_T29 t718 x51_1).f0))) (fun _ hk => hk.2) (.int .i64 ((rd_T29 t718 x51_1).f1))) (fun _ hk => hk.2) (.int .i64 ((rd_T29 t718 x51_1).f2))) (fun _ hk => hk.2) (.slice A723_3 ((rd_T29 t718 x51_1).f3).length c723_3)) (fun _ hk => hk.2) (.slice A723_4 ((rd_T29 t718 x51_1).f4).length c723_4)) (fun _ h_ => h_.1))) (Kd.R_base ho0) hb); have n2_ := Aside0.mk (Kd.R_elder' (by (with_reducible repeat (first | apply Kd.R_alloc | apply Kd.R_drewN | apply Kd.R_drew)); exact (Kd.R_mono (Kd.R_far (p := ⟨gb724, 4, none⟩) (Kd.R_far (p := ⟨gb724, 3, none⟩) (Kd.R_far (p := ⟨gb724, 2, none⟩) (Kd.R_far (p := ⟨gb724, 1, none⟩) (Kd.R_far (p := ⟨gb724, 0, none⟩) (Kd.R_mono HO_49.out (fun k_ hk => (⟨hk, hk.2⟩ : _ ∧ k_ ≠ gb724))) (fun _ hk => hk.2) (.int .i64 ((rd_T29 t718 x51_1).f0))) (fun _ hk => hk.2) (.int .i64 ((rd_T29 t718 x51_1).f1))) (fun _ hk => hk.2) (.int .i64 ((rd_T29 t718 x51_1).f2))) (fun _ hk => hk.2) (.slice A723_3 ((rd_T29 t718 x51_1).f3).length c723_3)) (fun _ hk => hk.2) (.slice A723_4 ((rd_T29 t718 x51_1).f4).length c723_4)) (fun _ h_ => h_.1))) (Kd.R_base ho0) hb); have n3_ := Aside0.mk (Kd.R_elder' (by (with_reducible repeat (first | apply Kd.R_alloc | apply Kd.R_drewN | apply Kd.R_drew)); exact (Kd.R_mono (Kd.R_far (p := ⟨gb724, 4, none⟩) (Kd.R_far (p := ⟨gb724, 3, none⟩) (Kd.R_far (p := ⟨gb724, 2, none⟩) (Kd.R_far (p := ⟨gb724, 1, none⟩) (Kd.R_far (p := ⟨gb724, 0, none⟩) (Kd.R_types HL723_3.out BK724.out (by decide)) (fun _ hk => hk.2) (.int .i64 ((rd_T29 t718 x51_1).f0))) (fun _ hk => hk.2) (.int .i64 ((rd_T29 t718 x51_1).f1))) (fun _ hk => hk.2) (.int .i64 ((rd_T29 t718 x51_1).f2))) (fun _ hk => hk.2) (.slice A723_3 ((rd_T29 t718 x51_1).f3).length c723_3)) (fun _ hk => hk.2) (.slice A723_4 ((rd_T29 t718 x51_1).f4).length c723_4)) (fun _ h_ => h_.1))) (Kd.R_base ho0) hb); have n4_ := Aside0.mk (Kd.R_below (by (with_reducible repeat (first | apply Kd.R_alloc | apply Kd.R_drewN | apply Kd.R_drew)); exact (Kd.R_mono (Kd.R_far (p := ⟨gb724, 4, none⟩) (Kd.R_far (p := ⟨gb724, 3, none⟩) (Kd.R_far (p := ⟨gb724, 2, none⟩) (Kd.R_far (p := ⟨gb724, 1, none⟩) (Kd.R_far (p := ⟨gb724, 0, none⟩) (Kd.R_types HL723_4.out BK724.out (by decide)) (fun _ hk => hk.2) (.int .i64 ((rd_T29 t718 x51_1).f0))) (fun _ hk => hk.2) (.int .i64 ((rd_T29 t718 x51_1).f1))) (fun _ hk => hk.2) (.int .i64 ((rd_T29 t718 x51_1).f2))) (fun _ hk => hk.2) (.slice A723_3 ((rd_T29 t718 x51_1).f3).length c723_3)) (fun _ hk => hk.2) (.slice A723_4 ((rd_T29 t718 x51_1).f4).length c723_4)) (fun _ h_ => h_.1))) hb); have n5_ := Aside0.mk (Kd.R_lower ho0 (below_size (by repeat (first | (with_reducible first | exact HB.out | apply below_alloc | apply pw_below_drewN | apply below_drew1 | refine below_set ?_ GE724.out) | exact HB.out)))); have n6_ := Aside0.mk (Kd.C_below ((Kd.R_reads' (by (with_reducible repeat (first | apply Kd.R_alloc | apply Kd.R_drewN | apply Kd.R_drew)); exact (Kd.R_mono (Kd.R_far (p := ⟨gb724, 4, none⟩) (Kd.R_far (p := ⟨gb724, 3, none⟩) (Kd.R_far (p := ⟨gb724, 2, none⟩) (Kd.R_far (p := ⟨gb724, 1, none⟩) (Kd.R_far (p := ⟨gb724, 0, none⟩) (Kd.R_types HL723_3.out BK724.out (by decide)) (fun _ hk => hk.2) (.int .i64 ((rd_T29 t718 x51_1).f0))) (fun _ hk => hk.2) (.int .i64 ((rd_T29 t718 x51_1).f1))) (fun _ hk => hk.2) (.int .i64 ((rd_T29 t718 x51_1).f2))) (fun _ hk => hk.2) (.slice A723_3 ((rd_T29 t718 x51_1).f3).length c723_3)) (fun _ hk => hk.2) (.slice A723_4 ((rd_T29 t718 x51_1).f4).length c723_4)) (fun _ h_ => h_.1)))).2.2) hb); have n7_ := Aside0.mk (Kd.C_below ((Kd.R_reads' (by (with_reducible repeat (first | apply Kd.R_alloc | apply Kd.R_drewN | apply Kd.R_drew)); exact (Kd.R_mono (Kd.R_far (p := ⟨gb724, 4, none⟩) (Kd.R_far (p := ⟨gb724, 3, none⟩) (Kd.R_far (p := ⟨gb724, 2, none⟩) (Kd.R_far (p := ⟨gb724, 1, none⟩) (Kd.R_far (p := ⟨gb724, 0, none⟩) (Kd.R_types HL723_4.out BK724.out (by decide)) (fun _ hk => hk.2) (.int .i64 ((rd_T29 t718 x51_1).f0))) (fun _ hk => hk.2) (.int .i64 ((rd_T29 t718 x51_1).f1))) (fun _ hk => hk.2) (.int .i64 ((rd_T29 t718 x51_1).f2))) (fun _ hk => hk.2) (.slice A723_3 ((rd_T29 t718 x51_1).f3).length c723_3)) (fun _ hk => hk.2) (.slice A723_4 ((rd_T29 t718 x51_1).f4).length c723_4)) (fun _ h_ => h_.1)))).2.2) hb); have n8_ := Aside0.mk (blk_below (g := gb724) (o := .cells #[.int .i64 ((rd_T29 t718 x51_1).f0), .int .i64 ((rd_T29 t718 x51_1).f1), .int .i64 ((rd_T29 t718 x51_1).f2), .slice A723_3 ((rd_T29 t718 x51_1).f3).length c723_3, .slice A723_4 ((rd_T29 t718 x51_1).f4).length c723_4] 29 (0, 0)) (by (with_reducible repeat (first | refine blk_drewN ?_ _ | refine blk_drew ?_ | refine blk_alloc ?_ _)); refine blk_put (cs := #[.int .i64 ((rd_T29 t718 x51_1).f0), .int .i64 ((rd_T29 t718 x51_1).f1), .int .i64 ((rd_T29 t718 x51_1).f2), .slice A723_3 ((rd_T29 t718 x51_1).f3).length c723_3, .slice none 0 0]) ?_ 4 _ rfl; (with_reducible repeat (first | refine blk_drewN ?_ _ | refine blk_drew ?_ | refine blk_alloc ?_ _)); refine blk_put (cs := #[.int .i64 ((rd_T29 t718 x51_1).f0), .int .i64 ((rd_T29 t718 x51_1).f1), .int .i64 ((rd_T29 t718 x51_1).f2), .slice none 0 0, .slice none 0 0]) ?_ 3 _ rfl; (with_reducible repeat (first | refine blk_drewN ?_ _ | refine blk_drew ?_ | refine blk_alloc ?_ _)); refine blk_put (cs := #[.int .i64 ((rd_T29 t718 x51_1).f0), .int .i64 ((rd_T29 t718 x51_1).f1), .int .i64 0, .slice none 0 0, .slice none 0 0]) ?_ 2 _ rfl; (with_reducible repeat (first | refine blk_drewN ?_ _ | refine blk_drew ?_ | refine blk_alloc ?_ _)); refine blk_put (cs := #[.int .i64 ((rd_T29 t718 x51_1).f0), .int .i64 0, .int .i64 0, .slice none 0 0, .slice none 0 0]) ?_ 1 _ rfl; (with_reducible repeat (first | refine blk_drewN ?_ _ | refine blk_drew ?_ | refine blk_alloc ?_ _)); refine blk_put (cs := #[.int .i64 0, .int .i64 0, .int .i64 0, .slice none 0 0, .slice none 0 0]) ?_ 0 _ rfl; (with_reducible repeat (first | refine blk_drewN ?_ _ | refine blk_drew ?_ | refine blk_alloc ?_ _)); exact BK724.out) hb); have n9_ := Aside0.mk (below_step (by repeat (first | (with_reducible first | exact HB.out | apply below_alloc | apply pw_below_drewN | apply below_drew1 | refine below_set ?_ GE724.out) | exact HB.out)) hb); clear HO_6; clear HO_10; clear HO_49; clear HL723_3; clear HL723_4; clear HR723_3; clear HR723_4; clear BK724; clear HB; have HO_6 := n0_; have HO_10 := n1_; have HO_49 := n2_; have HL723_3 := n3_; have HL723_4 := n4_; have HO727 := n5_; have HR723_3 := n6_; have HR723_4 := n7_; have BK724 := n8_; have HB := n9_; clear n0_ n1_ n2_ n3_ n4_ n5_ n6_ n7_ n8_ n9_; (try clear hb); (try clear hb2); (try clear hk); (try clear hi); (try clear ho0); obtain ⟨Ao26, co26, eo26⟩ := Kd.R_slice HO727.out; subst eo26))
                  go_loopg [14, 63] k1 (fun kq v14 v63 w' => ∃ (x14_2 : Int) (x63_2 : Int), v14 = .int .i64 x14_2 ∧ v63 = .int .i64 x63_2 ∧ Aside0 (storagebarterlaw39_PruneKeeps.l1 kq t708 (wrap64 (1 + t715)) (Int.tmod (wrap64 (a1)) 5) t717 x14_2 t718 (t718.length : Int) x51_1 t725 (t725.length : Int) x63_2 ((rd_T29 t718 x51_1).f0) ((rd_T29 t718 x51_1).f1) ((rd_T29 t718 x51_1).f2) ((rd_T29 t718 x51_1).f3) ((rd_T29 t718 x51_1).f4) = some r) ∧ Aside0 (kq ≤ k1) ∧ Aside0 (Kd.R k29 29 w' w.heap.size (fun k_ => some k_ ≠ ((.slice Ao16 t717.length co16) : Value).ownBlock ∧ some k_ ≠ ((.slice (some ad723) t718.length co17) : Value).ownBlock ∧ some k_ ≠ ((.slice Ao26 t725.length co26) : Value).ownBlock ∧ k_ ≠ gb724) (.slice Ao14 t708.length co14) t708) ∧ Aside0 (Kd.R k29 29 w' w.heap.size (fun k_ => some k_ ≠ ((.slice Ao14 t708.length co14) : Value).ownBlock ∧ some k_ ≠ ((.slice (some ad723) t718.length co17) : Value).ownBlock ∧ some k_ ≠ ((.slice Ao26 t725.length co26) : Value).ownBlock ∧ k_ ≠ gb724) (.slice Ao16 t717.length co16) t717) ∧ Aside0 (Kd.R k29 29 w' w.heap.size (fun k_ => some k_ ≠ ((.slice Ao14 t708.length co14) : Value).ownBlock ∧ some k_ ≠ ((.slice Ao16 t717.length co16) : Value).ownBlock ∧ some k_ ≠ ((.slice Ao26 t725.length co26) : Value).ownBlock ∧ k_ ≠ gb724) (.slice (some ad723) t718.length co17) t718) ∧ Aside0 (Kd.R (Kd.int .i64) 3 w' w.heap.size (fun _ => True) (.slice Ao26 t725.length co26) t725) ∧ Aside0 (w'.heap[gb724]? = some (.cells #[.int .i64 ((rd_T29 t718 x51_1).f0), .int .i64 ((rd_T29 t718 x51_1).f1), .int .i64 ((rd_T29 t718 x51_1).f2), (.slice A723_3 ((rd_T29 t718 x51_1).f3).length c723_3), (.slice A723_4 ((rd_T29 t718 x51_1).f4).length c723_4)] 29 (0, 0))) ∧ Aside0 (Kd.C k48 w' A723_3 ((rd_T29 t718 x51_1).f3).length ((rd_T29 t718 x51_1).f3)) ∧ Aside0 (Kd.C k74 w' A723_4 ((rd_T29 t718 x51_1).f4).length ((rd_T29 t718 x51_1).f4)) ∧ Aside0 (Below w.heap.size w w'))
                  case atStart => exact ⟨(0), (0), (by first | rfl | (simp; done) | (simp [*]; done)), (by first | rfl | (simp; done) | (simp [*]; done)), H', ⟨Nat.le_refl _⟩, ⟨by (with_reducible repeat (first | apply Kd.R_alloc | apply Kd.R_drewN | apply Kd.R_drew)); exact Kd.R_mono HO_6.out (fun _ hk => ⟨hk.1.1.1, ⟨hk.1.1.2, ⟨hk.2, hk.1.2⟩⟩⟩)⟩, ⟨by (with_reducible repeat (first | apply Kd.R_alloc | apply Kd.R_drewN | apply Kd.R_drew)); exact Kd.R_mono HO_10.out (fun _ hk => ⟨hk.1.1.1, ⟨hk.1.1.2, ⟨hk.2, hk.1.2⟩⟩⟩)⟩, ⟨by (with_reducible repeat (first | apply Kd.R_alloc | apply Kd.R_drewN | apply Kd.R_drew)); exact Kd.R_mono HO_49.out (fun _ hk => ⟨hk.1.1.1, ⟨hk.1.1.2, ⟨hk.2, hk.1.2⟩⟩⟩)⟩, ⟨by (with_reducible repeat (first | apply Kd.R_alloc | apply Kd.R_drewN | apply Kd.R_drew)); exact HO727.out⟩, ⟨by (with_reducible repeat (first | refine blk_drewN ?_ _ | refine blk_drew ?_ | refine blk_alloc ?_ _)); exact BK724.out⟩, ⟨by repeat (first | (with_reducible exact HR723_3.out) | (with_reducible refine Kd.C_alloc ?_ _) | (with_reducible refine Kd.C_drewN ?_ _) | (with_reducible refine Kd.C_drew ?_) | exact HR723_3.out)⟩, ⟨by repeat (first | (with_reducible exact HR723_4.out) | (with_reducible refine Kd.C_alloc ?_ _) | (with_reducible refine Kd.C_drewN ?_ _) | (with_reducible refine Kd.C_drew ?_) | exact HR723_4.out)⟩, ⟨by repeat (first | (with_reducible first | exact HB.out | apply below_alloc | apply pw_below_drewN | apply below_drew1 | refine below_set ?_ GE724.out) | exact HB.out)⟩⟩
                  case round =>
                    clear H'
                    try clear c1
                    try clear c2
                    try clear p2
                    try clear c4
                    try clear c6
                    try clear p6
                    try clear c7
                    try clear p7
                    try clear q7
                    try clear hx7
                    try clear c9
                    try clear c9b0
                    try clear c9b1
                    try clear c12
                    try clear c14
                    try clear c18
                    try clear c18b0
                    try clear c19
                    try clear c19b0
                    try clear c20
                    try clear c20b0
                    try clear c21
                    try clear c21b0
                    try clear c21b1
                    try clear c23
                    try clear c24
                    try clear c25
                    try clear c26
                    try clear hcz24_0
                    try clear hcz24_1
                    try clear hcz24_2
                    try clear hcz24_3
                    try clear hcz24_4
                    try clear hfz24_0
                    try clear hfz24_1
                    try clear hfz24_2
                    try clear hfz24_3
                    try clear hfz24_4
                    try clear hx723_0
                    try clear hx723_1
                    try clear hx723_2
                    try clear hx723_3
                    try clear hx723_4
                    try clear p2
                    try clear p6
                    try clear p723
                    try clear q723
                    obtain ⟨x14_2, x63_2, rfl, rfl, HA, HK2, HO_6, HO_10, HO_49, HO_61, BK724, HR723_3, HR723_4, HB⟩ := hrel
                    cases gk with
                    | zero => exact absurd HA.out (by simp [storagebarterlaw39_PruneKeeps.l1])
                    | succ k2 =>
                      have H := HA.out
                      clear HA
                      simp only [storagebarterlaw39_PruneKeeps.l1] at H
                      by_cases c27 : x63_2 < (t725.length : Int)
                      · rw [if_pos c27] at H
                        have c27b0 : decide (x63_2 < (t725.length : Int)) = true := decide_eq_true c27
                        clear c27
                        by_cases c28 : 0 ≤ x63_2
                        · rw [if_pos c28] at H
                          have c28b0 : decide (0 ≤ x63_2) = true := decide_eq_true c28
                          clear c28
                          by_cases c29 : x63_2 < (t725.length : Int)
                          · rw [if_pos c29] at H
                            have c29b0 : decide (x63_2 < (t725.length : Int)) = true := decide_eq_true c29
                            clear c29
                            by_cases c30 : (rd t725 x63_2) > ((rd_T29 t718 x51_1).f1)
                            · rw [if_pos c30] at H
                              have c30b0 : decide (((rd_T29 t718 x51_1).f1) < (rd t725 x63_2)) = true := decide_eq_true c30
                              clear c30
                              have H' := Aside0.mk H
                              clear H
                              have p728 : 0 ≤ (x63_2 : Int) := of_decide_eq_true (by first | (with_reducible assumption) | assumption)
                              have q728 : x63_2 < (t725.length : Int) := of_decide_eq_true (by first | (with_reducible assumption) | assumption)
                              obtain ⟨ad728, e728, hx728_0⟩ := Kd.at_int (Kd.R_reads' HO_61.out).2.2 x63_2 p728 q728
                              cases e728
                              replace p728 := eq_true p728
                              replace q728 := eq_true q728
                              have hcz31_0 : wr.cell? ⟨gb724, 0, none⟩ = some (.int .i64 ((rd_T29 t718 x51_1).f0)) := (blk_cell BK724.out 0).trans rfl
                              have hcz31_1 : wr.cell? ⟨gb724, 1, none⟩ = some (.int .i64 ((rd_T29 t718 x51_1).f1)) := (blk_cell BK724.out 1).trans rfl
                              have hcz31_2 : wr.cell? ⟨gb724, 2, none⟩ = some (.int .i64 ((rd_T29 t718 x51_1).f2)) := (blk_cell BK724.out 2).trans rfl
                              have hcz31_3 : wr.cell? ⟨gb724, 3, none⟩ = some (.slice A723_3 ((rd_T29 t718 x51_1).f3).length c723_3) := (blk_cell BK724.out 3).trans rfl
                              have hcz31_4 : wr.cell? ⟨gb724, 4, none⟩ = some (.slice A723_4 ((rd_T29 t718 x51_1).f4).length c723_4) := (blk_cell BK724.out 4).trans rfl
                              have hfz31_0 := blk_frozen BK724.out 0
                              have hfz31_1 := blk_frozen BK724.out 1
                              have hfz31_2 := blk_frozen BK724.out 2
                              have hfz31_3 := blk_frozen BK724.out 3
                              have hfz31_4 := blk_frozen BK724.out 4
                              go_wp2
                              go_roundg k2
                              case measure => have := HK1.out; have := HK2.out; omega
                              case rel => exact ⟨(wrap64 (x14_2 + 1)), (wrap64 (x63_2 + 1)), (by first | rfl | (simp; done) | (simp [*]; done)), (by first | rfl | (simp; done) | (simp [*]; done)), H', ⟨by have := HK1.out; have := HK2.out; omega⟩, ⟨by (with_reducible repeat (first | apply Kd.R_alloc | apply Kd.R_drewN | apply Kd.R_drew)); exact HO_6.out⟩, ⟨by (with_reducible repeat (first | apply Kd.R_alloc | apply Kd.R_drewN | apply Kd.R_drew)); exact HO_10.out⟩, ⟨by (with_reducible repeat (first | apply Kd.R_alloc | apply Kd.R_drewN | apply Kd.R_drew)); exact HO_49.out⟩, ⟨by (with_reducible repeat (first | apply Kd.R_alloc | apply Kd.R_drewN | apply Kd.R_drew)); exact HO_61.out⟩, ⟨by (with_reducible repeat (first | refine blk_drewN ?_ _ | refine blk_drew ?_ | refine blk_alloc ?_ _)); exact BK724.out⟩, ⟨by repeat (first | (with_reducible exact HR723_3.out) | (with_reducible refine Kd.C_alloc ?_ _) | (with_reducible refine Kd.C_drewN ?_ _) | (with_reducible refine Kd.C_drew ?_) | exact HR723_3.out)⟩, ⟨by repeat (first | (with_reducible exact HR723_4.out) | (with_reducible refine Kd.C_alloc ?_ _) | (with_reducible refine Kd.C_drewN ?_ _) | (with_reducible refine Kd.C_drew ?_) | exact HR723_4.out)⟩, ⟨by repeat (first | (with_reducible first | exact HB.out | apply below_alloc | apply pw_below_drewN | apply below_drew1 | refine below_set ?_ GE724.out) | exact HB.out)⟩⟩
                            · rw [if_neg c30] at H
                              have c30b0 : decide (((rd_T29 t718 x51_1).f1) < (rd t725 x63_2)) = false := decide_eq_false c30
                              clear c30
                              have H' := Aside0.mk H
                              clear H
                              have p728 : 0 ≤ (x63_2 : Int) := of_decide_eq_true (by first | (with_reducible assumption) | assumption)
                              have q728 : x63_2 < (t725.length : Int) := of_decide_eq_true (by first | (with_reducible assumption) | assumption)
                              obtain ⟨ad728, e728, hx728_0⟩ := Kd.at_int (Kd.R_reads' HO_61.out).2.2 x63_2 p728 q728
                              cases e728
                              replace p728 := eq_true p728
                              replace q728 := eq_true q728
                              have hcz32_0 : wr.cell? ⟨gb724, 0, none⟩ = some (.int .i64 ((rd_T29 t718 x51_1).f0)) := (blk_cell BK724.out 0).trans rfl
                              have hcz32_1 : wr.cell? ⟨gb724, 1, none⟩ = some (.int .i64 ((rd_T29 t718 x51_1).f1)) := (blk_cell BK724.out 1).trans rfl
                              have hcz32_2 : wr.cell? ⟨gb724, 2, none⟩ = some (.int .i64 ((rd_T29 t718 x51_1).f2)) := (blk_cell BK724.out 2).trans rfl
                              have hcz32_3 : wr.cell? ⟨gb724, 3, none⟩ = some (.slice A723_3 ((rd_T29 t718 x51_1).f3).length c723_3) := (blk_cell BK724.out 3).trans rfl
                              have hcz32_4 : wr.cell? ⟨gb724, 4, none⟩ = some (.slice A723_4 ((rd_T29 t718 x51_1).f4).length c723_4) := (blk_cell BK724.out 4).trans rfl
                              have hfz32_0 := blk_frozen BK724.out 0
                              have hfz32_1 := blk_frozen BK724.out 1
                              have hfz32_2 := blk_frozen BK724.out 2
                              have hfz32_3 := blk_frozen BK724.out 3
                              have hfz32_4 := blk_frozen BK724.out 4
                              go_wp2
                              go_roundg k2
                              case measure => have := HK1.out; have := HK2.out; omega
                              case rel => exact ⟨(x14_2), (wrap64 (x63_2 + 1)), (by first | rfl | (simp; done) | (simp [*]; done)), (by first | rfl | (simp; done) | (simp [*]; done)), H', ⟨by have := HK1.out; have := HK2.out; omega⟩, ⟨by (with_reducible repeat (first | apply Kd.R_alloc | apply Kd.R_drewN | apply Kd.R_drew)); exact HO_6.out⟩, ⟨by (with_reducible repeat (first | apply Kd.R_alloc | apply Kd.R_drewN | apply Kd.R_drew)); exact HO_10.out⟩, ⟨by (with_reducible repeat (first | apply Kd.R_alloc | apply Kd.R_drewN | apply Kd.R_drew)); exact HO_49.out⟩, ⟨by (with_reducible repeat (first | apply Kd.R_alloc | apply Kd.R_drewN | apply Kd.R_drew)); exact HO_61.out⟩, ⟨by (with_reducible repeat (first | refine blk_drewN ?_ _ | refine blk_drew ?_ | refine blk_alloc ?_ _)); exact BK724.out⟩, ⟨by repeat (first | (with_reducible exact HR723_3.out) | (with_reducible refine Kd.C_alloc ?_ _) | (with_reducible refine Kd.C_drewN ?_ _) | (with_reducible refine Kd.C_drew ?_) | exact HR723_3.out)⟩, ⟨by repeat (first | (with_reducible exact HR723_4.out) | (with_reducible refine Kd.C_alloc ?_ _) | (with_reducible refine Kd.C_drewN ?_ _) | (with_reducible refine Kd.C_drew ?_) | exact HR723_4.out)⟩, ⟨by repeat (first | (with_reducible first | exact HB.out | apply below_alloc | apply pw_below_drewN | apply below_drew1 | refine below_set ?_ GE724.out) | exact HB.out)⟩⟩
                          · rw [if_neg c29] at H
                            exact absurd H (by simp)
                        · rw [if_neg c28] at H
                          exact absurd H (by simp)
                      · rw [if_neg c27] at H
                        have c27b0 : decide (x63_2 < (t725.length : Int)) = false := decide_eq_false c27
                        clear c27
                        by_cases c33 : x14_2 < (Int.tmod (wrap64 (a1)) 5)
                        · rw [if_pos c33] at H
                          exact absurd (H.trans (congrArg some RT_.out)) (by simp)
                        · rw [if_neg c33] at H
                          have c33b0 : decide (x14_2 < (Int.tmod (wrap64 (a1)) 5)) = false := decide_eq_false c33
                          clear c33
                          have H' := Aside0.mk H
                          clear H
                          go_wp2
                          go_roundg k2
                          case measure => have := HK1.out; have := HK2.out; omega
                          case rel => exact ⟨(wrap64 (x51_1 + 1)), (by first | rfl | (simp; done) | (simp [*]; done)), H', ⟨by have := HK1.out; have := HK2.out; omega⟩, ⟨by (with_reducible repeat (first | apply Kd.R_alloc | apply Kd.R_drewN | apply Kd.R_drew)); exact Kd.R_mono HO_6.out (fun _ hk => ⟨hk.1, hk.2.1⟩)⟩, ⟨by (with_reducible repeat (first | apply Kd.R_alloc | apply Kd.R_drewN | apply Kd.R_drew)); exact Kd.R_mono HO_10.out (fun _ hk => ⟨hk.1, hk.2.1⟩)⟩, ⟨by (with_reducible repeat (first | apply Kd.R_alloc | apply Kd.R_drewN | apply Kd.R_drew)); exact Kd.R_mono HO_49.out (fun _ hk => ⟨hk.1, hk.2.1⟩)⟩, ⟨by repeat (first | (with_reducible first | exact HB.out | apply below_alloc | apply pw_below_drewN | apply below_drew1 | refine below_set ?_ GE724.out) | exact HB.out)⟩⟩
                · rw [if_neg c21] at H
                  exact absurd (H.trans (congrArg some RT_.out)) (by simp)
              · rw [if_neg c20] at H
                exact absurd H (by simp)
            · rw [if_neg c19] at H
              exact absurd H (by simp)
          · rw [if_neg c18] at H
            have c18b0 : decide (x51_1 < (t718.length : Int)) = false := decide_eq_false c18
            clear c18
            replace H := Option.bind_eq_some_iff.mp H
            obtain ⟨t729, A340, H⟩ := H
            replace H : ((prune_Numbers.f k1 t708 (wrap64 (1 + t715))).bind fun t732 => ((prune_Keep.f k1 t708 (wrap64 (1 + t715)) (Int.tmod (wrap64 (a1)) 5)).bind fun t735 => ((storagebarterref28_SameInts.f k1 t729 t735).bind fun t738 => (if t738 = true then (if (t729.length : Int) = (mn (Int.tmod (wrap64 (a1)) 5) (t732.length : Int)) then ((prune_Numbers.f k1 t717 (wrap64 ((Int.tmod (wrap64 (1 + t715)) 3) + 1))).bind fun t739 => ((prune_Numbers.f k1 t708 (wrap64 ((Int.tmod (wrap64 (1 + t715)) 3) + 1))).bind fun t742 => ((storagebarterref28_SameInts.f k1 t739 t742).bind fun t745 => (some t745)))) else (some false)) else (some false))))) = some r := H
            have A34 := Aside0.mk A340
            clear A340
            replace H := Option.bind_eq_some_iff.mp H
            obtain ⟨t732, A350, H⟩ := H
            replace H : ((prune_Keep.f k1 t708 (wrap64 (1 + t715)) (Int.tmod (wrap64 (a1)) 5)).bind fun t735 => ((storagebarterref28_SameInts.f k1 t729 t735).bind fun t738 => (if t738 = true then (if (t729.length : Int) = (mn (Int.tmod (wrap64 (a1)) 5) (t732.length : Int)) then ((prune_Numbers.f k1 t717 (wrap64 ((Int.tmod (wrap64 (1 + t715)) 3) + 1))).bind fun t739 => ((prune_Numbers.f k1 t708 (wrap64 ((Int.tmod (wrap64 (1 + t715)) 3) + 1))).bind fun t742 => ((storagebarterref28_SameInts.f k1 t739 t742).bind fun t745 => (some t745)))) else (some false)) else (some false)))) = some r := H
            have A35 := Aside0.mk A350
            clear A350
            replace H := Option.bind_eq_some_iff.mp H
            obtain ⟨t735, A360, H⟩ := H
            replace H : ((storagebarterref28_SameInts.f k1 t729 t735).bind fun t738 => (if t738 = true then (if (t729.length : Int) = (mn (Int.tmod (wrap64 (a1)) 5) (t732.length : Int)) then ((prune_Numbers.f k1 t717 (wrap64 ((Int.tmod (wrap64 (1 + t715)) 3) + 1))).bind fun t739 => ((prune_Numbers.f k1 t708 (wrap64 ((Int.tmod (wrap64 (1 + t715)) 3) + 1))).bind fun t742 => ((storagebarterref28_SameInts.f k1 t739 t742).bind fun t745 => (some t745)))) else (some false)) else (some false))) = some r := H
            have A36 := Aside0.mk A360
            clear A360
            replace H := Option.bind_eq_some_iff.mp H
            obtain ⟨t738, A370, H⟩ := H
            replace H : (if t738 = true then (if (t729.length : Int) = (mn (Int.tmod (wrap64 (a1)) 5) (t732.length : Int)) then ((prune_Numbers.f k1 t717 (wrap64 ((Int.tmod (wrap64 (1 + t715)) 3) + 1))).bind fun t739 => ((prune_Numbers.f k1 t708 (wrap64 ((Int.tmod (wrap64 (1 + t715)) 3) + 1))).bind fun t742 => ((storagebarterref28_SameInts.f k1 t739 t742).bind fun t745 => (some t745)))) else (some false)) else (some false)) = some r := H
            have A37 := Aside0.mk A370
            clear A370
            by_cases c38 : t738 = true
            · subst c38
              have H1 : (if (t729.length : Int) = (mn (Int.tmod (wrap64 (a1)) 5) (t732.length : Int)) then ((prune_Numbers.f k1 t717 (wrap64 ((Int.tmod (wrap64 (1 + t715)) 3) + 1))).bind fun t739 => ((prune_Numbers.f k1 t708 (wrap64 ((Int.tmod (wrap64 (1 + t715)) 3) + 1))).bind fun t742 => ((storagebarterref28_SameInts.f k1 t739 t742).bind fun t745 => (some t745)))) else (some false)) = some r := by rw [if_pos rfl] at H; exact H
              clear H
              have H := H1
              clear H1
              obtain ⟨ji39, hji39⟩ : ∃ j_ : Int, (mn (Int.tmod (wrap64 (a1)) 5) (t732.length : Int)) = j_ := ⟨_, rfl⟩
              replace H : (if (t729.length : Int) = (ji39) then ((prune_Numbers.f k1 t717 (wrap64 ((Int.tmod (wrap64 (1 + t715)) 3) + 1))).bind fun t739 => ((prune_Numbers.f k1 t708 (wrap64 ((Int.tmod (wrap64 (1 + t715)) 3) + 1))).bind fun t742 => ((storagebarterref28_SameInts.f k1 t739 t742).bind fun t745 => (some t745)))) else (some false)) = some r := by first | (rw [hji39] at H; exact H) | (simp only [hji39] at H ⊢; exact H)
              (try rw [hji39] at A34)
              (try rw [hji39] at A35)
              (try rw [hji39] at A36)
              (try rw [hji39] at A37)
              have hji39_ : (if (t732.length : Int) < (Int.tmod (wrap64 (a1)) 5) then (t732.length : Int) else (Int.tmod (wrap64 (a1)) 5)) = ji39 := hji39
              by_cases c40 : (t729.length : Int) = (ji39)
              · rw [if_pos c40] at H
                have c40b0 : ((t729.length : Int) == (ji39)) = true := beq_iff_eq.mpr c40
                have c40b1 : ((t729.length : Int) != (ji39)) = false := bne_eq_false_iff_eq.mpr c40
                clear c40
                replace H := Option.bind_eq_some_iff.mp H
                obtain ⟨t739, A410, H⟩ := H
                replace H : ((prune_Numbers.f k1 t708 (wrap64 ((Int.tmod (wrap64 (1 + t715)) 3) + 1))).bind fun t742 => ((storagebarterref28_SameInts.f k1 t739 t742).bind fun t745 => (some t745))) = some r := H
                have A41 := Aside0.mk A410
                clear A410
                replace H := Option.bind_eq_some_iff.mp H
                obtain ⟨t742, A420, H⟩ := H
                replace H : ((storagebarterref28_SameInts.f k1 t739 t742).bind fun t745 => (some t745)) = some r := H
                have A42 := Aside0.mk A420
                clear A420
                replace H := Option.bind_eq_some_iff.mp H
                obtain ⟨t745, A430, H⟩ := H
                replace H : (some t745) = some r := H
                have A43 := Aside0.mk A430
                clear A430
                obtain rfl := Option.some.inj H
                go_wp2_with (first | ((with_reducible refine gate_callee (f := 26) rfl ?_); refine goesL_ (some 80) rfl rfl Try.func26 (by kernel_rfl) rfl #[.slice Ao16 t717.length co16, .int .i64 (wrap64 (1 + t715))] rfl (by (try simp only [List.map_toArray, List.map_cons, List.map_nil]); first | done | rfl | (simp only [List.length_drop, List.length_take]; rfl)) ?_; (with_reducible refine (prune_Numbers.calls k1 _ _ t717 (wrap64 (1 + t715)) t729 _ ?side1 ?side2 A34.out).mono ?_); (case side1 => repeat (first | exact (Kd.R_reads' HO_10.out).2.2 | (with_reducible refine Kd.C_alloc ?_ _) | (with_reducible refine Kd.C_drewN ?_ _) | (with_reducible refine Kd.C_drew ?_))); (case side2 => exact (Kd.R_reads' HO_10.out).2.1); rintro e w44 ⟨v730, rfl, ho0, hb⟩; refine ⟨_, rfl, ?_⟩; have n0_ := Aside0.mk (Kd.R_elder' (by (with_reducible repeat (first | apply Kd.R_alloc | apply Kd.R_drewN | apply Kd.R_drew)); exact HO_6.out) (Kd.R_base ho0) hb); have n1_ := Aside0.mk (Kd.R_elder' (by (with_reducible repeat (first | apply Kd.R_alloc | apply Kd.R_drewN | apply Kd.R_drew)); exact HO_10.out) (Kd.R_base ho0) hb); have n2_ := Aside0.mk (Kd.R_elder' (by (with_reducible repeat (first | apply Kd.R_alloc | apply Kd.R_drewN | apply Kd.R_drew)); exact HO_49.out) (Kd.R_base ho0) hb); have n3_ := Aside0.mk (Kd.R_lower ho0 (below_size (by repeat (first | (with_reducible first | exact HB.out | apply below_alloc | apply pw_below_drewN | apply below_drew1) | exact HB.out)))); have n4_ := Aside0.mk (below_step (by repeat (first | (with_reducible first | exact HB.out | apply below_alloc | apply pw_below_drewN | apply below_drew1) | exact HB.out)) hb); clear HO_6; clear HO_10; clear HO_49; clear HB; have HO_6 := n0_; have HO_10 := n1_; have HO_49 := n2_; have HO731 := n3_; have HB := n4_; clear n0_ n1_ n2_ n3_ n4_; (try clear hb); (try clear hb2); (try clear hk); (try clear hi); (try clear ho0)) | ((with_reducible refine gate_callee (f := 26) rfl ?_); refine goesL_ (some 83) rfl rfl Try.func26 (by kernel_rfl) rfl #[.slice Ao14 t708.length co14, .int .i64 (wrap64 (1 + t715))] rfl (by (try simp only [List.map_toArray, List.map_cons, List.map_nil]); first | done | rfl | (simp only [List.length_drop, List.length_take]; rfl)) ?_; (with_reducible refine (prune_Numbers.calls k1 _ _ t708 (wrap64 (1 + t715)) t732 _ ?side1 ?side2 A35.out).mono ?_); (case side1 => repeat (first | exact (Kd.R_reads' HO_6.out).2.2 | (with_reducible refine Kd.C_alloc ?_ _) | (with_reducible refine Kd.C_drewN ?_ _) | (with_reducible refine Kd.C_drew ?_))); (case side2 => exact (Kd.R_reads' HO_6.out).2.1); rintro e w45 ⟨v733, rfl, ho0, hb⟩; refine ⟨_, rfl, ?_⟩; have n0_ := Aside0.mk (Kd.R_elder' (by (with_reducible repeat (first | apply Kd.R_alloc | apply Kd.R_drewN | apply Kd.R_drew)); exact HO_6.out) (Kd.R_base ho0) hb); have n1_ := Aside0.mk (Kd.R_elder' (by (with_reducible repeat (first | apply Kd.R_alloc | apply Kd.R_drewN | apply Kd.R_drew)); exact HO_10.out) (Kd.R_base ho0) hb); have n2_ := Aside0.mk (Kd.R_elder' (by (with_reducible repeat (first | apply Kd.R_alloc | apply Kd.R_drewN | apply Kd.R_drew)); exact HO_49.out) (Kd.R_base ho0) hb); have n3_ := Aside0.mk (Kd.R_elder' (by (with_reducible repeat (first | apply Kd.R_alloc | apply Kd.R_drewN | apply Kd.R_drew)); exact HO731.out) (Kd.R_base ho0) hb); have n4_ := Aside0.mk (Kd.R_lower (Kd.R_new' ho0 (Kd.R_lt (by (with_reducible repeat (first | apply Kd.R_alloc | apply Kd.R_drewN | apply Kd.R_drew)); exact HO731.out))) (below_size (by repeat (first | (with_reducible first | exact HB.out | apply below_alloc | apply pw_below_drewN | apply below_drew1) | exact HB.out)))); have n5_ := Aside0.mk (below_step (by repeat (first | (with_reducible first | exact HB.out | apply below_alloc | apply pw_below_drewN | apply below_drew1) | exact HB.out)) hb); clear HO_6; clear HO_10; clear HO_49; clear HO731; clear HB; have HO_6 := n0_; have HO_10 := n1_; have HO_49 := n2_; have HO731 := n3_; have HO734 := n4_; have HB := n5_; clear n0_ n1_ n2_ n3_ n4_ n5_; (try clear hb); (try clear hb2); (try clear hk); (try clear hi); (try clear ho0)) | ((with_reducible refine gate_callee (f := 28) rfl ?_); refine goesL_ (some 88) rfl rfl Try.func28 (by kernel_rfl) rfl #[.slice Ao14 t708.length co14, .int .i64 (wrap64 (1 + t715)), .int .i64 (Int.tmod (wrap64 (a1)) 5)] rfl (by (try simp only [List.map_toArray, List.map_cons, List.map_nil]); first | done | rfl | (simp only [List.length_drop, List.length_take]; rfl)) ?_; (with_reducible refine (prune_Keep.calls k1 _ _ t708 (wrap64 (1 + t715)) (Int.tmod (wrap64 (a1)) 5) t735 _ ?side1 ?side2 A36.out).mono ?_); (case side1 => repeat (first | exact (Kd.R_reads' HO_6.out).2.2 | (with_reducible refine Kd.C_alloc ?_ _) | (with_reducible refine Kd.C_drewN ?_ _) | (with_reducible refine Kd.C_drew ?_))); (case side2 => exact (Kd.R_reads' HO_6.out).2.1); rintro e w46 ⟨v736, rfl, ho0, hb⟩; refine ⟨_, rfl, ?_⟩; have n0_ := Aside0.mk (Kd.R_elder' (by (with_reducible repeat (first | apply Kd.R_alloc | apply Kd.R_drewN | apply Kd.R_drew)); exact HO_6.out) (Kd.Q_base ho0) hb); have n1_ := Aside0.mk (Kd.R_elder' (by (with_reducible repeat (first | apply Kd.R_alloc | apply Kd.R_drewN | apply Kd.R_drew)); exact HO_10.out) (Kd.Q_base ho0) hb); have n2_ := Aside0.mk (Kd.R_elder' (by (with_reducible repeat (first | apply Kd.R_alloc | apply Kd.R_drewN | apply Kd.R_drew)); exact HO_49.out) (Kd.Q_base ho0) hb); have n3_ := Aside0.mk (Kd.R_elder' (by (with_reducible repeat (first | apply Kd.R_alloc | apply Kd.R_drewN | apply Kd.R_drew)); exact HO731.out) (Kd.Q_base ho0) hb); have n4_ := Aside0.mk (Kd.R_elder' (by (with_reducible repeat (first | apply Kd.R_alloc | apply Kd.R_drewN | apply Kd.R_drew)); exact HO734.out) (Kd.Q_base ho0) hb); have n5_ := Aside0.mk (Kd.Q_lower (Kd.Q_new' (Kd.Q_new' ho0 (Kd.R_lt (by (with_reducible repeat (first | apply Kd.R_alloc | apply Kd.R_drewN | apply Kd.R_drew)); exact HO731.out))) (Kd.R_lt (by (with_reducible repeat (first | apply Kd.R_alloc | apply Kd.R_drewN | apply Kd.R_drew)); exact HO734.out))) (below_size (by repeat (first | (with_reducible first | exact HB.out | apply below_alloc | apply pw_below_drewN | apply below_drew1) | exact HB.out)))); have n6_ := Aside0.mk (below_step (by repeat (first | (with_reducible first | exact HB.out | apply below_alloc | apply pw_below_drewN | apply below_drew1) | exact HB.out)) hb); clear HO_6; clear HO_10; clear HO_49; clear HO731; clear HO734; clear HB; have HO_6 := n0_; have HO_10 := n1_; have HO_49 := n2_; have HO731 := n3_; have HO734 := n4_; have HO737 := n5_; have HB := n6_; clear n0_ n1_ n2_ n3_ n4_ n5_ n6_; (try clear hb); (try clear hb2); (try clear hk); (try clear hi); (try clear ho0); obtain ⟨Ao47, co47, eo47⟩ := Kd.R_slice HO731.out; subst eo47; obtain ⟨Ao48, co48, eo48, _⟩ := Kd.Q_slice HO737.out; subst eo48) | ((with_reducible refine gate_callee (f := 27) rfl ?_); refine goesL_ (some 89) rfl rfl Try.func27 (by kernel_rfl) rfl #[.slice Ao47 t729.length co47, .slice Ao48 t735.length co48] rfl (by (try simp only [List.map_toArray, List.map_cons, List.map_nil]); first | done | rfl | (simp only [List.length_drop, List.length_take]; rfl)) ?_; (with_reducible refine (storagebarterref28_SameInts.calls k1 _ _ t729 _ _ t735 true _ ?side1 ?side2 ?side3 ?side4 A37.out).mono ?_); (case side1 => repeat (first | exact (Kd.R_reads' HO731.out).2.2 | (with_reducible refine Kd.C_alloc ?_ _) | (with_reducible refine Kd.C_drewN ?_ _) | (with_reducible refine Kd.C_drew ?_))); (case side2 => exact (Kd.R_reads' HO731.out).2.1); (case side3 => repeat (first | exact (Kd.Q_reads' HO737.out).2.2 | (with_reducible refine Kd.C_alloc ?_ _) | (with_reducible refine Kd.C_drewN ?_ _) | (with_reducible refine Kd.C_drew ?_))); (case side4 => exact (Kd.Q_reads' HO737.out).2.1); rintro e w' ⟨rfl, ⟨nd, rfl⟩⟩; refine ⟨_, rfl, ?_⟩; obtain ⟨Ao49, co49, eo49⟩ := Kd.R_slice HO734.out; subst eo49) | (go_at_call 26; (with_reducible refine (prune_Numbers.calls k1 _ _ t717 (wrap64 ((Int.tmod (wrap64 (1 + t715)) 3) + 1)) t739 _ ?side1 ?side2 A41.out).mono ?_); (case side1 => repeat (first | exact (Kd.R_reads' HO_10.out).2.2 | (with_reducible refine Kd.C_alloc ?_ _) | (with_reducible refine Kd.C_drewN ?_ _) | (with_reducible refine Kd.C_drew ?_))); (case side2 => exact (Kd.R_reads' HO_10.out).2.1); rintro e w50 ⟨v740, rfl, ho0, hb⟩; have n0_ := Aside0.mk (Kd.R_elder' (by (with_reducible repeat (first | apply Kd.R_alloc | apply Kd.R_drewN | apply Kd.R_drew)); exact HO_6.out) (Kd.R_base ho0) hb); have n1_ := Aside0.mk (Kd.R_elder' (by (with_reducible repeat (first | apply Kd.R_alloc | apply Kd.R_drewN | apply Kd.R_drew)); exact HO_10.out) (Kd.R_base ho0) hb); have n2_ := Aside0.mk (Kd.R_elder' (by (with_reducible repeat (first | apply Kd.R_alloc | apply Kd.R_drewN | apply Kd.R_drew)); exact HO_49.out) (Kd.R_base ho0) hb); have n3_ := Aside0.mk (Kd.R_elder' (by (with_reducible repeat (first | apply Kd.R_alloc | apply Kd.R_drewN | apply Kd.R_drew)); exact HO731.out) (Kd.R_base ho0) hb); have n4_ := Aside0.mk (Kd.R_elder' (by (with_reducible repeat (first | apply Kd.R_alloc | apply Kd.R_drewN | apply Kd.R_drew)); exact HO734.out) (Kd.R_base ho0) hb); have n5_ := Aside0.mk (Kd.Q_elder' (by (with_reducible repeat (first | apply Kd.Q_alloc | apply Kd.Q_drewN | apply Kd.Q_drew)); exact HO737.out) (Kd.R_base ho0) hb); have n6_ := Aside0.mk (Kd.R_lower (Kd.R_new' (Kd.R_new' (Kd.R_new' ho0 (Kd.R_lt (by (with_reducible repeat (first | apply Kd.R_alloc | apply Kd.R_drewN | apply Kd.R_drew)); exact HO731.out))) (Kd.R_lt (by (with_reducible repeat (first | apply Kd.R_alloc | apply Kd.R_drewN | apply Kd.R_drew)); exact HO734.out))) (Kd.Q_lt (by (with_reducible repeat (first | apply Kd.Q_alloc | apply Kd.Q_drewN | apply Kd.Q_drew)); exact HO737.out))) (below_size (by repeat (first | (with_reducible first | exact HB.out | apply below_alloc | apply pw_below_drewN | apply below_drew1) | exact HB.out)))); have n7_ := Aside0.mk (below_step (by repeat (first | (with_reducible first | exact HB.out | apply below_alloc | apply pw_below_drewN | apply below_drew1) | exact HB.out)) hb); clear HO_6; clear HO_10; clear HO_49; clear HO731; clear HO734; clear HO737; clear HB; have HO_6 := n0_; have HO_10 := n1_; have HO_49 := n2_; have HO731 := n3_; have HO734 := n4_; have HO737 := n5_; have HO741 := n6_; have HB := n7_; clear n0_ n1_ n2_ n3_ n4_ n5_ n6_ n7_; (try clear hb); (try clear hb2); (try clear hk); (try clear hi); (try clear ho0)) | (go_at_call 26; (with_reducible refine (prune_Numbers.calls k1 _ _ t708 (wrap64 ((Int.tmod (wrap64 (1 + t715)) 3) + 1)) t742 _ ?side1 ?side2 A42.out).mono ?_); (case side1 => repeat (first | exact (Kd.R_reads' HO_6.out).2.2 | (with_reducible refine Kd.C_alloc ?_ _) | (with_reducible refine Kd.C_drewN ?_ _) | (with_reducible refine Kd.C_drew ?_))); (case side2 => exact (Kd.R_reads' HO_6.out).2.1); rintro e w51 ⟨v743, rfl, ho0, hb⟩; have n0_ := Aside0.mk (Kd.R_elder' (by (with_reducible repeat (first | apply Kd.R_alloc | apply Kd.R_drewN | apply Kd.R_drew)); exact HO_6.out) (Kd.R_base ho0) hb); have n1_ := Aside0.mk (Kd.R_elder' (by (with_reducible repeat (first | apply Kd.R_alloc | apply Kd.R_drewN | apply Kd.R_drew)); exact HO_10.out) (Kd.R_base ho0) hb); have n2_ := Aside0.mk (Kd.R_elder' (by (with_reducible repeat (first | apply Kd.R_alloc | apply Kd.R_drewN | apply Kd.R_drew)); exact HO_49.out) (Kd.R_base ho0) hb); have n3_ := Aside0.mk (Kd.R_elder' (by (with_reducible repeat (first | apply Kd.R_alloc | apply Kd.R_drewN | apply Kd.R_drew)); exact HO731.out) (Kd.R_base ho0) hb); have n4_ := Aside0.mk (Kd.R_elder' (by (with_reducible repeat (first | apply Kd.R_alloc | apply Kd.R_drewN | apply Kd.R_drew)); exact HO734.out) (Kd.R_base ho0) hb); have n5_ := Aside0.mk (Kd.Q_elder' (by (with_reducible repeat (first | apply Kd.Q_alloc | apply Kd.Q_drewN | apply Kd.Q_drew)); exact HO737.out) (Kd.R_base ho0) hb); have n6_ := Aside0.mk (Kd.R_elder' (by (with_reducible repeat (first | apply Kd.R_alloc | apply Kd.R_drewN | apply Kd.R_drew)); exact HO741.out) (Kd.R_base ho0) hb); have n7_ := Aside0.mk (Kd.R_lower (Kd.R_new' (Kd.R_new' (Kd.R_new' (Kd.R_new' ho0 (Kd.R_lt (by (with_reducible repeat (first | apply Kd.R_alloc | apply Kd.R_drewN | apply Kd.R_drew)); exact HO731.out))) (Kd.R_lt (by (with_reducible repeat (first | apply Kd.R_alloc | apply Kd.R_drewN | apply Kd.R_drew)); exact HO734.out))) (Kd.Q_lt (by (with_reducible repeat (first | apply Kd.Q_alloc | apply Kd.Q_drewN | apply Kd.Q_drew)); exact HO737.out))) (Kd.R_lt (by (with_reducible repeat (first | apply Kd.R_alloc | apply Kd.R_drewN | apply Kd.R_drew)); exact HO741.out))) (below_size (by repeat (first | (with_reducible first | exact HB.out | apply below_alloc | apply pw_below_drewN | apply below_drew1) | exact HB.out)))); have n8_ := Aside0.mk (below_step (by repeat (first | (with_reducible first | exact HB.out | apply below_alloc | apply pw_below_drewN | apply below_drew1) | exact HB.out)) hb); clear HO_6; clear HO_10; clear HO_49; clear HO731; clear HO734; clear HO737; clear HO741; clear HB; have HO_6 := n0_; have HO_10 := n1_; have HO_49 := n2_; have HO731 := n3_; have HO734 := n4_; have HO737 := n5_; have HO741 := n6_; have HO744 := n7_; have HB := n8_; clear n0_ n1_ n2_ n3_ n4_ n5_ n6_ n7_ n8_; (try clear hb); (try clear hb2); (try clear hk); (try clear hi); (try clear ho0); obtain ⟨Ao52, co52, eo52⟩ := Kd.R_slice HO741.out; subst eo52; obtain ⟨Ao53, co53, eo53⟩ := Kd.R_slice HO744.out; subst eo53) | (go_at_call 27; (with_reducible refine (storagebarterref28_SameInts.calls k1 _ _ t739 _ _ t742 t745 _ ?side1 ?side2 ?side3 ?side4 A43.out).mono ?_); (case side1 => repeat (first | exact (Kd.R_reads' HO741.out).2.2 | (with_reducible refine Kd.C_alloc ?_ _) | (with_reducible refine Kd.C_drewN ?_ _) | (with_reducible refine Kd.C_drew ?_))); (case side2 => exact (Kd.R_reads' HO741.out).2.1); (case side3 => repeat (first | exact (Kd.R_reads' HO744.out).2.2 | (with_reducible refine Kd.C_alloc ?_ _) | (with_reducible refine Kd.C_drewN ?_ _) | (with_reducible refine Kd.C_drew ?_))); (case side4 => exact (Kd.R_reads' HO744.out).2.1); rintro e w' ⟨rfl, ⟨nd, rfl⟩⟩))
                go_ret
                exact ⟨by first | rfl | (simp [errW_none, errW_some] <;> rfl) | (simp only [← hji39]; first | rfl | (simp [errW_none, errW_some] <;> rfl)) | (simp [*, errW_none, errW_some] <;> rfl), by repeat (first | (with_reducible first | exact HB.out | apply below_alloc | apply pw_below_drewN | apply below_drew1) | exact HB.out)⟩
              · rw [if_neg c40] at H
                exact absurd (H.trans (congrArg some RT_.out)) (by simp)
            · replace c38 := Bool.eq_false_iff.mpr c38
              subst c38
              have H1 : (some false) = some r := by rw [if_neg (show ¬ (false = true) by decide)] at H; exact H
              clear H
              have H := H1
              clear H1
              exact absurd (H.trans (congrArg some RT_.out)) (by simp)
    · rw [if_neg c9] at H
      exact absurd (H.trans (congrArg some RT_.out)) (by simp)
  · replace c4 := Bool.eq_false_iff.mpr c4
    subst c4
    have H1 : (some false) = some r := by rw [if_neg (show ¬ (false = true) by decide)] at H; exact H
    clear H
    have H := H1
    clear H1
    exact absurd (H.trans (congrArg some RT_.out)) (by simp)

/-- THE ONE PURE STATEMENT of storagebarterlaw39_PruneKeeps: yours. -/
def storagebarterlaw39_PruneKeeps.Pure : Prop := ∀ (l0 : List Int) (a1 : Int), l0.length ≤ maxLen → l0.length * 1 ≤ 140737488351232 → (∀ x ∈ l0, (Lit.int .u8 x).wf = true) → (Lit.int .u8 a1).wf = true → ∃ k, storagebarterlaw39_PruneKeeps.f k l0 a1 = some true
theorem storagebarterlaw39_PruneKeeps.walk (P : storagebarterlaw39_PruneKeeps.Pure) (a0 : Option Addr) (len0 cap0 : Nat) (z0 : List Int) (a1 : Int) (w : World) (w0 : (a0 = none ∧ len0 = 0 ∧ cap0 = 0 ∧ z0 = []) ∨ ∃ x, a0 = some x ∧ len0 ≤ cap0 ∧ cap0 ≤ maxLen ∧ z0.length = cap0 ∧ (∀ i, i < z0.length → w.cell? (x.add i) = some (.int .u8 (z0.getD i 0))) ∧ ∀ n ∈ z0, (Lit.int .u8 n).wf = true) (y0 : len0 * 1 ≤ 140737488351232) (w1 : (Lit.int .u8 a1).wf = true) :
    Calls Try.prog 6 #[.slice a0 len0 cap0, .int .u8 a1] w fun e w' => e = .returned (.bool true) ∧ Below w.heap.size w w' := by
  obtain ⟨l0, rfl, hr0, hm0, hw0, hc0⟩ := ReadsInt.ofRowC w0
  obtain ⟨k, h⟩ := P l0 a1 hm0 y0 hw0 w1
  refine (storagebarterlaw39_PruneKeeps.calls k _ _ l0 a1 true w (Kd.C_of_reads (d := (0 : Int)) (h1 := fun _ => rfl) hr0) hc0 h rfl).mono ?_
  rintro e w' ⟨rfl, hd⟩
  exact ⟨rfl, hd⟩

end Go.Proofs.Ytlkgmfhgnfgmiaa.Q

/- The printed functions of 'prune' in plain words: numbers, what is kept, what stays and what goes; the dice and what they make. -/
namespace Go.Proofs.Ytlkgmfhgnfgmiaa.Gpr
open Go Go.RowKit Go.Proofs.Ytlkgmfhgnfgmiaa.Gnum Go.Proofs.Ytlkgmfhgnfgmiaa.Q Go.Proofs.YtlkgmfhgnfgmiaaW.PrintWords Go.Proofs.YtlkgmfhgnfgmiaaW.PrintLast Go.Proofs.YtlkgmfhgnfgmiaaW.PrintMore
set_option linter.unusedVariables false

theorem w64 {x : Int} (h : -9223372036854775808 ≤ x ∧ x ≤ 9223372036854775807) : wrap64 x = x := by unfold wrap64; omega

theorem rd_get (l : List S29) (i : Nat) (h : i < l.length) : rd_T29 l (i : Int) = l[i] := by simp [rd_T29, List.getD, h]
theorem rdI_get (l : List Int) (i : Nat) (h : i < l.length) : rd l (i : Int) = l[i] := by simp [rd, List.getD, h]

section
variable (l : List S29) (o : Int)

def ofOwner : List Int := (l.filter (fun b => decide (b.f0 = o))).map (·.f1)
def numbersOf : List Int := nums (ofOwner l o)
def stays (keep : List Int) (b : S29) : Bool := decide (b.f0 ≠ o ∨ b.f1 ∈ keep)
def stayOf (keep : List Int) : List S29 := l.filter (stays o keep)
def goneOf (keep : List Int) : List S29 := l.filter (fun b => !stays o keep b)

theorem mem_numbers (x : Int) : x ∈ numbersOf l o ↔ ∃ b ∈ l, b.f0 = o ∧ b.f1 = x := by
  unfold numbersOf ofOwner
  rw [nums_mem, List.mem_map]
  constructor
  · rintro ⟨b, hb, rfl⟩
    obtain ⟨h1, h2⟩ := List.mem_filter.1 hb
    exact ⟨b, h1, by simpa using h2, rfl⟩
  · rintro ⟨b, hb, h, rfl⟩
    exact ⟨b, List.mem_filter.2 ⟨hb, by simpa using h⟩, rfl⟩

theorem part_len (keep : List Int) : (stayOf l o keep).length + (goneOf l o keep).length = l.length := by
  unfold stayOf goneOf
  generalize stays o keep = p
  induction l with
  | nil => rfl
  | cons x l ih =>
    cases h : p x
    · simp [List.filter_cons, h]
      omega
    · simp [List.filter_cons, h]
      omega

theorem gone_owner {keep : List Int} {x : S29} (h : x ∈ goneOf l o keep) : x ∈ l ∧ x.f0 = o ∧ x.f1 ∉ keep := by
  obtain ⟨h1, h2⟩ := List.mem_filter.1 h
  have h3 : ¬ (x.f0 ≠ o ∨ x.f1 ∈ keep) := by simpa [stays] using h2
  exact ⟨h1, Classical.byContradiction fun e => h3 (Or.inl e), fun e => h3 (Or.inr e)⟩

theorem gone_newer (n : Nat) {x : S29} (h : x ∈ goneOf l o (lastN (numbersOf l o) n)) : n ≤ ((numbersOf l o).filter (fun m => decide (x.f1 < m))).length := by
  obtain ⟨h1, h2, h3⟩ := gone_owner l o h
  have hm : x.f1 ∈ numbersOf l o := (mem_numbers l o _).2 ⟨x, h1, h2, rfl⟩
  obtain ⟨e, ha⟩ := lastN_above (nums_asc _) n hm h3
  have hs : ((lastN (numbersOf l o) n).filter (fun m => decide (x.f1 < m))).Sublist ((numbersOf l o).filter (fun m => decide (x.f1 < m))) := (List.drop_sublist _ _).filter _
  have hf : (lastN (numbersOf l o) n).filter (fun m => decide (x.f1 < m)) = lastN (numbersOf l o) n := List.filter_eq_self.2 fun y hy => by simpa using ha y hy
  have := hs.length_le
  rw [hf] at this
  have e' : (lastN (numbersOf l o) n).length = n := e
  omega

theorem left_keep (n : Nat) : numbersOf (stayOf l o (lastN (numbersOf l o) n)) o = lastN (numbersOf l o) n := by
  refine asc_ext _ _ (nums_asc _) (lastN_asc (nums_asc _) n) fun x => ?_
  rw [mem_numbers]
  constructor
  · rintro ⟨b, hb, h1, rfl⟩
    obtain ⟨h2, h3⟩ := List.mem_filter.1 hb
    have h4 : b.f0 ≠ o ∨ b.f1 ∈ lastN (numbersOf l o) n := by simpa [stays] using h3
    exact h4.resolve_left fun e => e h1
  · intro hx
    obtain ⟨b, hb, h1, rfl⟩ := (mem_numbers l o x).1 (lastN_sub hx)
    exact ⟨b, List.mem_filter.2 ⟨hb, by simp only [stays]; exact decide_eq_true (Or.inr hx)⟩, h1, rfl⟩

theorem left_other (keep : List Int) (o' : Int) (ho : o' ≠ o) : numbersOf (stayOf l o keep) o' = numbersOf l o' := by
  refine asc_ext _ _ (nums_asc _) (nums_asc _) fun x => ?_
  rw [mem_numbers, mem_numbers]
  constructor
  · rintro ⟨b, hb, h1, rfl⟩
    exact ⟨b, (List.mem_filter.1 hb).1, h1, rfl⟩
  · rintro ⟨b, hb, h1, rfl⟩
    exact ⟨b, List.mem_filter.2 ⟨hb, by simp only [stays]; exact decide_eq_true (Or.inl (by rw [h1]; exact ho))⟩, h1, rfl⟩
end

theorem ofOwner_len (l : List S29) (o : Int) : (ofOwner l o).length ≤ l.length := by
  unfold ofOwner
  rw [List.length_map]
  exact List.length_filter_le _ _

theorem numbers_len (l : List S29) (o : Int) : (numbersOf l o).length ≤ l.length := by
  have h1 : (numbersOf l o).length ≤ (srt (ofOwner l o)).length := Lib.compact_length_le _
  have h2 : (srt (ofOwner l o)).length = (ofOwner l o).length := List.length_mergeSort _
  have := ofOwner_len l o
  omega

theorem ofOwner_succ (l : List S29) (o : Int) (i : Nat) (h : i < l.length) : ofOwner (l.take (i + 1)) o = ofOwner (l.take i) o ++ (if l[i].f0 = o then [l[i].f1] else []) := by
  unfold ofOwner
  rw [List.take_succ_eq_append_getElem h, List.filter_append, List.map_append]
  by_cases e : l[i].f0 = o <;> simp [List.filter, e]

theorem Numbers_l0 (l : List S29) (o : Int) (hl : l.length ≤ 1000) : ∀ (d i k : Nat), l.length - i = d → i ≤ l.length → d < k →
    prune_Numbers.l0 k o (ofOwner (l.take i) o) l (l.length : Int) (i : Int) = some (numbersOf l o) := by
  intro d
  induction d with
  | zero =>
    intro i k hd hi hk
    obtain ⟨k, rfl⟩ : ∃ m, k = m + 1 := ⟨k - 1, by omega⟩
    have e : l.take i = l := List.take_of_length_le (by omega)
    have h1 := ofOwner_len l o
    have h2 : (srt (ofOwner l o)).length = (ofOwner l o).length := List.length_mergeSort _
    rw [prune_Numbers.l0, if_neg (by omega), e, if_pos (by simp only [List.length_nil]; omega), Option.bind_some, if_pos (by simp only [List.length_nil]; omega)]
    rfl
  | succ d ih =>
    intro i k hd hi hk
    obtain ⟨k, rfl⟩ : ∃ m, k = m + 1 := ⟨k - 1, by omega⟩
    have hil : i < l.length := by omega
    have h1 := ofOwner_len (l.take i) o
    rw [List.length_take] at h1
    have hs := ofOwner_succ l o i hil
    have ih' := ih (i + 1) k (by omega) (by omega) (by omega)
    rw [prune_Numbers.l0, if_pos (by omega), if_pos (by omega), if_pos (by omega), rd_get l i hil, w64 (by omega), show ((i : Int) + 1) = ((i + 1 : Nat) : Int) by omega]
    by_cases e : l[i].f0 = o
    · rw [if_pos e] at hs
      rw [if_pos e, if_pos (by omega), ← hs]
      exact ih'
    · rw [if_neg e, List.append_nil] at hs
      rw [if_neg e, ← hs]
      exact ih'

theorem Numbers_eq (l : List S29) (o : Int) (k : Nat) (hl : l.length ≤ 1000) (hk : 1001 ≤ k) : prune_Numbers.f k l o = some (numbersOf l o) := by
  unfold prune_Numbers.f
  have := Numbers_l0 l o hl l.length 0 k (by omega) (by omega) (by omega)
  simpa [ofOwner] using this

theorem Keep_eq (l : List S29) (o : Int) (n : Nat) (k : Nat) (hl : l.length ≤ 1000) (hn : n ≤ 1000) (hk : 1001 ≤ k) : prune_Keep.f k l o (n : Int) = some (lastN (numbersOf l o) n) := by
  unfold prune_Keep.f
  have h1 := numbers_len l o
  rw [Numbers_eq l o k hl hk, Option.bind_some]
  have e : ((numbersOf l o).length : Int) - mn ((numbersOf l o).length : Int) (mx 0 (n : Int)) = (((numbersOf l o).length - n : Nat) : Int) := by
    unfold mn mx
    split <;> split <;> omega
  rw [e, w64 (by omega), if_pos (by omega), if_pos (by omega), Int.toNat_natCast]
  rfl

theorem Index_l0 (l : List Int) (x : Int) (hl : l.length ≤ 1000000) : ∀ (d i k : Nat), l.length - i = d → i ≤ l.length → d < k → ∃ r, slices_Index_int_int.l0 k l x (l.length : Int) (i : Int) = some r ∧ (r ≥ 0 ↔ x ∈ l.drop i) := by
  intro d
  induction d with
  | zero =>
    intro i k hd hi hk
    obtain ⟨k, rfl⟩ : ∃ m, k = m + 1 := ⟨k - 1, by omega⟩
    exact ⟨-1, by rw [slices_Index_int_int.l0, if_neg (by omega)], by rw [List.drop_of_length_le (by omega)]; simp⟩
  | succ d ih =>
    intro i k hd hi hk
    obtain ⟨k, rfl⟩ : ∃ m, k = m + 1 := ⟨k - 1, by omega⟩
    have hil : i < l.length := by omega
    rw [slices_Index_int_int.l0, if_pos (by omega), if_pos (by omega), if_pos (by omega), rdI_get l i hil, List.drop_eq_getElem_cons hil]
    by_cases e : x = l[i]
    · exact ⟨i, by rw [if_pos e], ⟨fun _ => by rw [e]; exact List.mem_cons_self, fun _ => by omega⟩⟩
    · obtain ⟨r, h1, h2⟩ := ih (i + 1) k (by omega) (by omega) (by omega)
      refine ⟨r, by rw [if_neg e, w64 (by omega), show ((i : Int) + 1) = ((i + 1 : Nat) : Int) by omega]; exact h1, h2.trans ?_⟩
      rw [List.mem_cons]
      exact ⟨Or.inr, fun z => z.resolve_left e⟩

theorem Contains_eq (l : List Int) (x : Int) (k : Nat) (hl : l.length ≤ 1000000) (hk : l.length < k) : slices_Contains_int_int.f k l x = some (decide (x ∈ l)) := by
  unfold slices_Contains_int_int.f slices_Index_int_int.f
  obtain ⟨r, h1, h2⟩ := Index_l0 l x hl l.length 0 k (by omega) (by omega) hk
  rw [show ((0 : Nat) : Int) = 0 from rfl] at h1
  rw [h1, Option.bind_some, decide_eq_decide.2 (by simpa using h2)]

theorem Own_eq (a b c : Int) (l4 : List S74) (k : Nat) (hl : l4.length ≤ 1000000) (hk : 1 ≤ k) : backup_Own.f k a b c [] l4 = some (a, b, c, [], l4) := by
  obtain ⟨k, rfl⟩ : ∃ m, k = m + 1 := ⟨k - 1, by omega⟩
  unfold backup_Own.f api_Place_78.f api_Stripe.f
  rw [if_pos hl, Option.bind_some, Option.bind_some, backup_Own.l0, if_neg (by simp)]

/-- Backups without stripes, with few places. -/
def Plain (l : List S29) : Prop := ∀ b ∈ l, b.f3 = [] ∧ b.f4.length ≤ 1000

theorem Plain.stay {l : List S29} (h : Plain l) (o : Int) (keep : List Int) : Plain (stayOf l o keep) := fun b hb => h b (List.mem_filter.1 hb).1

theorem filter_succ (l : List S29) (p : S29 → Bool) (i : Nat) (h : i < l.length) : (l.take (i + 1)).filter p = (l.take i).filter p ++ (if p l[i] = true then [l[i]] else []) := by
  rw [List.take_succ_eq_append_getElem h, List.filter_append]
  by_cases e : p l[i] = true <;> simp [List.filter, e]

theorem Drop_l0 (l : List S29) (o : Int) (keep : List Int) (hk0 : keep.length ≤ 1000) (hl : l.length ≤ 1000) (hp : Plain l) : ∀ (d i k : Nat), l.length - i = d → i ≤ l.length → 2000 + 2 * d ≤ k →
    prune_Drop.l0 k o keep (stayOf (l.take i) o keep) (goneOf (l.take i) o keep) l (l.length : Int) (i : Int) = some (stayOf l o keep, goneOf l o keep) := by
  intro d
  induction d with
  | zero =>
    intro i k hd hi hk
    obtain ⟨k, rfl⟩ : ∃ m, k = m + 1 := ⟨k - 1, by omega⟩
    rw [prune_Drop.l0, if_neg (by omega), List.take_of_length_le (by omega)]
  | succ d ih =>
    intro i k hd hi hk
    obtain ⟨k, rfl⟩ : ∃ m, k = m + 2 := ⟨k - 2, by omega⟩
    have hil : i < l.length := by omega
    have ih' := ih (i + 1) k (by omega) (by omega) (by omega)
    have hs : stayOf (l.take (i + 1)) o keep = _ := filter_succ l (stays o keep) i hil
    have hg : goneOf (l.take (i + 1)) o keep = _ := filter_succ l (fun b => !stays o keep b) i hil
    have hb := hp l[i] (List.getElem_mem hil)
    have hl1 : (stayOf (l.take i) o keep).length ≤ 1000 := by
      have := List.length_filter_le (stays o keep) (l.take i)
      rw [List.length_take] at this
      unfold stayOf
      omega
    have hl2 : (goneOf (l.take i) o keep).length ≤ 1000 := by
      have := List.length_filter_le (fun b => !stays o keep b) (l.take i)
      rw [List.length_take] at this
      unfold goneOf
      omega
    have e0 : prune_Drop.l0 (k + 2) o keep (stayOf (l.take i) o keep) (goneOf (l.take i) o keep) l (l.length : Int) (i : Int) =
        prune_Drop.j1 (k + 1) o keep (stayOf (l.take i) o keep) (goneOf (l.take i) o keep) l (l.length : Int) (i : Int) (stays o keep l[i]) l[i].f0 l[i].f1 l[i].f2 l[i].f3 l[i].f4 := by
      rw [prune_Drop.l0, if_pos (by omega), if_pos (by omega), if_pos (by omega), rd_get l i hil]
      by_cases e : l[i].f0 = o
      · rw [if_pos e, Contains_eq _ _ _ (by omega) (by omega), Option.bind_some]
        congr 1
        simp [stays, e]
      · rw [if_neg e]
        congr 1
        simp [stays, e]
    have hx : (⟨l[i].f0, l[i].f1, l[i].f2, [], l[i].f4⟩ : S29) = l[i] := by rw [← hb.1]
    rw [e0, prune_Drop.j1, hb.1, Own_eq _ _ _ _ _ (by omega) (by omega), Option.bind_some, hx, w64 (by omega), show ((i : Int) + 1) = ((i + 1 : Nat) : Int) by omega]
    by_cases e : stays o keep l[i] = true
    · rw [if_pos e] at hs
      rw [if_neg (by simp [e]), List.append_nil] at hg
      rw [if_pos e, if_pos (by omega)]
      unfold stayOf at hs ih' ⊢
      unfold goneOf at hg ih' ⊢
      rw [← hs, ← hg]
      exact ih'
    · rw [if_neg e, List.append_nil] at hs
      rw [if_pos (by simp [e])] at hg
      rw [if_neg e, Option.bind_some, if_pos (by omega)]
      simp only
      rw [hx]
      unfold stayOf at hs ih' ⊢
      unfold goneOf at hg ih' ⊢
      rw [← hs, ← hg]
      exact ih'

theorem Drop_eq (l : List S29) (o : Int) (n : Nat) (k : Nat) (hl : l.length ≤ 1000) (hn : n ≤ 1000) (hp : Plain l) (hk : 4000 ≤ k) : prune_Drop.f k l o (n : Int) = some (stayOf l o (lastN (numbersOf l o) n), goneOf l o (lastN (numbersOf l o) n)) := by
  unfold prune_Drop.f
  have h1 := numbers_len l o
  have h2 := lastN_len (numbersOf l o) n
  rw [Keep_eq l o n k hl hn (by omega), Option.bind_some]
  have := Drop_l0 l o (lastN (numbersOf l o) n) (by omega) hl hp l.length 0 k (by omega) (by omega) (by omega)
  simpa [stayOf, goneOf] using this

theorem SameInts_l0 (l : List Int) (hl : l.length ≤ 1000000) : ∀ (d i k : Nat), l.length - i = d → i ≤ l.length → d < k → storagebarterref28_SameInts.l0 k l l (i : Int) = some true := by
  intro d
  induction d with
  | zero =>
    intro i k hd hi hk
    obtain ⟨k, rfl⟩ : ∃ m, k = m + 1 := ⟨k - 1, by omega⟩
    rw [storagebarterref28_SameInts.l0, if_neg (by omega)]
  | succ d ih =>
    intro i k hd hi hk
    obtain ⟨k, rfl⟩ : ∃ m, k = m + 1 := ⟨k - 1, by omega⟩
    rw [storagebarterref28_SameInts.l0, if_pos (by omega), if_pos (by omega), if_pos (by omega), if_pos rfl, w64 (by omega), show ((i : Int) + 1) = ((i + 1 : Nat) : Int) by omega]
    exact ih (i + 1) k (by omega) (by omega) (by omega)

theorem SameInts_eq (l : List Int) (k : Nat) (hl : l.length ≤ 1000000) (hk : l.length < k) : storagebarterref28_SameInts.f k l l = some true := by
  unfold storagebarterref28_SameInts.f
  rw [if_pos rfl]
  exact SameInts_l0 l hl l.length 0 k (by omega) (by omega) hk

/-! ### Dice -/

/-- Seeds. -/
def Seeds (L : List Int) : Prop := L.length ≤ 300 ∧ ∀ x ∈ L, 0 ≤ x ∧ x ≤ 255

theorem New_ok (l : List Int) (h : ∀ x ∈ l, (Lit.int .u8 x).wf = true) : ∃ L, storagebarterplay_New.f l = some (L, 0) ∧ Seeds L := by
  unfold storagebarterplay_New.f
  by_cases h3 : (l.length : Int) > 300
  · rw [if_pos h3, if_pos (by omega)]
    refine ⟨_, rfl, by rw [List.length_take]; omega, fun x hx => ?_⟩
    have := bounds_u8 (h x (List.mem_of_mem_take hx))
    omega
  · rw [if_neg h3]
    refine ⟨_, rfl, by omega, fun x hx => ?_⟩
    have := bounds_u8 (h x hx)
    omega

theorem Pick_ok {L : List Int} (hL : Seeds L) (at_ n : Int) (h0 : 0 ≤ at_) (hn : 1 ≤ n) (hb : n ≤ 1000000) : ∃ t at', storagebarterplay_Dice_Pick.f L at_ n = some (t, at') ∧ 0 ≤ t ∧ t < n ∧ 0 ≤ at' := by
  obtain ⟨hl, hv⟩ := hL
  unfold storagebarterplay_Dice_Pick.f
  by_cases h : at_ ≥ (L.length : Int)
  · rw [if_pos h]
    exact ⟨0, at_, rfl, by omega, by omega, h0⟩
  · rw [if_neg h, w64 (x := at_ + 1) (by omega), show at_ + 1 - 1 = at_ by omega, w64 (x := at_) (by omega), if_pos h0, if_pos (by omega), if_neg (by omega)]
    obtain ⟨i, rfl⟩ : ∃ i : Nat, at_ = i := ⟨at_.toNat, by omega⟩
    have hil : i < L.length := by omega
    rw [rdI_get L i hil]
    have hx := hv L[i] (List.getElem_mem hil)
    rw [w64 (x := L[i]) (by omega), Int.tmod_eq_emod_of_nonneg hx.1]
    exact ⟨_, _, rfl, Int.emod_nonneg _ (by omega), Int.emod_lt_of_pos _ (by omega), by omega⟩

theorem Shard_ok {L : List Int} (hL : Seeds L) (at_ : Int) (h0 : 0 ≤ at_) : ∃ t at', storagebarterplay_Dice_Shard.f L at_ = some (t, at') ∧ 0 ≤ at' := by
  unfold storagebarterplay_Dice_Shard.f
  obtain ⟨t, at', e, h1, h2, h3⟩ := Pick_ok hL at_ 4 h0 (by omega) (by omega)
  rw [Option.bind_some, e, Option.bind_some, if_pos h1, if_pos (by simpa using h2)]
  exact ⟨_, _, rfl, h3⟩

theorem made_l2 {L : List Int} (hL : Seeds L) (l : List S29) : ∀ (n : Nat) (sh : List S72) (at_ : Int) (k : Nat), 0 ≤ at_ → n < k → sh.length + n ≤ 1000 → ∃ sh' at', storagebarterlaw39_made.l2 k l sh (n : Int) L at_ = some (l, sh', at') ∧ 0 ≤ at' := by
  intro n
  induction n with
  | zero =>
    intro sh at_ k h0 hk hl
    obtain ⟨k, rfl⟩ : ∃ m, k = m + 1 := ⟨k - 1, by omega⟩
    rw [storagebarterlaw39_made.l2, if_neg (by omega)]
    exact ⟨_, _, rfl, h0⟩
  | succ n ih =>
    intro sh at_ k h0 hk hl
    obtain ⟨k, rfl⟩ : ∃ m, k = m + 1 := ⟨k - 1, by omega⟩
    obtain ⟨t1, a1, e1, -, -, h1⟩ := Pick_ok hL at_ 3 h0 (by omega) (by omega)
    obtain ⟨t2, a2, e2, -, -, h2⟩ := Pick_ok hL a1 4 h1 (by omega) (by omega)
    obtain ⟨t3, a3, e3, -, -, h3⟩ := Pick_ok hL a2 2 h2 (by omega) (by omega)
    obtain ⟨t4, a4, e4, -, -, h4⟩ := Pick_ok hL a3 3 h3 (by omega) (by omega)
    obtain ⟨t5, a5, e5, h5⟩ := Shard_ok hL a4 h4
    rw [storagebarterlaw39_made.l2, if_pos (by omega), e1, Option.bind_some, e2, Option.bind_some, e3, Option.bind_some, e4, Option.bind_some, e5, Option.bind_some, if_pos (by omega), w64 (x := ((n + 1 : Nat) : Int) - 1) (by omega), show (((n + 1 : Nat) : Int) - 1) = (n : Int) by omega]
    refine ih _ _ k h5 (by omega) ?_
    rw [List.length_append, List.length_singleton]
    omega

theorem made_l1 {L : List Int} (hL : Seeds L) (l : List S29) (hl : l.length ≤ 1000) (x5 : Int) (o m : Int) (K : Nat) (R : List S29 → List S72 → Int → Prop)
    (hc : ∀ (k : Nat) (pl : List S74) (at' : Int), K ≤ k → pl.length ≤ 10 → 0 ≤ at' → ∃ l' sh at'', storagebarterlaw39_made.l0 k (l ++ [⟨o, m, 0, [], pl⟩]) (wrap64 (x5 - 1)) L at' = some (l', sh, at'') ∧ R l' sh at'') :
    ∀ (n : Nat) (pl : List S74) (at_ : Int) (k : Nat), 0 ≤ at_ → K + 1 + n ≤ k → pl.length + n ≤ 10 → ∃ l' sh at'', storagebarterlaw39_made.l1 k l x5 (n : Int) L at_ o m 0 pl = some (l', sh, at'') ∧ R l' sh at'' := by
  intro n
  induction n with
  | zero =>
    intro pl at_ k h0 hk hp
    obtain ⟨k, rfl⟩ : ∃ m, k = m + 1 := ⟨k - 1, by omega⟩
    rw [storagebarterlaw39_made.l1, if_neg (by omega), if_pos (by omega)]
    exact hc k pl at_ (by omega) (by omega) h0
  | succ n ih =>
    intro pl at_ k h0 hk hp
    obtain ⟨k, rfl⟩ : ∃ m, k = m + 1 := ⟨k - 1, by omega⟩
    obtain ⟨t1, a1, e1, -, -, h1⟩ := Pick_ok hL at_ 2 h0 (by omega) (by omega)
    obtain ⟨t2, a2, e2, -, -, h2⟩ := Pick_ok hL a1 3 h1 (by omega) (by omega)
    obtain ⟨t3, a3, e3, -, -, h3⟩ := Pick_ok hL a2 2 h2 (by omega) (by omega)
    rw [storagebarterlaw39_made.l1, if_pos (by omega), e1, Option.bind_some, e2, Option.bind_some, e3, Option.bind_some, if_pos (by omega), w64 (x := ((n + 1 : Nat) : Int) - 1) (by omega), show (((n + 1 : Nat) : Int) - 1) = (n : Int) by omega]
    refine ih _ _ k h3 (by omega) ?_
    rw [List.length_append, List.length_singleton]
    omega

theorem made_l0 {L : List Int} (hL : Seeds L) : ∀ (n : Nat) (l : List S29) (at_ : Int) (k : Nat), 0 ≤ at_ → Plain l → l.length + n ≤ 10 → 100 + 20 * n ≤ k →
    ∃ l' sh at'', storagebarterlaw39_made.l0 k l (n : Int) L at_ = some (l', sh, at'') ∧ (Plain l' ∧ l'.length ≤ 10 ∧ 0 ≤ at'') := by
  intro n
  induction n with
  | zero =>
    intro l at_ k h0 hp hl hk
    obtain ⟨k, rfl⟩ : ∃ m, k = m + 1 := ⟨k - 1, by omega⟩
    obtain ⟨t, a, e, h1, h2, h3⟩ := Pick_ok hL at_ 8 h0 (by omega) (by omega)
    rw [storagebarterlaw39_made.l0, if_neg (by omega), e, Option.bind_some]
    obtain ⟨m, rfl⟩ : ∃ m : Nat, t = m := ⟨t.toNat, by omega⟩
    obtain ⟨sh, a2, e2, h4⟩ := made_l2 hL l m [] a k h3 (by omega) (by rw [List.length_nil]; omega)
    exact ⟨_, _, _, e2, hp, by omega, h4⟩
  | succ n ih =>
    intro l at_ k h0 hp hl hk
    obtain ⟨k, rfl⟩ : ∃ m, k = m + 1 := ⟨k - 1, by omega⟩
    obtain ⟨t1, a1, e1, p1, q1, h1⟩ := Pick_ok hL at_ 3 h0 (by omega) (by omega)
    obtain ⟨t2, a2, e2, p2, q2, h2⟩ := Pick_ok hL a1 4 h1 (by omega) (by omega)
    obtain ⟨t3, a3, e3, p3, q3, h3⟩ := Pick_ok hL a2 4 h2 (by omega) (by omega)
    obtain ⟨m, rfl⟩ : ∃ m : Nat, t3 = m := ⟨t3.toNat, by omega⟩
    rw [storagebarterlaw39_made.l0, if_pos (by omega), e1, Option.bind_some, e2, Option.bind_some, e3, Option.bind_some]
    refine made_l1 hL l (by omega) _ _ _ (100 + 20 * n) (fun l' sh at'' => Plain l' ∧ l'.length ≤ 10 ∧ 0 ≤ at'') ?_ m [] a3 k h3 (by omega) (by rw [List.length_nil]; omega)
    intro k' pl at' hk' hpl hat
    rw [w64 (x := ((n + 1 : Nat) : Int) - 1) (by omega), show (((n + 1 : Nat) : Int) - 1) = (n : Int) by omega]
    refine ih _ _ k' hat ?_ (by rw [List.length_append, List.length_singleton]; omega) hk'
    intro b hb
    rcases List.mem_append.1 hb with e | e
    · exact hp b e
    · rw [List.mem_singleton.1 e]
      exact ⟨rfl, by simp only; omega⟩

theorem made_ok {L : List Int} (hL : Seeds L) (at_ : Int) (h0 : 0 ≤ at_) (k : Nat) (hk : 400 ≤ k) : ∃ l sh at', storagebarterlaw39_made.f k L at_ = some (l, sh, at') ∧ Plain l ∧ l.length ≤ 10 ∧ 0 ≤ at' := by
  unfold storagebarterlaw39_made.f
  obtain ⟨t, a, e, h1, h2, h3⟩ := Pick_ok hL at_ 6 h0 (by omega) (by omega)
  obtain ⟨m, rfl⟩ : ∃ m : Nat, t = m := ⟨t.toNat, by omega⟩
  rw [e, Option.bind_some]
  exact made_l0 hL m [] a k h3 (fun b hb => by cases hb) (by rw [List.length_nil]; omega) (by omega)

theorem law39_sane (k : Nat) (hk : 4000 ≤ k) : storagebarterlaw39_sane.f k = some true := by
  unfold storagebarterlaw39_sane.f
  generalize hy : [(⟨1, 5, 0, ([] : List S48), ([] : List S74)⟩ : S29), (⟨1, 1, 0, ([] : List S48), ([] : List S74)⟩ : S29), (⟨2, 7, 0, ([] : List S48), ([] : List S74)⟩ : S29), (⟨1, 2, 0, ([] : List S48), ([] : List S74)⟩ : S29)] = y
  have hl : y.length = 4 := by rw [← hy]; rfl
  have hp : Plain y := by
    rw [← hy]
    intro b hb
    simp only [List.mem_cons, List.not_mem_nil, or_false] at hb
    rcases hb with rfl | rfl | rfl | rfl <;> exact ⟨rfl, by simp⟩
  have hn : numbersOf y 1 = [1, 2, 5] := by
    refine asc_ext _ _ (nums_asc _) (by decide) fun x => ?_
    rw [mem_numbers, ← hy]
    simp only [List.mem_cons, List.not_mem_nil, or_false]
    constructor
    · rintro ⟨b, (rfl | rfl | rfl | rfl), h1, rfl⟩ <;> simp at h1 ⊢
    · rintro (rfl | rfl | rfl)
      · exact ⟨_, Or.inr (Or.inl rfl), rfl, rfl⟩
      · exact ⟨_, Or.inr (Or.inr (Or.inr rfl)), rfl, rfl⟩
      · exact ⟨_, Or.inl rfl, rfl, rfl⟩
  have hk2 := Keep_eq y 1 2 k (by omega) (by omega) (by omega)
  have hd := Drop_eq y 1 2 k (by omega) (by omega) hp (by omega)
  have e2 : lastN (numbersOf y 1) 2 = [2, 5] := by rw [hn]; rfl
  rw [e2] at hk2 hd
  rw [show ((2 : Nat) : Int) = 2 from rfl] at hk2 hd
  rw [Option.bind_some, hk2, Option.bind_some, hd, Option.bind_some, ← hy]
  have es : stayOf [(⟨1, 5, 0, ([] : List S48), ([] : List S74)⟩ : S29), (⟨1, 1, 0, ([] : List S48), ([] : List S74)⟩ : S29), (⟨2, 7, 0, ([] : List S48), ([] : List S74)⟩ : S29), (⟨1, 2, 0, ([] : List S48), ([] : List S74)⟩ : S29)] 1 [2, 5] = [⟨1, 5, 0, [], []⟩, ⟨2, 7, 0, [], []⟩, ⟨1, 2, 0, [], []⟩] := by rfl
  have eg : goneOf [(⟨1, 5, 0, ([] : List S48), ([] : List S74)⟩ : S29), (⟨1, 1, 0, ([] : List S48), ([] : List S74)⟩ : S29), (⟨2, 7, 0, ([] : List S48), ([] : List S74)⟩ : S29), (⟨1, 2, 0, ([] : List S48), ([] : List S74)⟩ : S29)] 1 [2, 5] = [⟨1, 1, 0, [], []⟩] := by rfl
  rw [es, eg]
  rfl

end Go.Proofs.Ytlkgmfhgnfgmiaa.Gpr

/- Nobody else's backups go, the last ones stay, and nothing is lost or made. -/
namespace Go.Proofs.Ytlkgmfhgnfgmiaa.Pure
open Go Go.RowKit Go.Proofs.Ytlkgmfhgnfgmiaa.Gnum Go.Proofs.Ytlkgmfhgnfgmiaa.Gpr Go.Proofs.Ytlkgmfhgnfgmiaa.Q Go.Proofs.YtlkgmfhgnfgmiaaW.PrintWords Go.Proofs.YtlkgmfhgnfgmiaaW.PrintLast Go.Proofs.YtlkgmfhgnfgmiaaW.PrintMore

theorem pk_l1 (l : List S29) (o : Int) (n : Nat) (a b : List S29) (f0 f1 f2 : Int) (f3 : List S48) (f4 : List S74) (i : Int) (xs : List Int) (hx : xs.length ≤ 1000) (K : Nat)
    (hc : ∀ k, K ≤ k → storagebarterlaw39_PruneKeeps.l0 k l o (n : Int) a b (b.length : Int) (wrap64 (i + 1)) = some true) :
    ∀ (d j k c : Nat), xs.length - j = d → j ≤ xs.length → K + 1 + d ≤ k → c ≤ j → n ≤ c + ((xs.drop j).filter (fun m => decide (f1 < m))).length →
      storagebarterlaw39_PruneKeeps.l1 k l o (n : Int) a (c : Int) b (b.length : Int) i xs (xs.length : Int) (j : Int) f0 f1 f2 f3 f4 = some true := by
  intro d
  induction d with
  | zero =>
    intro j k c hd hj hk hcj hn
    obtain ⟨k, rfl⟩ : ∃ m, k = m + 1 := ⟨k - 1, by omega⟩
    rw [List.drop_of_length_le (by omega)] at hn
    rw [storagebarterlaw39_PruneKeeps.l1, if_neg (by omega), if_neg (by simp at hn; omega)]
    exact hc k (by omega)
  | succ d ih =>
    intro j k c hd hj hk hcj hn
    obtain ⟨k, rfl⟩ : ∃ m, k = m + 1 := ⟨k - 1, by omega⟩
    have hjl : j < xs.length := by omega
    rw [List.drop_eq_getElem_cons hjl, List.filter_cons] at hn
    rw [storagebarterlaw39_PruneKeeps.l1, if_pos (by omega), if_pos (by omega), if_pos (by omega), rdI_get xs j hjl, w64 (x := (j : Int) + 1) (by omega), show ((j : Int) + 1) = ((j + 1 : Nat) : Int) by omega]
    by_cases h : f1 < xs[j]
    · rw [if_pos (by simpa using h), List.length_cons] at hn
      rw [if_pos h, w64 (x := (c : Int) + 1) (by omega), show ((c : Int) + 1) = ((c + 1 : Nat) : Int) by omega]
      exact ih (j + 1) k (c + 1) (by omega) (by omega) (by omega) (by omega) (by omega)
    · rw [if_neg (by simpa using h)] at hn
      rw [if_neg h]
      exact ih (j + 1) k c (by omega) (by omega) (by omega) (by omega) hn

set_option maxRecDepth 100000 in
theorem pk_l0 (l : List S29) (o : Int) (n : Nat) (hl : l.length ≤ 10) (hn : n ≤ 10) (ho : 1 ≤ o ∧ o ≤ 3) : ∀ (d i k : Nat), (goneOf l o (lastN (numbersOf l o) n)).length - i = d → i ≤ (goneOf l o (lastN (numbersOf l o) n)).length → 6000 + 2000 * d ≤ k →
    storagebarterlaw39_PruneKeeps.l0 k l o (n : Int) (stayOf l o (lastN (numbersOf l o) n)) (goneOf l o (lastN (numbersOf l o) n)) ((goneOf l o (lastN (numbersOf l o) n)).length : Int) (i : Int) = some true := by
  have hpart := part_len l o (lastN (numbersOf l o) n)
  have hnl := numbers_len l o
  intro d
  induction d with
  | zero =>
    intro i k hd hi hk
    obtain ⟨k, rfl⟩ : ∃ m, k = m + 1 := ⟨k - 1, by omega⟩
    have hkl := lastN_len (numbersOf l o) n
    have hm : Int.tmod o 3 + 1 ≠ o ∧ -9223372036854775808 ≤ Int.tmod o 3 + 1 ∧ Int.tmod o 3 + 1 ≤ 9223372036854775807 := by
      rw [Int.tmod_eq_emod_of_nonneg (by omega)]
      omega
    have hoth := numbers_len l (Int.tmod o 3 + 1)
    rw [storagebarterlaw39_PruneKeeps.l0, if_neg (by omega), Numbers_eq _ _ _ (by omega) (by omega), Option.bind_some, Numbers_eq _ _ _ (by omega) (by omega), Option.bind_some, Keep_eq _ _ _ _ (by omega) (by omega) (by omega), Option.bind_some,
      left_keep, SameInts_eq _ _ (by omega) (by omega), Option.bind_some, if_pos rfl, if_pos (by unfold mn; split <;> omega), w64 hm.2, Numbers_eq _ _ _ (by omega) (by omega), Option.bind_some, Numbers_eq _ _ _ (by omega) (by omega), Option.bind_some,
      left_other _ _ _ _ hm.1, SameInts_eq _ _ (by omega) (by omega), Option.bind_some]
  | succ d ih =>
    intro i k hd hi hk
    obtain ⟨k, rfl⟩ : ∃ m, k = m + 1 := ⟨k - 1, by omega⟩
    have hil : i < (goneOf l o (lastN (numbersOf l o) n)).length := by omega
    have hmem := List.getElem_mem hil
    have how := (gone_owner l o hmem).2.1
    have hnew := gone_newer l o n hmem
    rw [storagebarterlaw39_PruneKeeps.l0, if_pos (by omega), if_pos (by omega), if_pos (by omega), rd_get _ i hil, if_pos how, Numbers_eq _ _ _ (by omega) (by omega), Option.bind_some]
    refine pk_l1 l o n _ _ _ _ _ _ _ (i : Int) (numbersOf l o) (by omega) (6000 + 2000 * d) ?_ (numbersOf l o).length 0 k 0 rfl (by omega) (by omega) (by omega) (by simpa using hnew)
    intro k' hk'
    rw [w64 (x := (i : Int) + 1) (by omega), show ((i : Int) + 1) = ((i + 1 : Nat) : Int) by omega]
    exact ih (i + 1) k' (by omega) (by omega) hk'

theorem PruneKeeps : storagebarterlaw39_PruneKeeps.Pure := by
  intro L a1 _ _ hL ha
  have hb := bounds_u8 ha
  obtain ⟨S, e1, hS⟩ := New_ok L hL
  obtain ⟨l, sh, at1, e2, hp, hl, h1⟩ := made_ok hS 0 (by omega) 100000 (by omega)
  obtain ⟨t, at2, e3, ht0, ht1, -⟩ := Pick_ok hS at1 3 h1 (by omega) (by omega)
  refine ⟨100000, ?_⟩
  obtain ⟨n, hn, hn5⟩ : ∃ n : Nat, Int.tmod (wrap64 a1) 5 = n ∧ n < 5 := by
    rw [w64 (by omega), Int.tmod_eq_emod_of_nonneg hb.1]
    exact ⟨(a1 % 5).toNat, by omega, by omega⟩
  unfold storagebarterlaw39_PruneKeeps.f
  rw [law39_sane _ (by omega), Option.bind_some, if_pos rfl, e1, Option.bind_some, e2, Option.bind_some, e3, Option.bind_some, hn, w64 (x := 1 + t) (by omega), Drop_eq l (1 + t) n _ (by omega) (by omega) hp (by omega), Option.bind_some]
  have hpart := part_len l (1 + t) (lastN (numbersOf l (1 + t)) n)
  dsimp only
  rw [if_pos (by rw [w64 (by omega)]; omega)]
  exact pk_l0 l (1 + t) n hl (by omega) (by omega) _ 0 100000 rfl (by omega) (by omega)

end Go.Proofs.Ytlkgmfhgnfgmiaa.Pure

namespace Go.Proofs.Ytlkgmfhgnfgmiaa.pruneKeeps
open Go.ChangeShapes Go.WideShapes Go.ChangeAt Go.RowKit
open Go.ChangeMaps (open_string shut_string)
set_option linter.unusedVariables false
theorem own : ownKnob Try.prog.godebug = none := by kernel_rfl
theorem laidOut : laidOutB Try.prog = true := by kernel_rfl
def IsRow (k : IntKind) (w : World) (a : Option Addr) (len cap : Nat) (zs : List Int) : Prop :=
  (a = none ∧ len = 0 ∧ cap = 0 ∧ zs = []) ∨
  ∃ x, a = some x ∧ len ≤ cap ∧ cap ≤ maxLen ∧ zs.length = cap ∧ (∀ i, i < zs.length → w.cell? (x.add i) = some (.int k (zs.getD i 0))) ∧ ∀ n ∈ zs, (Lit.int k n).wf = true
set_option maxRecDepth 100000 in
theorem lifted (os : Os) (started : os.Started) (H : Type) (enc : TypeId × Value → H) :
    ReturnsInHanded {} Try.checked os 6 .any (Rows.pruneKeepsSpec.pre6 enc Try.prog Try.f6 Rows.pruneKeepsRow.domain false) (Rows.pruneKeepsSpec.post enc Try.prog Try.f6 false true false false) := by
  refine returnsInHanded_of_change_sized (C := Try.checked) own started (by kernel_rfl) Try.func6
    (ChangeSpec.witness6 (enc := enc) (C := Try.checked) false ⟨#[], #[.slice none 0 0, .int .u8 0], []⟩ 8 (by kernel_rfl) (by kernel_rfl) (by kernel_rfl) (by kernel_rfl)) ?_
  intro W base args ds gs before hval0 hW hcnd hsz0 _
  have hsz : (DataW.weightsEach Try.prog (Try.f6.params.toList ++ Rows.pruneKeepsSpec.plain.varTypes Try.prog) (ds ++ gs)).all (· ≤ reachBytes) = true := hsz0
  have hval : ∀ (j : Nat) t v, Try.f6.params[j]? = some t → args[j]? = some v → Value.okWide Try.prog W .any base t v := hval0
  have hW' := hW
  obtain ⟨p, q, hA0, hV, rfl, hfz, hnd⟩ := hW
  have hA : DataW.TrodAll enc Try.prog W 0 (fun _ => true) true Try.f6.params.toList args.toList ds p := hA0
  rw [Try.params6] at hA hval hsz
  obtain ⟨v0, vs0, d0, ds0, p0, q0, hargs, rfl, rfl, h0, r0⟩ := trodAll_cons hA
  obtain ⟨v1, vs1, d1, ds1, p1, q1, rfl, rfl, rfl, h1, r1⟩ := trodAll_cons r0
  obtain ⟨rfl, rfl, rfl⟩ := trodAll_nil r1
  obtain rfl : args = #[v0, v1] := by cases args; simp_all
  obtain ⟨rfl, rfl⟩ := trodVars_none hV
  obtain ⟨a0, len0, cap0, rfl⟩ := okWide_slice Try.underlying22 (hval 0 22 v0 rfl rfl)
  have k0 := h0
  have lt0 : ∀ x ∈ p0, x.block < W.heap.size := by obtain ⟨m, hm⟩ := k0; exact DataW.trod_lt m _ _ _ hm
  obtain ⟨z0, w0⟩ : ∃ zs, IsRow .u8 W a0 len0 cap0 zs := by
    obtain ⟨fuel, hf⟩ := h0
    rcases open_ints Try.underlying22 Try.underlying5 (by kernel_rfl) hf with ⟨hcs, _⟩ | ⟨x, l, c, zs, hcs, _, hl, hm, hz, _, hcell, hwz⟩
    · simp [Value.cells] at hcs
      obtain ⟨rfl, rfl, rfl⟩ := hcs
      exact ⟨[], .inl ⟨rfl, rfl, rfl, rfl⟩⟩
    · simp [Value.cells] at hcs
      obtain ⟨rfl, rfl, rfl⟩ := hcs
      exact ⟨zs, .inr ⟨_, rfl, hl, hm, by simpa using hz, hcell, hwz⟩⟩
  have y0 : len0 * 1 ≤ 140737488351232 := Go.Proofs.YtlkgmfhgnfgmiaaW.PrintWords.sized_ints hsz (j := 0) (t := 22) rfl rfl Try.underlying22 Try.underlying5 (by kernel_rfl) (by kernel_rfl) h0
  obtain ⟨a1, rfl, rfl, rfl, w1⟩ := open_int Try.underlying5 (hval 1 5 v1 rfl rfl) h1
  clear hA0 hval0 hsz0 hsz
  refine (Q.storagebarterlaw39_PruneKeeps.walk Pure.PruneKeeps a0 len0 cap0 z0 a1 W w0 y0 w1).mono fun e W' ⟨he, bel⟩ => ?_
  subst he
  exact ⟨_, rfl, _, _, _, [], _, [], hW', trodAll_mk1 (shut_bool Try.underlying4 _), (trodAll_cons_mk (Below.trod laidOut (by kernel_rfl) (of_decide_eq_true (by kernel_rfl)) k0 bel lt0) (trodAll_cons_mk (shut_int Try.underlying5 w1) trodAll_mk0)), rfl, bel.frame _, fun h => by cases h⟩
theorem over : Rows.pruneKeepsRow.holds Try.pinned (OpenSpec.ofChange Rows.pruneKeepsSpec) :=
  OpenClaim.holds_of_wide 6 Try.f6 rfl rfl rfl rfl rfl rfl rfl ⟨rfl, rfl, rfl, rfl, rfl⟩ rfl rfl rfl rfl rfl (by kernel_rfl) Try.func6 (by kernel_rfl)
    (of_decide_eq_true (by kernel_rfl)) (by unfold Func.isWrapper; first | (rw [if_pos (by decide +kernel)]; kernel_rfl) | (rw [if_neg (by decide +kernel)]; exact ⟨rfl, rfl⟩))
    (fun os started H enc _ => lifted os started H enc)
theorem proved : Rows.PruneKeepsSaid := over
#print axioms proved
end Go.Proofs.Ytlkgmfhgnfgmiaa.pruneKeeps
namespace Go.Proofs.Ytlkgmfhgnfgmiaa
/-- The row, under a short name, for the claim. -/
theorem pruneKeeps_holds : Rows.PruneKeepsSaid := pruneKeeps.proved
end Go.Proofs.Ytlkgmfhgnfgmiaa
