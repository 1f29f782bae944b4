/- Dropping again drops nothing, and keeping fewer drops at least as much. -/
import Derived.Test.YtlkgmfhgnfgmiaaCPruneTwice1
namespace Go.Proofs.Ytlkgmfhgnfgmiaa.Q
open Go.RowKit Go.Proofs.YtlkgmfhgnfgmiaaW.PrintWords Go.Proofs.YtlkgmfhgnfgmiaaW.PrintLast Go.Proofs.YtlkgmfhgnfgmiaaW.PrintMore
attribute [local go_sem] max2_int min2_int max_two min_two max_three min_three max_four min_four   -- for this text's walks alone
set_option linter.unusedVariables false
set_option linter.unusedSimpArgs false

/-! ### storagebarterlaw39_made: function 24 -/
mutual
def storagebarterlaw39_made.l0 : Nat → List (S29) → Int → List Int → Int → Option ((List (S29)) × (List (S72)) × Int)
  | 0, _, _, _, _ => none
  | k + 1, x4, x5, x1000, x1001 => if x5 > 0 then ((storagebarterplay_Dice_Pick.f x1000 x1001 3).bind fun bt668 => ((storagebarterplay_Dice_Pick.f x1000 bt668.2 4).bind fun bt670 => ((storagebarterplay_Dice_Pick.f x1000 bt670.2 4).bind fun bt673 => (storagebarterlaw39_made.l1 k x4 x5 bt673.1 x1000 bt673.2 (wrap64 (1 + bt668.1)) (wrap64 (1 + bt670.1)) 0 ([] : List (S74)))))) else ((storagebarterplay_Dice_Pick.f x1000 x1001 8).bind fun bt687 => (storagebarterlaw39_made.l2 k x4 ([] : List (S72)) bt687.1 x1000 bt687.2))
def storagebarterlaw39_made.l1 : Nat → List (S29) → Int → Int → List Int → Int → Int → Int → Int → List (S74) → Option ((List (S29)) × (List (S72)) × Int)
  | 0, _, _, _, _, _, _, _, _, _ => none
  | k + 1, x4, x5, x7, x1000, x1001, x673000, x673001, x673002, x673004 => if x7 > 0 then ((storagebarterplay_Dice_Pick.f x1000 x1001 2).bind fun bt675 => ((storagebarterplay_Dice_Pick.f x1000 bt675.2 3).bind fun bt677 => ((storagebarterplay_Dice_Pick.f x1000 bt677.2 2).bind fun bt679 => (if x673004.length < 5864062014805 then (storagebarterlaw39_made.l1 k x4 x5 (wrap64 (x7 - 1)) x1000 bt679.2 x673000 x673001 x673002 (x673004 ++ [(⟨bt675.1, bt677.1, wrap64 (4 + bt679.1)⟩ : S74)])) else (none))))) else (if x4.length < 1954687338268 then (storagebarterlaw39_made.l0 k (x4 ++ [(⟨x673000, x673001, x673002, ([] : List (S48)), x673004⟩ : S29)]) (wrap64 (x5 - 1)) x1000 x1001) else (none))
def storagebarterlaw39_made.l2 : Nat → List (S29) → List (S72) → Int → List Int → Int → Option ((List (S29)) × (List (S72)) × Int)
  | 0, _, _, _, _, _ => none
  | k + 1, x4, x8, x9, x1000, x1001 => if x9 > 0 then ((storagebarterplay_Dice_Pick.f x1000 x1001 3).bind fun bt689 => ((storagebarterplay_Dice_Pick.f x1000 bt689.2 4).bind fun bt691 => ((storagebarterplay_Dice_Pick.f x1000 bt691.2 2).bind fun bt693 => ((storagebarterplay_Dice_Pick.f x1000 bt693.2 3).bind fun bt695 => ((storagebarterplay_Dice_Shard.f x1000 bt695.2).bind fun bt697 => (if x8.length < 2932031007402 then (storagebarterlaw39_made.l2 k x4 (x8 ++ [(⟨wrap64 (1 + bt689.1), wrap64 (1 + bt691.1), bt693.1, bt695.1, bt697.1⟩ : S72)]) (wrap64 (x9 - 1)) x1000 bt697.2) else (none))))))) else (some (x4, x8, x1001))
end
def storagebarterlaw39_made.f (k : Nat) (s0_0 : List Int) (s0_1 : Int) : Option ((List (S29)) × (List (S72)) × Int) := (storagebarterplay_Dice_Pick.f s0_0 s0_1 6).bind fun bt666 => (storagebarterlaw39_made.l0 k ([] : List (S29)) bt666.1 s0_0 bt666.2)
theorem storagebarterlaw39_made.mono_l : ∀ k, (∀ y0 y1 y2 y3, LeO (storagebarterlaw39_made.l0 k y0 y1 y2 y3) (storagebarterlaw39_made.l0 (k + 1) y0 y1 y2 y3)) ∧ (∀ y0 y1 y2 y3 y4 y5 y6 y7 y8, LeO (storagebarterlaw39_made.l1 k y0 y1 y2 y3 y4 y5 y6 y7 y8) (storagebarterlaw39_made.l1 (k + 1) y0 y1 y2 y3 y4 y5 y6 y7 y8)) ∧ (∀ y0 y1 y2 y3 y4, LeO (storagebarterlaw39_made.l2 k y0 y1 y2 y3 y4) (storagebarterlaw39_made.l2 (k + 1) y0 y1 y2 y3 y4))
  | 0 => ⟨fun _ _ _ _ r h => by simp [storagebarterlaw39_made.l0] at h, fun _ _ _ _ _ _ _ _ _ r h => by simp [storagebarterlaw39_made.l1] at h, fun _ _ _ _ _ r h => by simp [storagebarterlaw39_made.l2] at h⟩
  | k + 1 => by
    obtain ⟨ih0, ih1, ih2⟩ := storagebarterlaw39_made.mono_l k
    refine ⟨?_, ?_, ?_⟩
    · intro y0 y1 y2 y3
      unfold storagebarterlaw39_made.l0
      repeat' first
      | (with_reducible exact ih0 _ _ _ _)
      | (with_reducible exact ih1 _ _ _ _ _ _ _ _ _)
      | (with_reducible exact ih2 _ _ _ _ _)
      | (with_reducible exact LeO.refl _)
      | (with_reducible exact LeO.none _)
      | (with_reducible refine LeO.ite ?_ ?_)
      | (with_reducible refine LeO.bind ?_ (fun _ => ?_))
      | exact ih0 _ _ _ _
      | exact ih1 _ _ _ _ _ _ _ _ _
      | exact ih2 _ _ _ _ _
      | exact LeO.none _
      | refine LeO.ite ?_ ?_
      | refine LeO.bind ?_ (fun _ => ?_)
    · intro y0 y1 y2 y3 y4 y5 y6 y7 y8
      unfold storagebarterlaw39_made.l1
      repeat' first
      | (with_reducible exact ih0 _ _ _ _)
      | (with_reducible exact ih1 _ _ _ _ _ _ _ _ _)
      | (with_reducible exact ih2 _ _ _ _ _)
      | (with_reducible exact LeO.refl _)
      | (with_reducible exact LeO.none _)
      | (with_reducible refine LeO.ite ?_ ?_)
      | (with_reducible refine LeO.bind ?_ (fun _ => ?_))
      | exact ih0 _ _ _ _
      | exact ih1 _ _ _ _ _ _ _ _ _
      | exact ih2 _ _ _ _ _
      | exact LeO.none _
      | refine LeO.ite ?_ ?_
      | refine LeO.bind ?_ (fun _ => ?_)
    · intro y0 y1 y2 y3 y4
      unfold storagebarterlaw39_made.l2
      repeat' first
      | (with_reducible exact ih0 _ _ _ _)
      | (with_reducible exact ih1 _ _ _ _ _ _ _ _ _)
      | (with_reducible exact ih2 _ _ _ _ _)
      | (with_reducible exact LeO.refl _)
      | (with_reducible exact LeO.none _)
      | (with_reducible refine LeO.ite ?_ ?_)
      | (with_reducible refine LeO.bind ?_ (fun _ => ?_))
      | exact ih0 _ _ _ _
      | exact ih1 _ _ _ _ _ _ _ _ _
      | exact ih2 _ _ _ _ _
      | exact LeO.none _
      | refine LeO.ite ?_ ?_
      | refine LeO.bind ?_ (fun _ => ?_)
theorem storagebarterlaw39_made.mono : ∀ a0 a1 k, LeO (storagebarterlaw39_made.f k a0 a1) (storagebarterlaw39_made.f (k + 1) a0 a1) := by
  intro a0 a1 k
  obtain ⟨ih0, ih1, ih2⟩ := storagebarterlaw39_made.mono_l k
  unfold storagebarterlaw39_made.f
  repeat' first
      | (with_reducible exact ih0 _ _ _ _)
      | (with_reducible exact ih1 _ _ _ _ _ _ _ _ _)
      | (with_reducible exact ih2 _ _ _ _ _)
      | (with_reducible exact LeO.refl _)
      | (with_reducible exact LeO.none _)
      | (with_reducible refine LeO.ite ?_ ?_)
      | (with_reducible refine LeO.bind ?_ (fun _ => ?_))
      | exact ih0 _ _ _ _
      | exact ih1 _ _ _ _ _ _ _ _ _
      | exact ih2 _ _ _ _ _
      | exact LeO.none _
      | refine LeO.ite ?_ ?_
      | refine LeO.bind ?_ (fun _ => ?_)
def storagebarterlaw39_made.T9 : Bool × List (List Nat × List Nat) := (true, [([], []), ([0], [0]), ([], []), ([2], [2]), ([], []), ([4, 3], [4]), ([], []), ([6, 5], [6]), ([7], [7]), ([3, 5, 8], [3, 5, 8]), ([9], [9]), ([1, 10, 7], [1, 10]), ([0, 1, 2, 3, 4, 5, 6, 7, 8, 9, 10, 11], []), ([12, 11, 11, 0, 1, 2, 3, 4, 5, 6, 7, 8, 9, 10, 11], [11, 12])])
def storagebarterlaw39_made.B9 : List Nat := [0, 1, 0, 4, 0, 28, 0, 124, 252, 508, 1020, 2047, 4095, 8191]
theorem storagebarterlaw39_made.tab9 : rtab .any (opsOf Try.f24 9) = storagebarterlaw39_made.T9 := by kernel_rfl
theorem storagebarterlaw39_made.bits9 : waitsOk storagebarterlaw39_made.T9.2 storagebarterlaw39_made.B9 = true := by kernel_rfl
set_option maxHeartbeats 8000000 in
set_option maxRecDepth 100000 in
theorem storagebarterlaw39_made.calls (k : Nat) (g : Nat) (s0_0 : List Int) (s0_1 : Int) (r1 : List (S29)) (r2 : List (S72)) (r3 : Int) (w0 w : World) (hI : IsS86 w0 w g s0_0 s0_1) (hB : Below w0.heap.size w0 w) (h : storagebarterlaw39_made.f k s0_0 s0_1 = some (r1, r2, r3)) :
    Calls Try.prog 24 #[.pointer (some ⟨g, 0, none⟩)] w fun e w' => ∃ v0_ v1_ : Value, e = .returned (.tuple #[v0_, v1_]) ∧ Kd.R k29 29 w' w.heap.size (fun _ => True) v0_ r1 ∧ Kd.R k72 72 w' w.heap.size (fun _ => True) v1_ r2 ∧ IsS86 w0 w' g s0_0 r3 ∧ Below w0.heap.size w0 w' ∧ KeepBut w w' g none := by
  have hu29 := Try.underlying29
  have hu74 := Try.underlying74
  have hu72 := Try.underlying72
  have HI0 := Aside0.mk hI
  have HK := Aside0.mk (KeepBut.refl w g none)
  have HL := Aside0.mk hB.size
  clear hI
  have HW0 := Aside0.mk hB.size
  have HB := Aside0.mk hB
  clear hB
  have H : ((storagebarterplay_Dice_Pick.f s0_0 s0_1 6).bind fun bt666 => (storagebarterlaw39_made.l0 k ([] : List (S29)) bt666.1 s0_0 bt666.2)) = some (r1, r2, r3) := h
  clear h
  replace H := Option.bind_eq_some_iff.mp H
  obtain ⟨⟨t666, t667⟩, A20, H⟩ := H
  replace H : (storagebarterlaw39_made.l0 k ([] : List (S29)) t666 s0_0 t667) = some (r1, r2, r3) := H
  have A2 := Aside0.mk A20
  clear A20
  have H' := Aside0.mk H
  clear H
  go_enter Try.func24, Try.ntmps24
  go_wp2_with (first | ((with_reducible refine gate_callee (f := 14) rfl ?_); refine goesL_ (some 11) rfl rfl Try.func14 (by kernel_rfl) rfl #[.pointer (some ⟨g, 0, none⟩), .int .i64 6] rfl (by (try simp only [List.map_toArray, List.map_cons, List.map_nil]); first | done | rfl | (simp only [List.length_drop, List.length_take]; rfl)) ?_; (with_reducible refine (storagebarterplay_Dice_Pick.calls g s0_0 s0_1 6 t666 t667 w0 _ ?side1 ?side2 A2.out).mono ?_); (case side1 => repeat (first | (with_reducible first | exact HI0.out | apply IsS86.alloc | apply IsS86.drewN | apply IsS86.drew | apply IsS86.set_1) | exact HI0.out)); (case side2 => repeat (first | (with_reducible first | exact HB.out | apply below_alloc | apply pw_below_drewN | apply below_drew1 | refine below_set ?_ (IsS86.ge HI0.out)) | exact HB.out)); rintro e w3 ⟨rfl, hi, hb, hk⟩; refine ⟨_, rfl, ?_⟩; have n0_ := Aside0.mk (KeepBut.trans (by repeat (first | (with_reducible first | exact HK.out | apply KeepBut.set_ | apply keep_drewN | apply keep_drew | apply keep_alloc) | exact HK.out)) hk (.inl rfl)); have n1_ := Aside0.mk (hb); have n2_ := Aside0.mk (hi); clear HK; clear HB; clear HI0; have HK := n0_; have HB := n1_; have HI0 := n2_; clear n0_ n1_ n2_; (try clear hb); (try clear hb2); (try clear hk); (try clear hi)))
  go_loopg [4, 5] k (fun kq v4 v5 w' => ∃ (x4_1 : List (S29)) (x5_1 : Int) (x1001_1 : Int), v5 = .int .i64 x5_1 ∧ Aside0 (storagebarterlaw39_made.l0 kq x4_1 x5_1 s0_0 x1001_1 = some (r1, r2, r3)) ∧ Aside0 (kq ≤ k) ∧ Aside0 (Kd.R k29 29 w' w.heap.size (fun _ => True) v4 x4_1) ∧ Aside0 (IsS86 w0 w' g s0_0 x1001_1) ∧ Aside0 (KeepBut w w' g none) ∧ Aside0 (Below w0.heap.size w0 w'))
  case atStart => exact ⟨(([] : List (S29))), (t666), (t667), (by first | rfl | (simp; done) | (simp [*]; done)), H', ⟨Nat.le_refl _⟩, ⟨by first | exact Kd.R_nil _ _ _ _ _ | exact Kd.N_nil _ _ _ _ _ | exact Kd.V_nil _ _ _ _ _ | exact Kd.Q_nil _ _ _ _ _ | exact Kd.S_nil _ _ _ _ _⟩, ⟨by repeat (first | (with_reducible first | exact HI0.out | apply IsS86.alloc | apply IsS86.drewN | apply IsS86.drew | apply IsS86.set_1) | exact HI0.out)⟩, ⟨by repeat (first | (with_reducible first | exact HK.out | apply KeepBut.set_ | apply keep_drewN | apply keep_drew | apply keep_alloc) | exact HK.out)⟩, ⟨by repeat (first | (with_reducible first | exact HB.out | apply below_alloc | apply pw_below_drewN | apply below_drew1 | refine below_set ?_ (IsS86.ge HI0.out)) | exact HB.out)⟩⟩
  case round =>
    clear H'
    try clear c1
    try clear c2
    try clear p2
    obtain ⟨x4_1, x5_1, x1001_1, rfl, HA, HK1, HO_4, HI0, HK, HB⟩ := hrel
    cases gk with
    | zero => exact absurd HA.out (by simp [storagebarterlaw39_made.l0])
    | succ k1 =>
      have H := HA.out
      clear HA
      simp only [storagebarterlaw39_made.l0] at H
      by_cases c4 : x5_1 > 0
      · rw [if_pos c4] at H
        have c4b0 : decide (0 < x5_1) = true := decide_eq_true c4
        clear c4
        replace H := Option.bind_eq_some_iff.mp H
        obtain ⟨⟨t668, t669⟩, A50, H⟩ := H
        replace H : ((storagebarterplay_Dice_Pick.f s0_0 t669 4).bind fun bt670 => ((storagebarterplay_Dice_Pick.f s0_0 bt670.2 4).bind fun bt673 => (storagebarterlaw39_made.l1 k1 x4_1 x5_1 bt673.1 s0_0 bt673.2 (wrap64 (1 + t668)) (wrap64 (1 + bt670.1)) 0 ([] : List (S74))))) = some (r1, r2, r3) := H
        have A5 := Aside0.mk A50
        clear A50
        replace H := Option.bind_eq_some_iff.mp H
        obtain ⟨⟨t670, t671⟩, A60, H⟩ := H
        replace H : ((storagebarterplay_Dice_Pick.f s0_0 t671 4).bind fun bt673 => (storagebarterlaw39_made.l1 k1 x4_1 x5_1 bt673.1 s0_0 bt673.2 (wrap64 (1 + t668)) (wrap64 (1 + t670)) 0 ([] : List (S74)))) = some (r1, r2, r3) := H
        have A6 := Aside0.mk A60
        clear A60
        replace H := Option.bind_eq_some_iff.mp H
        obtain ⟨⟨t673, t674⟩, A70, H⟩ := H
        replace H : (storagebarterlaw39_made.l1 k1 x4_1 x5_1 t673 s0_0 t674 (wrap64 (1 + t668)) (wrap64 (1 + t670)) 0 ([] : List (S74))) = some (r1, r2, r3) := H
        have A7 := Aside0.mk A70
        clear A70
        have H' := Aside0.mk H
        clear H
        go_wp2_with (first | ((with_reducible refine gate_callee (f := 14) rfl ?_); refine goesL_ (some 17) rfl rfl Try.func14 (by kernel_rfl) rfl #[.pointer (some ⟨g, 0, none⟩), .int .i64 3] rfl (by (try simp only [List.map_toArray, List.map_cons, List.map_nil]); first | done | rfl | (simp only [List.length_drop, List.length_take]; rfl)) ?_; (with_reducible refine (storagebarterplay_Dice_Pick.calls g s0_0 x1001_1 3 t668 t669 w0 _ ?side1 ?side2 A5.out).mono ?_); (case side1 => repeat (first | (with_reducible first | exact HI0.out | apply IsS86.alloc | apply IsS86.drewN | apply IsS86.drew | apply IsS86.set_1) | exact HI0.out)); (case side2 => repeat (first | (with_reducible first | exact HB.out | apply below_alloc | apply pw_below_drewN | apply below_drew1 | refine below_set ?_ (IsS86.ge HI0.out)) | exact HB.out)); rintro e w8 ⟨rfl, hi, hb, hk⟩; refine ⟨_, rfl, ?_⟩; have n0_ := Aside0.mk (Kd.R_mono (Kd.R_keep (IsS86.apart (show IsS86 w0 _ g s0_0 x1001_1 from by repeat (first | (with_reducible first | exact HI0.out | apply IsS86.alloc | apply IsS86.drewN | apply IsS86.drew | apply IsS86.set_1) | exact HI0.out)) (by (with_reducible repeat (first | apply Kd.R_alloc | apply Kd.R_drewN | apply Kd.R_drew)); exact HO_4.out) (by decide)) hk (fun _ h => h.2)) (fun _ h => h.1)); have n1_ := Aside0.mk (KeepBut.trans (by repeat (first | (with_reducible first | exact HK.out | apply KeepBut.set_ | apply keep_drewN | apply keep_drew | apply keep_alloc) | exact HK.out)) hk (.inl rfl)); have n2_ := Aside0.mk (hb); have n3_ := Aside0.mk (hi); clear HO_4; clear HK; clear HB; clear HI0; have HO_4 := n0_; have HK := n1_; have HB := n2_; have HI0 := n3_; clear n0_ n1_ n2_ n3_; (try clear hb); (try clear hb2); (try clear hk); (try clear hi)) | ((with_reducible refine gate_callee (f := 14) rfl ?_); refine goesL_ (some 20) rfl rfl Try.func14 (by kernel_rfl) rfl #[.pointer (some ⟨g, 0, none⟩), .int .i64 4] rfl (by (try simp only [List.map_toArray, List.map_cons, List.map_nil]); first | done | rfl | (simp only [List.length_drop, List.length_take]; rfl)) ?_; (with_reducible refine (storagebarterplay_Dice_Pick.calls g s0_0 t669 4 t670 t671 w0 _ ?side1 ?side2 A6.out).mono ?_); (case side1 => repeat (first | (with_reducible first | exact HI0.out | apply IsS86.alloc | apply IsS86.drewN | apply IsS86.drew | apply IsS86.set_1) | exact HI0.out)); (case side2 => repeat (first | (with_reducible first | exact HB.out | apply below_alloc | apply pw_below_drewN | apply below_drew1 | refine below_set ?_ (IsS86.ge HI0.out)) | exact HB.out)); rintro e w9 ⟨rfl, hi, hb, hk⟩; refine ⟨_, rfl, ?_⟩; have n0_ := Aside0.mk (Kd.R_mono (Kd.R_keep (IsS86.apart (show IsS86 w0 _ g s0_0 t669 from by repeat (first | (with_reducible first | exact HI0.out | apply IsS86.alloc | apply IsS86.drewN | apply IsS86.drew | apply IsS86.set_1) | exact HI0.out)) (by (with_reducible repeat (first | apply Kd.R_alloc | apply Kd.R_drewN | apply Kd.R_drew)); exact HO_4.out) (by decide)) hk (fun _ h => h.2)) (fun _ h => h.1)); have n1_ := Aside0.mk (KeepBut.trans (by repeat (first | (with_reducible first | exact HK.out | apply KeepBut.set_ | apply keep_drewN | apply keep_drew | apply keep_alloc) | exact HK.out)) hk (.inl rfl)); have n2_ := Aside0.mk (hb); have n3_ := Aside0.mk (hi); clear HO_4; clear HK; clear HB; clear HI0; have HO_4 := n0_; have HK := n1_; have HB := n2_; have HI0 := n3_; clear n0_ n1_ n2_ n3_; (try clear hb); (try clear hb2); (try clear hk); (try clear hi)) | ((with_reducible refine gate_dst (N := 6) rfl ?_); refine box_event ?hg (N := 6) ?hd (cs := #[.int .i64 0, .int .i64 0, .int .i64 0, .slice none 0 0, .slice none 0 0]) (t := 29) ?hr ?_; (case hd => rfl); (case hg => rfl); (case hr => first | (go_simp; done) | (go_simp; rfl)); intro gb672 hg w10 hbox hb; have n0_ := Aside0.mk (Kd.R_below (Kd.R_elderB (by (with_reducible repeat (first | apply Kd.R_alloc | apply Kd.R_drewN | apply Kd.R_drew)); exact HO_4.out) gb672 (Nat.le_of_eq hg.symm)) hb); have n1_ := Aside0.mk (IsS86.below (by repeat (first | (with_reducible first | exact HI0.out | apply IsS86.alloc | apply IsS86.drewN | apply IsS86.drew | apply IsS86.set_1) | exact HI0.out)) hb); have n2_ := Aside0.mk (KeepBut.trans (by repeat (first | (with_reducible first | exact HK.out | apply KeepBut.set_ | apply keep_drewN | apply keep_drew | apply keep_alloc) | exact HK.out)) (KeepBut.of_below hb g none) (.inl rfl)); have n3_ := Aside0.mk (below_step (by repeat (first | (with_reducible first | exact HB.out | apply below_alloc | apply pw_below_drewN | apply below_drew1 | refine below_set ?_ (IsS86.ge HI0.out)) | exact HB.out)) hb); have n4_ := Aside0.mk (hbox); have n5_ := Aside0.mk ((by rw [hg]; exact (keep_size (w := w) (g := g) (row := none) (by repeat (first | (with_reducible first | exact HK.out | apply KeepBut.set_ | apply keep_drewN | apply keep_drew | apply keep_alloc) | exact HK.out))) : w.heap.size ≤ gb672)); have n6_ := Aside0.mk ((Nat.le_trans HW0.out (by rw [hg]; exact (keep_size (w := w) (g := g) (row := none) (by repeat (first | (with_reducible first | exact HK.out | apply KeepBut.set_ | apply keep_drewN | apply keep_drew | apply keep_alloc) | exact HK.out))) : w.heap.size ≤ gb672) : w0.heap.size ≤ gb672)); have n7_ := Aside0.mk ((by rw [hg]; exact Nat.ne_of_lt (IsS86.lt (show IsS86 w0 _ g s0_0 t671 from by repeat (first | (with_reducible first | exact HI0.out | apply IsS86.alloc | apply IsS86.drewN | apply IsS86.drew | apply IsS86.set_1) | exact HI0.out))) : g ≠ gb672)); have n8_ := Aside0.mk ((by rw [hg]; exact Nat.ne_of_gt (IsS86.lt (show IsS86 w0 _ g s0_0 t671 from by repeat (first | (with_reducible first | exact HI0.out | apply IsS86.alloc | apply IsS86.drewN | apply IsS86.drew | apply IsS86.set_1) | exact HI0.out))) : gb672 ≠ g)); clear HO_4; clear HI0; clear HK; clear HB; have HO_4 := n0_; have HI0 := n1_; have HK := n2_; have HB := n3_; have BK672 := n4_; have GW672 := n5_; have GE672 := n6_; have NB0_672 := n7_; have NB672_0 := n8_; clear n0_ n1_ n2_ n3_ n4_ n5_ n6_ n7_ n8_; clear hb hbox hg; have hnb11 := NB672_0.out; have hnc11 := NB0_672.out; have hcz12_0 : w10.cell? ⟨gb672, 0, none⟩ = some (.int .i64 0) := (blk_cell BK672.out 0).trans rfl; have hcz12_1 : w10.cell? ⟨gb672, 1, none⟩ = some (.int .i64 0) := (blk_cell BK672.out 1).trans rfl; have hcz12_2 : w10.cell? ⟨gb672, 2, none⟩ = some (.int .i64 0) := (blk_cell BK672.out 2).trans rfl; have hcz12_3 : w10.cell? ⟨gb672, 3, none⟩ = some (.slice none 0 0) := (blk_cell BK672.out 3).trans rfl; have hcz12_4 : w10.cell? ⟨gb672, 4, none⟩ = some (.slice none 0 0) := (blk_cell BK672.out 4).trans rfl; have hfz12_0 := blk_frozen BK672.out 0; have hfz12_1 := blk_frozen BK672.out 1; have hfz12_2 := blk_frozen BK672.out 2; have hfz12_3 := blk_frozen BK672.out 3; have hfz12_4 := blk_frozen BK672.out 4) | ((with_reducible refine gate_callee (f := 14) rfl ?_); refine goesL_ (some 24) rfl rfl Try.func14 (by kernel_rfl) rfl #[.pointer (some ⟨g, 0, none⟩), .int .i64 4] rfl (by (try simp only [List.map_toArray, List.map_cons, List.map_nil]); first | done | rfl | (simp only [List.length_drop, List.length_take]; rfl)) ?_; (with_reducible refine (storagebarterplay_Dice_Pick.calls g s0_0 t671 4 t673 t674 w0 _ ?side1 ?side2 A7.out).mono ?_); (case side1 => repeat (first | (with_reducible first | exact HI0.out | apply IsS86.alloc | apply IsS86.drewN | apply IsS86.drew | apply IsS86.set_1 | refine IsS86.far ?_ NB0_672.out _) | exact HI0.out)); (case side2 => repeat (first | (with_reducible first | exact HB.out | apply below_alloc | apply pw_below_drewN | apply below_drew1 | refine below_set ?_ (IsS86.ge HI0.out) | refine below_set ?_ GE672.out) | exact HB.out)); rintro e w13 ⟨rfl, hi, hb, hk⟩; refine ⟨_, rfl, ?_⟩; have n0_ := Aside0.mk (Kd.R_mono (Kd.R_keep (IsS86.apart (show IsS86 w0 _ g s0_0 t671 from by repeat (first | (with_reducible first | exact HI0.out | apply IsS86.alloc | apply IsS86.drewN | apply IsS86.drew | apply IsS86.set_1 | refine IsS86.far ?_ NB0_672.out _) | exact HI0.out)) (by (with_reducible repeat (first | apply Kd.R_alloc | apply Kd.R_drewN | apply Kd.R_drew)); exact (Kd.R_mono (Kd.R_far (p := ⟨gb672, 4, none⟩) (Kd.R_far (p := ⟨gb672, 3, none⟩) (Kd.R_far (p := ⟨gb672, 2, none⟩) (Kd.R_far (p := ⟨gb672, 1, none⟩) (Kd.R_far (p := ⟨gb672, 0, none⟩) (Kd.R_mono HO_4.out (fun k_ hk => (⟨hk, hk.2⟩ : _ ∧ k_ ≠ gb672))) (fun _ hk => hk.2) (.int .i64 (wrap64 (1 + t668)))) (fun _ hk => hk.2) (.int .i64 (wrap64 (1 + t670)))) (fun _ hk => hk.2) (.int .i64 0)) (fun _ hk => hk.2) (.slice none 0 0)) (fun _ hk => hk.2) (.slice none 0 0)) (fun _ h_ => h_.1))) (by decide)) hk (fun _ h => h.2)) (fun _ h => h.1)); have n1_ := Aside0.mk (KeepBut.blk hk (g' := gb672) (o := .cells #[.int .i64 (wrap64 (1 + t668)), .int .i64 (wrap64 (1 + t670)), .int .i64 0, .slice none 0 0, .slice none 0 0] 29 (0, 0)) (by (with_reducible repeat (first | refine blk_drewN ?_ _ | refine blk_drew ?_ | refine blk_alloc ?_ _)); refine blk_put (cs := #[.int .i64 (wrap64 (1 + t668)), .int .i64 (wrap64 (1 + t670)), .int .i64 0, .slice none 0 0, .slice none 0 0]) ?_ 4 _ rfl; (with_reducible repeat (first | refine blk_drewN ?_ _ | refine blk_drew ?_ | refine blk_alloc ?_ _)); refine blk_put (cs := #[.int .i64 (wrap64 (1 + t668)), .int .i64 (wrap64 (1 + t670)), .int .i64 0, .slice none 0 0, .slice none 0 0]) ?_ 3 _ rfl; (with_reducible repeat (first | refine blk_drewN ?_ _ | refine blk_drew ?_ | refine blk_alloc ?_ _)); refine blk_put (cs := #[.int .i64 (wrap64 (1 + t668)), .int .i64 (wrap64 (1 + t670)), .int .i64 0, .slice none 0 0, .slice none 0 0]) ?_ 2 _ rfl; (with_reducible repeat (first | refine blk_drewN ?_ _ | refine blk_drew ?_ | refine blk_alloc ?_ _)); refine blk_put (cs := #[.int .i64 (wrap64 (1 + t668)), .int .i64 0, .int .i64 0, .slice none 0 0, .slice none 0 0]) ?_ 1 _ rfl; (with_reducible repeat (first | refine blk_drewN ?_ _ | refine blk_drew ?_ | refine blk_alloc ?_ _)); refine blk_put (cs := #[.int .i64 0, .int .i64 0, .int .i64 0, .slice none 0 0, .slice none 0 0]) ?_ 0 _ rfl; (with_reducible repeat (first | refine blk_drewN ?_ _ | refine blk_drew ?_ | refine blk_alloc ?_ _)); exact BK672.out) NB672_0.out (by simp)); have n2_ := Aside0.mk (KeepBut.trans (by repeat (first | (with_reducible first | exact HK.out | apply KeepBut.set_ | apply keep_drewN | apply keep_drew | apply keep_alloc | refine keep_far ?_ GW672.out _) | exact HK.out)) hk (.inl rfl)); have n3_ := Aside0.mk (hb); have n4_ := Aside0.mk (hi); clear HO_4; clear BK672; clear HK; clear HB; clear HI0; have HO_4 := n0_; have BK672 := n1_; have HK := n2_; have HB := n3_; have HI0 := n4_; clear n0_ n1_ n2_ n3_ n4_; (try clear hb); (try clear hb2); (try clear hk); (try clear hi)))
        go_loopg [7] k1 (fun kq v7 w' => ∃ (x7_2 : Int) (x1001_2 : Int) (x673004_2 : List (S74)) (u673004 : Value), v7 = .int .i64 x7_2 ∧ Aside0 (storagebarterlaw39_made.l1 kq x4_1 x5_1 x7_2 s0_0 x1001_2 (wrap64 (1 + t668)) (wrap64 (1 + t670)) 0 x673004_2 = some (r1, r2, r3)) ∧ Aside0 (kq ≤ k1) ∧ Aside0 (Kd.R k29 29 w' w.heap.size (fun k_ => some k_ ≠ (u673004 : Value).ownBlock ∧ k_ ≠ gb672) u4 x4_1) ∧ Aside0 (Kd.R k74 74 w' w.heap.size (fun _ => True) u673004 x673004_2) ∧ Aside0 (w'.heap[gb672]? = some (.cells #[.int .i64 (wrap64 (1 + t668)), .int .i64 (wrap64 (1 + t670)), .int .i64 0, (.slice none 0 0), u673004] 29 (0, 0))) ∧ Aside0 (IsS86 w0 w' g s0_0 x1001_2) ∧ Aside0 (KeepBut w w' g none) ∧ Aside0 (Below w0.heap.size w0 w'))
        case atStart => exact ⟨(t673), (t674), (([] : List (S74))), (.slice none 0 0), (by first | rfl | (simp; done) | (simp [*]; done)), H', ⟨Nat.le_refl _⟩, ⟨by (with_reducible repeat (first | apply Kd.R_alloc | apply Kd.R_drewN | apply Kd.R_drew)); exact Kd.R_mono HO_4.out (fun _ hk => ⟨(by simp [Value.ownBlock]), hk.2⟩)⟩, ⟨by first | exact Kd.R_nil _ _ _ _ _ | exact Kd.N_nil _ _ _ _ _ | exact Kd.V_nil _ _ _ _ _ | exact Kd.Q_nil _ _ _ _ _ | exact Kd.S_nil _ _ _ _ _⟩, ⟨by (with_reducible repeat (first | refine blk_drewN ?_ _ | refine blk_drew ?_ | refine blk_alloc ?_ _)); exact BK672.out⟩, ⟨by repeat (first | (with_reducible first | exact HI0.out | apply IsS86.alloc | apply IsS86.drewN | apply IsS86.drew | apply IsS86.set_1 | refine IsS86.far ?_ NB0_672.out _) | exact HI0.out)⟩, ⟨by repeat (first | (with_reducible first | exact HK.out | apply KeepBut.set_ | apply keep_drewN | apply keep_drew | apply keep_alloc | refine keep_far ?_ GW672.out _) | exact HK.out)⟩, ⟨by repeat (first | (with_reducible first | exact HB.out | apply below_alloc | apply pw_below_drewN | apply below_drew1 | refine below_set ?_ (IsS86.ge HI0.out) | refine below_set ?_ GE672.out) | exact HB.out)⟩⟩
        case round =>
          clear H'
          try clear c1
          try clear c2
          try clear p2
          try clear c4
          try clear c4b0
          try clear p6
          try clear c11
          try clear hcz12_0
          try clear hcz12_1
          try clear hcz12_2
          try clear hcz12_3
          try clear hcz12_4
          try clear hfz12_0
          try clear hfz12_1
          try clear hfz12_2
          try clear hfz12_3
          try clear hfz12_4
          try clear p2
          obtain ⟨x7_2, x1001_2, x673004_2, u673004, rfl, HA, HK2, HO_4, HO_673004, BK672, HI0, HK, HB⟩ := hrel
          cases gk with
          | zero => exact absurd HA.out (by simp [storagebarterlaw39_made.l1])
          | succ k2 =>
            have H := HA.out
            clear HA
            simp only [storagebarterlaw39_made.l1] at H
            by_cases c14 : x7_2 > 0
            · rw [if_pos c14] at H
              have c14b0 : decide (0 < x7_2) = true := decide_eq_true c14
              clear c14
              replace H := Option.bind_eq_some_iff.mp H
              obtain ⟨⟨t675, t676⟩, A150, H⟩ := H
              replace H : ((storagebarterplay_Dice_Pick.f s0_0 t676 3).bind fun bt677 => ((storagebarterplay_Dice_Pick.f s0_0 bt677.2 2).bind fun bt679 => (if x673004_2.length < 5864062014805 then (storagebarterlaw39_made.l1 k2 x4_1 x5_1 (wrap64 (x7_2 - 1)) s0_0 bt679.2 (wrap64 (1 + t668)) (wrap64 (1 + t670)) 0 (x673004_2 ++ [(⟨t675, bt677.1, wrap64 (4 + bt679.1)⟩ : S74)])) else (none)))) = some (r1, r2, r3) := H
              have A15 := Aside0.mk A150
              clear A150
              replace H := Option.bind_eq_some_iff.mp H
              obtain ⟨⟨t677, t678⟩, A160, H⟩ := H
              replace H : ((storagebarterplay_Dice_Pick.f s0_0 t678 2).bind fun bt679 => (if x673004_2.length < 5864062014805 then (storagebarterlaw39_made.l1 k2 x4_1 x5_1 (wrap64 (x7_2 - 1)) s0_0 bt679.2 (wrap64 (1 + t668)) (wrap64 (1 + t670)) 0 (x673004_2 ++ [(⟨t675, t677, wrap64 (4 + bt679.1)⟩ : S74)])) else (none))) = some (r1, r2, r3) := H
              have A16 := Aside0.mk A160
              clear A160
              replace H := Option.bind_eq_some_iff.mp H
              obtain ⟨⟨t679, t680⟩, A170, H⟩ := H
              replace H : (if x673004_2.length < 5864062014805 then (storagebarterlaw39_made.l1 k2 x4_1 x5_1 (wrap64 (x7_2 - 1)) s0_0 t680 (wrap64 (1 + t668)) (wrap64 (1 + t670)) 0 (x673004_2 ++ [(⟨t675, t677, wrap64 (4 + t679)⟩ : S74)])) else (none)) = some (r1, r2, r3) := H
              have A17 := Aside0.mk A170
              clear A170
              by_cases c18 : x673004_2.length < 5864062014805
              · rw [if_pos c18] at H
                have LMc18 := Aside0.mk c18
                clear c18
                obtain ⟨y681, hy681⟩ : ∃ y_ : List (S74), y_ = (x673004_2 ++ [(⟨t675, t677, wrap64 (4 + t679)⟩ : S74)]) := ⟨_, rfl⟩
                replace H : (storagebarterlaw39_made.l1 k2 x4_1 x5_1 (wrap64 (x7_2 - 1)) s0_0 t680 (wrap64 (1 + t668)) (wrap64 (1 + t670)) 0 y681) = some (r1, r2, r3) := by first | (rw [hy681]; with_reducible exact H) | (have H2_ := (Option.bind_some _ _).symm.trans H; rw [hy681]; with_reducible exact H2_) | (have H2_ := (Option.bind_some _ _).symm.trans H; with_reducible exact H2_) | with_reducible exact H | (rw [hy681]; exact H) | exact H
                have Ny681 := Aside0.mk hy681
                clear hy681
                have H' := Aside0.mk H
                clear H
                try go_wp2
                have n0_ := Aside0.mk (Kd.R_drew HO_4.out)
                have n1_ := Aside0.mk (Kd.R_drew HO_673004.out)
                have n2_ := Aside0.mk (blk_drew BK672.out)
                have n3_ := Aside0.mk (IsS86.drew HI0.out)
                have n4_ := Aside0.mk (keep_drew HK.out)
                have n5_ := Aside0.mk (below_drew1 HB.out)
                clear HO_4
                clear HO_673004
                clear BK672
                clear HI0
                clear HK
                clear HB
                have HO_4 := n0_
                have HO_673004 := n1_
                have BK672 := n2_
                have HI0 := n3_
                have HK := n4_
                have HB := n5_
                clear n0_ n1_ n2_ n3_ n4_ n5_
                refine start_ (n := 14) (S := fun w' => w'.cell? ⟨gb672, 0, none⟩ = some (.int .i64 (wrap64 (1 + t668))) ∧ w'.cell? ⟨gb672, 1, none⟩ = some (.int .i64 (wrap64 (1 + t670))) ∧ w'.cell? ⟨gb672, 2, none⟩ = some (.int .i64 0) ∧ w'.cell? ⟨gb672, 3, none⟩ = some (.slice none 0 0) ∧ w'.cell? ⟨gb672, 4, none⟩ = some (u673004)) (ds := [13]) #[false, false, false, false, false, false, false, false, false, false, false, false, false, false] (by kernel_rfl) rfl rfl ⟨(blk_cell BK672.out 0).trans rfl, (blk_cell BK672.out 1).trans rfl, (blk_cell BK672.out 2).trans rfl, (blk_cell BK672.out 3).trans rfl, (blk_cell BK672.out 4).trans rfl⟩ (fun hHeld => ?_); refine with_tabW storagebarterlaw39_made.tab9 storagebarterlaw39_made.bits9 (fun HT_ HW_ => ?_)
                generalize wr.drew = w19 at HO_4 HO_673004 BK672 HI0 HK HB hHeld ⊢
                refine pure_ (i := 0) (N := some 29) (v := ?_) (a' := ?_) #[true, false, false, false, false, false, false, false, false, false, false, false, false, false] rfl rfl (any_of HT_.out (by kernel_rfl)) (fun _ _ _ h => h) (Or.inl ⟨by rfl, ?_⟩) ?_ ?_
                rotate_left
                · intro w'
                  go_simp
                  with_reducible rfl
                rotate_left
                · simp only [Act.put, List.setIfInBounds_toArray, List.set_cons_zero, List.set_cons_succ, i64_w, i32_w]
                  rfl
                refine pure_ (i := 2) (N := some 31) (v := ?_) (a' := ?_) #[true, false, true, false, false, false, false, false, false, false, false, false, false, false] rfl rfl (any_of HT_.out (by kernel_rfl)) (fun _ _ _ h => h) (Or.inl ⟨by rfl, ?_⟩) ?_ ?_
                rotate_left
                · intro w'
                  go_simp
                  with_reducible rfl
                rotate_left
                · simp only [Act.put, List.setIfInBounds_toArray, List.set_cons_zero, List.set_cons_succ, i64_w, i32_w]
                  rfl
                refine pure_ (i := 4) (N := some 33) (v := ?_) (a' := ?_) #[true, false, true, false, true, false, false, false, false, false, false, false, false, false] rfl rfl (any_of HT_.out (by kernel_rfl)) (fun _ _ _ h => h) (Or.inl ⟨by rfl, ?_⟩) ?_ ?_
                rotate_left
                · intro w'
                  go_simp
                  with_reducible rfl
                rotate_left
                · simp only [Act.put, List.setIfInBounds_toArray, List.set_cons_zero, List.set_cons_succ, i64_w, i32_w]
                  rfl
                refine pure_ (i := 6) (N := some 35) (v := ?_) (a' := ?_) #[true, false, true, false, true, false, true, false, false, false, false, false, false, false] rfl rfl (any_of HT_.out (by kernel_rfl)) (fun _ _ _ h => h) (Or.inl ⟨by rfl, ?_⟩) ?_ ?_
                rotate_left
                · intro w'
                  go_simp
                  with_reducible rfl
                rotate_left
                · simp only [Act.put, List.setIfInBounds_toArray, List.set_cons_zero, List.set_cons_succ, i64_w, i32_w]
                  rfl
                refine take_ (i := 1) (N := some 30) (v := ?_) (a' := ?_) #[true, true, true, false, true, false, true, false, false, false, false, false, false, false] rfl rfl (take_ofW HT_.out HW_.out (by kernel_rfl)) (fun _ _ _ h => h) (Or.inl ⟨by rfl, ?_⟩) hHeld ?_ ?_
                rotate_left
                · rintro w' ⟨s0, s1, s2, s3, s4⟩
                  go_simp
                  with_reducible rfl
                rotate_left
                · simp only [Act.put, List.setIfInBounds_toArray, List.set_cons_zero, List.set_cons_succ, i64_w, i32_w]
                  rfl
                refine one_ (i := 3) (N := some 32) #[true, true, true, true, true, false, true, false, false, false, false, false, false, false] rfl rfl (one_of HT_.out (by kernel_rfl)) (by decide) (fun K hK => ?_)
                refine goes_ Try.func14 (by kernel_rfl) rfl #[.pointer (some ⟨g, 0, none⟩), .int .i64 2] (by rfl) rfl rfl (by (try simp only [List.map_toArray, List.map_cons, List.map_nil]); first | done | rfl | (simp only [List.length_drop, List.length_take]; rfl)) ?_
                with_reducible refine (storagebarterplay_Dice_Pick.calls g s0_0 x1001_2 2 t675 t676 w0 _ ?side1 ?side2 A15.out).mono ?_
                (case side1 => repeat (first | (with_reducible first | exact HI0.out | apply IsS86.alloc | apply IsS86.drewN | apply IsS86.drew | apply IsS86.set_1 | refine IsS86.far ?_ NB0_672.out _) | exact HI0.out))
                (case side2 => repeat (first | (with_reducible first | exact HB.out | apply below_alloc | apply pw_below_drewN | apply below_drew1 | refine below_set ?_ (IsS86.ge HI0.out) | refine below_set ?_ GE672.out) | exact HB.out))
                rintro e w20 ⟨rfl, hi, hb, hk⟩
                refine ⟨_, rfl, ?_⟩
                have n0_ := Aside0.mk (Kd.R_mono (Kd.R_keep (IsS86.apart (show IsS86 w0 _ g s0_0 x1001_2 from by repeat (first | (with_reducible first | exact HI0.out | apply IsS86.alloc | apply IsS86.drewN | apply IsS86.drew | apply IsS86.set_1 | refine IsS86.far ?_ NB0_672.out _) | exact HI0.out)) (by (with_reducible repeat (first | apply Kd.R_alloc | apply Kd.R_drewN | apply Kd.R_drew)); exact HO_4.out) (by decide)) hk (fun _ h => h.2)) (fun _ h => h.1))
                have n1_ := Aside0.mk (Kd.R_mono (Kd.R_keep (IsS86.apart (show IsS86 w0 _ g s0_0 x1001_2 from by repeat (first | (with_reducible first | exact HI0.out | apply IsS86.alloc | apply IsS86.drewN | apply IsS86.drew | apply IsS86.set_1 | refine IsS86.far ?_ NB0_672.out _) | exact HI0.out)) (by (with_reducible repeat (first | apply Kd.R_alloc | apply Kd.R_drewN | apply Kd.R_drew)); exact HO_673004.out) (by decide)) hk (fun _ h => h.2)) (fun _ h => h.1))
                have n2_ := Aside0.mk (KeepBut.blk hk (g' := gb672) (o := .cells #[.int .i64 (wrap64 (1 + t668)), .int .i64 (wrap64 (1 + t670)), .int .i64 0, .slice none 0 0, u673004] 29 (0, 0)) (by (with_reducible repeat (first | refine blk_drewN ?_ _ | refine blk_drew ?_ | refine blk_alloc ?_ _)); exact BK672.out) NB672_0.out (by simp))
                have n3_ := Aside0.mk (KeepBut.trans (by repeat (first | (with_reducible first | exact HK.out | apply KeepBut.set_ | apply keep_drewN | apply keep_drew | apply keep_alloc | refine keep_far ?_ GW672.out _) | exact HK.out)) hk (.inl rfl))
                have n4_ := Aside0.mk (hb)
                have n5_ := Aside0.mk (hi)
                clear HO_4
                clear HO_673004
                clear BK672
                clear HK
                clear HB
                clear HI0
                have HO_4 := n0_
                have HO_673004 := n1_
                have BK672 := n2_
                have HK := n3_
                have HB := n4_
                have HI0 := n5_
                clear n0_ n1_ n2_ n3_ n4_ n5_
                (try clear hb)
                (try clear hb2)
                (try clear hk)
                (try clear hi)
                refine hK.out _ _ ⟨(blk_cell BK672.out 0).trans rfl, (blk_cell BK672.out 1).trans rfl, (blk_cell BK672.out 2).trans rfl, (blk_cell BK672.out 3).trans rfl, (blk_cell BK672.out 4).trans rfl⟩ (fun hHeld => ?_)
                clear hK K
                refine norm_ (a' := ?_) ?_ ?_
                rotate_left
                · show Act.put _ (some 32) _ = _
                  simp only [Act.put, List.setIfInBounds_toArray, List.set_cons_zero, List.set_cons_succ, i64_w, i32_w]
                  rfl
                refine one_ (i := 5) (N := some 34) #[true, true, true, true, true, true, true, false, false, false, false, false, false, false] rfl rfl (one_of HT_.out (by kernel_rfl)) (by decide) (fun K hK => ?_)
                refine goes_ Try.func14 (by kernel_rfl) rfl #[.pointer (some ⟨g, 0, none⟩), .int .i64 3] (by rfl) rfl rfl (by (try simp only [List.map_toArray, List.map_cons, List.map_nil]); first | done | rfl | (simp only [List.length_drop, List.length_take]; rfl)) ?_
                with_reducible refine (storagebarterplay_Dice_Pick.calls g s0_0 t676 3 t677 t678 w0 _ ?side1 ?side2 A16.out).mono ?_
                (case side1 => repeat (first | (with_reducible first | exact HI0.out | apply IsS86.alloc | apply IsS86.drewN | apply IsS86.drew | apply IsS86.set_1 | refine IsS86.far ?_ NB0_672.out _) | exact HI0.out))
                (case side2 => repeat (first | (with_reducible first | exact HB.out | apply below_alloc | apply pw_below_drewN | apply below_drew1 | refine below_set ?_ (IsS86.ge HI0.out) | refine below_set ?_ GE672.out) | exact HB.out))
                rintro e w21 ⟨rfl, hi, hb, hk⟩
                refine ⟨_, rfl, ?_⟩
                have n0_ := Aside0.mk (Kd.R_mono (Kd.R_keep (IsS86.apart (show IsS86 w0 _ g s0_0 t676 from by repeat (first | (with_reducible first | exact HI0.out | apply IsS86.alloc | apply IsS86.drewN | apply IsS86.drew | apply IsS86.set_1 | refine IsS86.far ?_ NB0_672.out _) | exact HI0.out)) (by (with_reducible repeat (first | apply Kd.R_alloc | apply Kd.R_drewN | apply Kd.R_drew)); exact HO_4.out) (by decide)) hk (fun _ h => h.2)) (fun _ h => h.1))
                have n1_ := Aside0.mk (Kd.R_mono (Kd.R_keep (IsS86.apart (show IsS86 w0 _ g s0_0 t676 from by repeat (first | (with_reducible first | exact HI0.out | apply IsS86.alloc | apply IsS86.drewN | apply IsS86.drew | apply IsS86.set_1 | refine IsS86.far ?_ NB0_672.out _) | exact HI0.out)) (by (with_reducible repeat (first | apply Kd.R_alloc | apply Kd.R_drewN | apply Kd.R_drew)); exact HO_673004.out) (by decide)) hk (fun _ h => h.2)) (fun _ h => h.1))
                have n2_ := Aside0.mk (KeepBut.blk hk (g' := gb672) (o := .cells #[.int .i64 (wrap64 (1 + t668)), .int .i64 (wrap64 (1 + t670)), .int .i64 0, .slice none 0 0, u673004] 29 (0, 0)) (by (with_reducible repeat (first | refine blk_drewN ?_ _ | refine blk_drew ?_ | refine blk_alloc ?_ _)); exact BK672.out) NB672_0.out (by simp))
                have n3_ := Aside0.mk (KeepBut.trans (by repeat (first | (with_reducible first | exact HK.out | apply KeepBut.set_ | apply keep_drewN | apply keep_drew | apply keep_alloc | refine keep_far ?_ GW672.out _) | exact HK.out)) hk (.inl rfl))
                have n4_ := Aside0.mk (hb)
                have n5_ := Aside0.mk (hi)
                clear HO_4
                clear HO_673004
                clear BK672
                clear HK
                clear HB
                clear HI0
                have HO_4 := n0_
                have HO_673004 := n1_
                have BK672 := n2_
                have HK := n3_
                have HB := n4_
                have HI0 := n5_
                clear n0_ n1_ n2_ n3_ n4_ n5_
                (try clear hb)
                (try clear hb2)
                (try clear hk)
                (try clear hi)
                refine hK.out _ _ ⟨(blk_cell BK672.out 0).trans rfl, (blk_cell BK672.out 1).trans rfl, (blk_cell BK672.out 2).trans rfl, (blk_cell BK672.out 3).trans rfl, (blk_cell BK672.out 4).trans rfl⟩ (fun hHeld => ?_)
                clear hK K
                refine norm_ (a' := ?_) ?_ ?_
                rotate_left
                · show Act.put _ (some 34) _ = _
                  simp only [Act.put, List.setIfInBounds_toArray, List.set_cons_zero, List.set_cons_succ, i64_w, i32_w]
                  rfl
                refine one_ (i := 7) (N := some 36) #[true, true, true, true, true, true, true, true, false, false, false, false, false, false] rfl rfl (one_of HT_.out (by kernel_rfl)) (by decide) (fun K hK => ?_)
                refine goes_ Try.func14 (by kernel_rfl) rfl #[.pointer (some ⟨g, 0, none⟩), .int .i64 2] (by rfl) rfl rfl (by (try simp only [List.map_toArray, List.map_cons, List.map_nil]); first | done | rfl | (simp only [List.length_drop, List.length_take]; rfl)) ?_
                with_reducible refine (storagebarterplay_Dice_Pick.calls g s0_0 t678 2 t679 t680 w0 _ ?side1 ?side2 A17.out).mono ?_
                (case side1 => repeat (first | (with_reducible first | exact HI0.out | apply IsS86.alloc | apply IsS86.drewN | apply IsS86.drew | apply IsS86.set_1 | refine IsS86.far ?_ NB0_672.out _) | exact HI0.out))
                (case side2 => repeat (first | (with_reducible first | exact HB.out | apply below_alloc | apply pw_below_drewN | apply below_drew1 | refine below_set ?_ (IsS86.ge HI0.out) | refine below_set ?_ GE672.out) | exact HB.out))
                rintro e w22 ⟨rfl, hi, hb, hk⟩
                refine ⟨_, rfl, ?_⟩
                have n0_ := Aside0.mk (Kd.R_mono (Kd.R_keep (IsS86.apart (show IsS86 w0 _ g s0_0 t678 from by repeat (first | (with_reducible first | exact HI0.out | apply IsS86.alloc | apply IsS86.drewN | apply IsS86.drew | apply IsS86.set_1 | refine IsS86.far ?_ NB0_672.out _) | exact HI0.out)) (by (with_reducible repeat (first | apply Kd.R_alloc | apply Kd.R_drewN | apply Kd.R_drew)); exact HO_4.out) (by decide)) hk (fun _ h => h.2)) (fun _ h => h.1))
                have n1_ := Aside0.mk (Kd.R_mono (Kd.R_keep (IsS86.apart (show IsS86 w0 _ g s0_0 t678 from by repeat (first | (with_reducible first | exact HI0.out | apply IsS86.alloc | apply IsS86.drewN | apply IsS86.drew | apply IsS86.set_1 | refine IsS86.far ?_ NB0_672.out _) | exact HI0.out)) (by (with_reducible repeat (first | apply Kd.R_alloc | apply Kd.R_drewN | apply Kd.R_drew)); exact HO_673004.out) (by decide)) hk (fun _ h => h.2)) (fun _ h => h.1))
                have n2_ := Aside0.mk (KeepBut.blk hk (g' := gb672) (o := .cells #[.int .i64 (wrap64 (1 + t668)), .int .i64 (wrap64 (1 + t670)), .int .i64 0, .slice none 0 0, u673004] 29 (0, 0)) (by (with_reducible repeat (first | refine blk_drewN ?_ _ | refine blk_drew ?_ | refine blk_alloc ?_ _)); exact BK672.out) NB672_0.out (by simp))
                have n3_ := Aside0.mk (KeepBut.trans (by repeat (first | (with_reducible first | exact HK.out | apply KeepBut.set_ | apply keep_drewN | apply keep_drew | apply keep_alloc | refine keep_far ?_ GW672.out _) | exact HK.out)) hk (.inl rfl))
                have n4_ := Aside0.mk (hb)
                have n5_ := Aside0.mk (hi)
                clear HO_4
                clear HO_673004
                clear BK672
                clear HK
                clear HB
                clear HI0
                have HO_4 := n0_
                have HO_673004 := n1_
                have BK672 := n2_
                have HK := n3_
                have HB := n4_
                have HI0 := n5_
                clear n0_ n1_ n2_ n3_ n4_ n5_
                (try clear hb)
                (try clear hb2)
                (try clear hk)
                (try clear hi)
                refine hK.out _ _ ⟨(blk_cell BK672.out 0).trans rfl, (blk_cell BK672.out 1).trans rfl, (blk_cell BK672.out 2).trans rfl, (blk_cell BK672.out 3).trans rfl, (blk_cell BK672.out 4).trans rfl⟩ (fun hHeld => ?_)
                clear hK K
                refine norm_ (a' := ?_) ?_ ?_
                rotate_left
                · show Act.put _ (some 36) _ = _
                  simp only [Act.put, List.setIfInBounds_toArray, List.set_cons_zero, List.set_cons_succ, i64_w, i32_w]
                  rfl
                refine pure_ (i := 8) (N := some 37) (v := ?_) (a' := ?_) #[true, true, true, true, true, true, true, true, true, false, false, false, false, false] rfl rfl (any_of HT_.out (by kernel_rfl)) (fun _ _ _ h => h) (Or.inl ⟨by rfl, ?_⟩) ?_ ?_
                rotate_left
                · intro w'
                  go_simp
                  with_reducible rfl
                rotate_left
                · simp only [Act.put, List.setIfInBounds_toArray, List.set_cons_zero, List.set_cons_succ, i64_w, i32_w]
                  rfl
                refine pure_ (i := 9) (N := some 38) (v := ?_) (a' := ?_) #[true, true, true, true, true, true, true, true, true, true, false, false, false, false] rfl rfl (any_of HT_.out (by kernel_rfl)) (fun _ _ _ h => h) (Or.inl ⟨by rfl, ?_⟩) ?_ ?_
                rotate_left
                · intro w'
                  go_simp
                  with_reducible rfl
                rotate_left
                · simp only [Act.put, List.setIfInBounds_toArray, List.set_cons_zero, List.set_cons_succ, i64_w, i32_w]
                  rfl
                refine one_ (i := 10) (N := some 39) #[true, true, true, true, true, true, true, true, true, true, true, false, false, false] rfl rfl (one_of HT_.out (by kernel_rfl)) (by decide) (fun K hK => ?_)
                refine value_ (w1 := ?_) (v := ?_) (by rfl) rfl ?_ ?_
                rotate_left 2
                · go_simp
                  constructor
                  · rfl
                  · rfl
                refine hK.out _ _ ⟨(blk_cell (blk_alloc BK672.out _) 0).trans rfl, (blk_cell (blk_alloc BK672.out _) 1).trans rfl, (blk_cell (blk_alloc BK672.out _) 2).trans rfl, (blk_cell (blk_alloc BK672.out _) 3).trans rfl, (blk_cell (blk_alloc BK672.out _) 4).trans rfl⟩ (fun hHeld => ?_)
                clear hK K
                refine norm_ (a' := ?_) ?_ ?_
                rotate_left
                · show Act.put _ (some 39) _ = _
                  simp only [Act.put, List.setIfInBounds_toArray, List.set_cons_zero, List.set_cons_succ, i64_w, i32_w]
                  rfl
                refine one_ (i := 11) (N := some 40) #[true, true, true, true, true, true, true, true, true, true, true, true, false, false] rfl rfl (one_of HT_.out (by kernel_rfl)) (by decide) (fun K hK => ?_)
                refine Kd.R_append_step k74 w.heap.size (by rfl) (.tmp 30) (.tmp 39) 27 74 (.agg #[(.int .i64 0), (.int .i64 0), (.int .i64 0)]) 24 rfl Try.underlying27 info74 rfl (by decide) (by omega) u673004 x673004_2 (⟨t675, t677, wrap64 (4 + t679)⟩ : S74) [.int .i64 t675, .int .i64 t677, .int .i64 (wrap64 (4 + t679))] (fun _ => True) (fun _ => False) rfl rfl ?aP (fun _ hk => hk.elim) ?aF ?aO (Below.refl _ _) ?aS ?aL ?_
                (case aP => exact k74_mkM _ _ _ (⟨t675, t677, wrap64 (4 + t679)⟩ : S74))
                (case aF => exact (fun _ _ => trivial))
                (case aO => exact (by (with_reducible repeat (first | apply Kd.R_alloc | apply Kd.R_drewN | apply Kd.R_drew)); exact HO_673004.out))
                (case aS => exact (keep_size (w := w) (g := g) (row := none) (by repeat (first | (with_reducible first | exact HK.out | apply KeepBut.set_ | apply keep_drewN | apply keep_drew | apply keep_alloc | refine keep_far ?_ GW672.out _) | exact HK.out))))
                (case aL => have := LMc18.out; omega)
                intro v682 w23 ho hb hg hat
                rw [← Ny681.out] at ho
                have n0_ := Aside0.mk (Kd.R_after (ok := (fun k_ => k_ ≠ gb672)) (by (with_reducible repeat (first | apply Kd.R_alloc | apply Kd.R_drewN | apply Kd.R_drew)); exact Kd.R_mono HO_4.out (fun _ hk => ⟨hk.2, hk.1⟩)) hg hat)
                have n1_ := Aside0.mk (blk_grown (g := gb672) (o := .cells #[.int .i64 (wrap64 (1 + t668)), .int .i64 (wrap64 (1 + t670)), .int .i64 0, .slice none 0 0, u673004] 29 (0, 0)) (by (with_reducible repeat (first | refine blk_drewN ?_ _ | refine blk_drew ?_ | refine blk_alloc ?_ _)); exact BK672.out) hg (Kd.R_ne HO_673004.out BK672.out (by decide)))
                have n2_ := Aside0.mk (IsS86.grown (by repeat (first | (with_reducible first | exact HI0.out | apply IsS86.alloc | apply IsS86.drewN | apply IsS86.drew | apply IsS86.set_1 | refine IsS86.far ?_ NB0_672.out _) | exact HI0.out)) hg (IsS86.own_ne HI0.out HO_673004.out (by decide)))
                have n3_ := Aside0.mk (below_weaken (by repeat (first | (with_reducible first | exact HB.out | apply below_alloc | apply pw_below_drewN | apply below_drew1 | refine below_set ?_ (IsS86.ge HI0.out) | refine below_set ?_ GE672.out) | exact HB.out)) HL.out hb)
                have n4_ := Aside0.mk (KeepBut.trans (by repeat (first | (with_reducible first | exact HK.out | apply KeepBut.set_ | apply keep_drewN | apply keep_drew | apply keep_alloc | refine keep_far ?_ GW672.out _) | exact HK.out)) (KeepBut.of_grown hg g) (Kd.R_base2 HO_673004.out))
                have n5_ := Aside0.mk (ho)
                clear HO_4
                clear BK672
                clear HI0
                clear HB
                clear HK
                clear HO_673004
                have HO_4 := n0_
                have BK672 := n1_
                have HI0 := n2_
                have HB := n3_
                have HK := n4_
                have HO683 := n5_
                clear n0_ n1_ n2_ n3_ n4_ n5_
                clear ho hb hg hat
                obtain ⟨Ao24, co24, eo24⟩ := Kd.R_slice HO683.out
                (first | subst eo24 | (injection eo24 with f1_ f2_ f3_; have f4_ := f1_.symm; have f5_ := f3_.symm; clear f1_ f2_ f3_; subst f4_; subst f5_))
                refine hK.out _ _ ⟨(blk_cell BK672.out 0).trans rfl, (blk_cell BK672.out 1).trans rfl, (blk_cell BK672.out 2).trans rfl, (blk_cell BK672.out 3).trans rfl, (blk_cell BK672.out 4).trans rfl⟩ (fun hHeld => ?_)
                clear hK K
                refine norm_ (a' := ?_) ?_ ?_
                rotate_left
                · show Act.put _ (some 40) _ = _
                  simp only [Act.put, List.setIfInBounds_toArray, List.set_cons_zero, List.set_cons_succ, i64_w, i32_w]
                  rfl
                refine pure_ (i := 12) (N := some 41) (v := ?_) (a' := ?_) #[true, true, true, true, true, true, true, true, true, true, true, true, true, false] rfl rfl (any_of HT_.out (by kernel_rfl)) (fun _ _ _ h => h) (Or.inl ⟨by rfl, ?_⟩) ?_ ?_
                rotate_left
                · intro w'
                  go_simp
                  with_reducible rfl
                rotate_left
                · simp only [Act.put, List.setIfInBounds_toArray, List.set_cons_zero, List.set_cons_succ, i64_w, i32_w]
                  rfl
                refine last_ (i := 13) (N := none) #[true, true, true, true, true, true, true, true, true, true, true, true, true, true] rfl rfl (one_of HT_.out (by kernel_rfl)) (by decide) (fun K hK => ?_)
                have hs25 : w23.cell? ⟨gb672, 4, none⟩ = some (u673004) := (blk_cell BK672.out 4).trans rfl
                have hfs25 := blk_frozen BK672.out 4
                refine skip_ (w1 := ?_) (by rfl) rfl ?_ ?_
                rotate_left
                · go_simp
                  rfl
                refine hK.out _ _ ?_
                clear hK K
                refine done_ (done_of HT_.out (by kernel_rfl)) ?_
                try go_wp2
                go_roundg k2
                case measure => have := HK1.out; have := HK2.out; omega
                case rel => exact ⟨(wrap64 (x7_2 - 1)), (t680), (y681), (.slice Ao24 y681.length co24), (by first | rfl | (simp; done) | (simp [*]; done)), H', ⟨by have := HK1.out; have := HK2.out; omega⟩, ⟨by (with_reducible repeat (first | apply Kd.R_alloc | apply Kd.R_drewN | apply Kd.R_drew)); exact Kd.R_mono (Kd.R_far (p := ⟨gb672, 4, none⟩) (Kd.R_mono HO_4.out (fun k_ hk => (⟨hk, hk.1⟩ : _ ∧ k_ ≠ gb672))) (fun _ hk => hk.2) (.slice Ao24 y681.length co24)) (fun _ hk => ⟨hk.1.2, hk.1.1⟩)⟩, ⟨by (with_reducible repeat (first | apply Kd.R_alloc | apply Kd.R_drewN | apply Kd.R_drew)); exact Kd.R_mono (Kd.R_far (p := ⟨gb672, 4, none⟩) (Kd.R_types HO683.out BK672.out (by decide)) (fun _ hk => hk.2) (.slice Ao24 y681.length co24)) (fun _ hk => trivial)⟩, ⟨by (with_reducible repeat (first | refine blk_drewN ?_ _ | refine blk_drew ?_ | refine blk_alloc ?_ _)); refine blk_put (cs := #[.int .i64 (wrap64 (1 + t668)), .int .i64 (wrap64 (1 + t670)), .int .i64 0, .slice none 0 0, u673004]) ?_ 4 _ rfl; (with_reducible repeat (first | refine blk_drewN ?_ _ | refine blk_drew ?_ | refine blk_alloc ?_ _)); exact BK672.out⟩, ⟨by repeat (first | (with_reducible first | exact HI0.out | apply IsS86.alloc | apply IsS86.drewN | apply IsS86.drew | apply IsS86.set_1 | refine IsS86.far ?_ NB0_672.out _) | exact HI0.out)⟩, ⟨by repeat (first | (with_reducible first | exact HK.out | apply KeepBut.set_ | apply keep_drewN | apply keep_drew | apply keep_alloc | refine keep_far ?_ GW672.out _) | exact HK.out)⟩, ⟨by repeat (first | (with_reducible first | exact HB.out | apply below_alloc | apply pw_below_drewN | apply below_drew1 | refine below_set ?_ (IsS86.ge HI0.out) | refine below_set ?_ GE672.out) | exact HB.out)⟩⟩
              · rw [if_neg c18] at H
                exact absurd H (by simp)
            · rw [if_neg c14] at H
              have c14b0 : decide (0 < x7_2) = false := decide_eq_false c14
              clear c14
              by_cases c26 : x4_1.length < 1954687338268
              · rw [if_pos c26] at H
                have LMc26 := Aside0.mk c26
                clear c26
                obtain ⟨y684, hy684⟩ : ∃ y_ : List (S29), y_ = (x4_1 ++ [(⟨(wrap64 (1 + t668)), (wrap64 (1 + t670)), 0, ([] : List (S48)), x673004_2⟩ : S29)]) := ⟨_, rfl⟩
                replace H : (storagebarterlaw39_made.l0 k2 y684 (wrap64 (x5_1 - 1)) s0_0 x1001_2) = some (r1, r2, r3) := by first | (rw [hy684]; with_reducible exact H) | (have H2_ := (Option.bind_some _ _).symm.trans H; rw [hy684]; with_reducible exact H2_) | (have H2_ := (Option.bind_some _ _).symm.trans H; with_reducible exact H2_) | with_reducible exact H | (rw [hy684]; exact H) | exact H
                have Ny684 := Aside0.mk hy684
                clear hy684
                have H' := Aside0.mk H
                clear H
                have hnb27 := NB672_0.out
                have hnc27 := NB0_672.out
                have hcz28_0 : wr.cell? ⟨gb672, 0, none⟩ = some (.int .i64 (wrap64 (1 + t668))) := (blk_cell BK672.out 0).trans rfl
                have hcz28_1 : wr.cell? ⟨gb672, 1, none⟩ = some (.int .i64 (wrap64 (1 + t670))) := (blk_cell BK672.out 1).trans rfl
                have hcz28_2 : wr.cell? ⟨gb672, 2, none⟩ = some (.int .i64 0) := (blk_cell BK672.out 2).trans rfl
                have hcz28_3 : wr.cell? ⟨gb672, 3, none⟩ = some (.slice none 0 0) := (blk_cell BK672.out 3).trans rfl
                have hcz28_4 : wr.cell? ⟨gb672, 4, none⟩ = some (u673004) := (blk_cell BK672.out 4).trans rfl
                have hfz28_0 := blk_frozen BK672.out 0
                have hfz28_1 := blk_frozen BK672.out 1
                have hfz28_2 := blk_frozen BK672.out 2
                have hfz28_3 := blk_frozen BK672.out 3
                have hfz28_4 := blk_frozen BK672.out 4
                obtain ⟨Ao30, co30, eo30⟩ := Kd.R_slice HO_673004.out
                subst eo30
                go_wp2_with (first | ((with_reducible refine gate_builtin (b := .append) (xs := #[.tmp 42, .tmp 44]) rfl ?_); at_builtin; refine Kd.R_append k29 w.heap.size rfl (.tmp 42) (.tmp 44) 51 29 (.agg #[(.int .i64 0), (.int .i64 0), (.int .i64 0), (.slice none 0 0), (.slice none 0 0)]) 72 rfl Try.underlying51 info29 rfl (by decide) (by omega) u4 x4_1 (⟨(wrap64 (1 + t668)), (wrap64 (1 + t670)), 0, ([] : List (S48)), x673004_2⟩ : S29) [.int .i64 (wrap64 (1 + t668)), .int .i64 (wrap64 (1 + t670)), .int .i64 0, .slice none 0 0, .slice Ao30 x673004_2.length co30] (fun k_ => k_ ≠ gb672) (fun k_ => ((fun k_ => k_ ≠ gb672)) k_ ∧ some k_ ≠ (u4 : Value).ownBlock) rfl rfl ?aP (fun _ hk => hk) ?aF ?aO (Below.refl _ _) ?aS ?aL ?_; (case aP => exact k29_mkM _ _ _ (⟨(wrap64 (1 + t668)), (wrap64 (1 + t670)), 0, ([] : List (S48)), x673004_2⟩ : S29) (Kd.R_nil _ _ _ _ _) (Kd.R_mono (Kd.R_types (Kd.R_apart' (HO_673004.out) (Kd.R_typed HO_4.out) (by decide)) BK672.out (by decide)) (fun k_ hk => ⟨hk.2, hk.1.2⟩))); (case aF => exact (fun k_ hk => Kd.freshB (g := gb672) (o := .cells #[.int .i64 (wrap64 (1 + t668)), .int .i64 (wrap64 (1 + t670)), .int .i64 0, .slice none 0 0, .slice Ao30 x673004_2.length co30] 29 (0, 0)) (by (with_reducible repeat (first | refine blk_drewN ?_ _ | refine blk_drew ?_ | refine blk_alloc ?_ _)); exact BK672.out) k_ hk)); (case aO => exact (by (with_reducible repeat (first | apply Kd.R_alloc | apply Kd.R_drewN | apply Kd.R_drew)); exact Kd.R_mono HO_4.out (fun _ hk => hk.2))); (case aS => exact (keep_size (w := w) (g := g) (row := none) (by repeat (first | (with_reducible first | exact HK.out | apply KeepBut.set_ | apply keep_drewN | apply keep_drew | apply keep_alloc | refine keep_far ?_ GW672.out _) | exact HK.out)))); (case aL => have := LMc26.out; omega); intro v685 w29 ho hb hg hat; rw [← Ny684.out] at ho; have n0_ := Aside0.mk (blk_grown (g := gb672) (o := .cells #[.int .i64 (wrap64 (1 + t668)), .int .i64 (wrap64 (1 + t670)), .int .i64 0, .slice none 0 0, .slice Ao30 x673004_2.length co30] 29 (0, 0)) (by (with_reducible repeat (first | refine blk_drewN ?_ _ | refine blk_drew ?_ | refine blk_alloc ?_ _)); exact BK672.out) hg (Kd.R_away HO_4.out (fun _ hk => hk.2))); have n1_ := Aside0.mk (IsS86.grown (by repeat (first | (with_reducible first | exact HI0.out | apply IsS86.alloc | apply IsS86.drewN | apply IsS86.drew | apply IsS86.set_1 | refine IsS86.far ?_ NB0_672.out _) | exact HI0.out)) hg (IsS86.own_ne HI0.out HO_4.out (by decide))); have n2_ := Aside0.mk (below_weaken (by repeat (first | (with_reducible first | exact HB.out | apply below_alloc | apply pw_below_drewN | apply below_drew1 | refine below_set ?_ (IsS86.ge HI0.out) | refine below_set ?_ GE672.out) | exact HB.out)) HL.out hb); have n3_ := Aside0.mk (KeepBut.trans (by repeat (first | (with_reducible first | exact HK.out | apply KeepBut.set_ | apply keep_drewN | apply keep_drew | apply keep_alloc | refine keep_far ?_ GW672.out _) | exact HK.out)) (KeepBut.of_grown hg g) (Kd.R_base2 HO_4.out)); have n4_ := Aside0.mk (ho); clear BK672; clear HI0; clear HB; clear HK; clear HO_4; clear HO_673004; have BK672 := n0_; have HI0 := n1_; have HB := n2_; have HK := n3_; have HO686 := n4_; clear n0_ n1_ n2_ n3_ n4_; clear ho hb hg hat))
                go_roundg k2
                case measure => have := HK1.out; have := HK2.out; omega
                case rel => exact ⟨(y684), (wrap64 (x5_1 - 1)), (x1001_2), (by first | rfl | (simp; done) | (simp [*]; done)), H', ⟨by have := HK1.out; have := HK2.out; omega⟩, ⟨by (with_reducible repeat (first | apply Kd.R_alloc | apply Kd.R_drewN | apply Kd.R_drew)); exact Kd.R_mono HO686.out (fun _ hk => trivial)⟩, ⟨by repeat (first | (with_reducible first | exact HI0.out | apply IsS86.alloc | apply IsS86.drewN | apply IsS86.drew | apply IsS86.set_1 | refine IsS86.far ?_ NB0_672.out _) | exact HI0.out)⟩, ⟨by repeat (first | (with_reducible first | exact HK.out | apply KeepBut.set_ | apply keep_drewN | apply keep_drew | apply keep_alloc | refine keep_far ?_ GW672.out _) | exact HK.out)⟩, ⟨by repeat (first | (with_reducible first | exact HB.out | apply below_alloc | apply pw_below_drewN | apply below_drew1 | refine below_set ?_ (IsS86.ge HI0.out) | refine below_set ?_ GE672.out) | exact HB.out)⟩⟩
              · rw [if_neg c26] at H
                exact absurd H (by simp)
      · rw [if_neg c4] at H
        have c4b0 : decide (0 < x5_1) = false := decide_eq_false c4
        clear c4
        replace H := Option.bind_eq_some_iff.mp H
        obtain ⟨⟨t687, t688⟩, A310, H⟩ := H
        replace H : (storagebarterlaw39_made.l2 k1 x4_1 ([] : List (S72)) t687 s0_0 t688) = some (r1, r2, r3) := H
        have A31 := Aside0.mk A310
        clear A310
        have H' := Aside0.mk H
        clear H
        go_wp2_with (first | ((with_reducible refine gate_callee (f := 14) rfl ?_); refine goesL_ (some 47) rfl rfl Try.func14 (by kernel_rfl) rfl #[.pointer (some ⟨g, 0, none⟩), .int .i64 8] rfl (by (try simp only [List.map_toArray, List.map_cons, List.map_nil]); first | done | rfl | (simp only [List.length_drop, List.length_take]; rfl)) ?_; (with_reducible refine (storagebarterplay_Dice_Pick.calls g s0_0 x1001_1 8 t687 t688 w0 _ ?side1 ?side2 A31.out).mono ?_); (case side1 => repeat (first | (with_reducible first | exact HI0.out | apply IsS86.alloc | apply IsS86.drewN | apply IsS86.drew | apply IsS86.set_1) | exact HI0.out)); (case side2 => repeat (first | (with_reducible first | exact HB.out | apply below_alloc | apply pw_below_drewN | apply below_drew1 | refine below_set ?_ (IsS86.ge HI0.out)) | exact HB.out)); rintro e w32 ⟨rfl, hi, hb, hk⟩; refine ⟨_, rfl, ?_⟩; have n0_ := Aside0.mk (Kd.R_mono (Kd.R_keep (IsS86.apart (show IsS86 w0 _ g s0_0 x1001_1 from by repeat (first | (with_reducible first | exact HI0.out | apply IsS86.alloc | apply IsS86.drewN | apply IsS86.drew | apply IsS86.set_1) | exact HI0.out)) (by (with_reducible repeat (first | apply Kd.R_alloc | apply Kd.R_drewN | apply Kd.R_drew)); exact HO_4.out) (by decide)) hk (fun _ h => h.2)) (fun _ h => h.1)); have n1_ := Aside0.mk (KeepBut.trans (by repeat (first | (with_reducible first | exact HK.out | apply KeepBut.set_ | apply keep_drewN | apply keep_drew | apply keep_alloc) | exact HK.out)) hk (.inl rfl)); have n2_ := Aside0.mk (hb); have n3_ := Aside0.mk (hi); clear HO_4; clear HK; clear HB; clear HI0; have HO_4 := n0_; have HK := n1_; have HB := n2_; have HI0 := n3_; clear n0_ n1_ n2_ n3_; (try clear hb); (try clear hb2); (try clear hk); (try clear hi)))
        go_loopg [8, 9] k1 (fun kq v8 v9 w' => ∃ (x8_2 : List (S72)) (x9_2 : Int) (x1001_2 : Int), v9 = .int .i64 x9_2 ∧ Aside0 (storagebarterlaw39_made.l2 kq x4_1 x8_2 x9_2 s0_0 x1001_2 = some (r1, r2, r3)) ∧ Aside0 (kq ≤ k1) ∧ Aside0 (Kd.R k29 29 w' w.heap.size (fun _ => True) u4 x4_1) ∧ Aside0 (Kd.R k72 72 w' w.heap.size (fun _ => True) v8 x8_2) ∧ Aside0 (IsS86 w0 w' g s0_0 x1001_2) ∧ Aside0 (KeepBut w w' g none) ∧ Aside0 (Below w0.heap.size w0 w'))
        case atStart => exact ⟨(([] : List (S72))), (t687), (t688), (by first | rfl | (simp; done) | (simp [*]; done)), H', ⟨Nat.le_refl _⟩, ⟨by (with_reducible repeat (first | apply Kd.R_alloc | apply Kd.R_drewN | apply Kd.R_drew)); exact HO_4.out⟩, ⟨by first | exact Kd.R_nil _ _ _ _ _ | exact Kd.N_nil _ _ _ _ _ | exact Kd.V_nil _ _ _ _ _ | exact Kd.Q_nil _ _ _ _ _ | exact Kd.S_nil _ _ _ _ _⟩, ⟨by repeat (first | (with_reducible first | exact HI0.out | apply IsS86.alloc | apply IsS86.drewN | apply IsS86.drew | apply IsS86.set_1) | exact HI0.out)⟩, ⟨by repeat (first | (with_reducible first | exact HK.out | apply KeepBut.set_ | apply keep_drewN | apply keep_drew | apply keep_alloc) | exact HK.out)⟩, ⟨by repeat (first | (with_reducible first | exact HB.out | apply below_alloc | apply pw_below_drewN | apply below_drew1 | refine below_set ?_ (IsS86.ge HI0.out)) | exact HB.out)⟩⟩
        case round =>
          clear H'
          try clear c1
          try clear c2
          try clear p2
          try clear c4
          try clear c4b0
          try clear p6
          try clear c11
          try clear c14
          try clear c14b0
          try clear c18
          try clear c24
          try clear c26
          try clear c27
          try clear hcz12_0
          try clear hcz12_1
          try clear hcz12_2
          try clear hcz12_3
          try clear hcz12_4
          try clear hcz28_0
          try clear hcz28_1
          try clear hcz28_2
          try clear hcz28_3
          try clear hcz28_4
          try clear hfz12_0
          try clear hfz12_1
          try clear hfz12_2
          try clear hfz12_3
          try clear hfz12_4
          try clear hfz28_0
          try clear hfz28_1
          try clear hfz28_2
          try clear hfz28_3
          try clear hfz28_4
          try clear p2
          try clear p6
          obtain ⟨x8_2, x9_2, x1001_2, rfl, HA, HK2, HO_4, HO_8, HI0, HK, HB⟩ := hrel
          cases gk with
          | zero => exact absurd HA.out (by simp [storagebarterlaw39_made.l2])
          | succ k2 =>
            have H := HA.out
            clear HA
            simp only [storagebarterlaw39_made.l2] at H
            by_cases c33 : x9_2 > 0
            · rw [if_pos c33] at H
              have c33b0 : decide (0 < x9_2) = true := decide_eq_true c33
              clear c33
              replace H := Option.bind_eq_some_iff.mp H
              obtain ⟨⟨t689, t690⟩, A340, H⟩ := H
              replace H : ((storagebarterplay_Dice_Pick.f s0_0 t690 4).bind fun bt691 => ((storagebarterplay_Dice_Pick.f s0_0 bt691.2 2).bind fun bt693 => ((storagebarterplay_Dice_Pick.f s0_0 bt693.2 3).bind fun bt695 => ((storagebarterplay_Dice_Shard.f s0_0 bt695.2).bind fun bt697 => (if x8_2.length < 2932031007402 then (storagebarterlaw39_made.l2 k2 x4_1 (x8_2 ++ [(⟨wrap64 (1 + t689), wrap64 (1 + bt691.1), bt693.1, bt695.1, bt697.1⟩ : S72)]) (wrap64 (x9_2 - 1)) s0_0 bt697.2) else (none)))))) = some (r1, r2, r3) := H
              have A34 := Aside0.mk A340
              clear A340
              replace H := Option.bind_eq_some_iff.mp H
              obtain ⟨⟨t691, t692⟩, A350, H⟩ := H
              replace H : ((storagebarterplay_Dice_Pick.f s0_0 t692 2).bind fun bt693 => ((storagebarterplay_Dice_Pick.f s0_0 bt693.2 3).bind fun bt695 => ((storagebarterplay_Dice_Shard.f s0_0 bt695.2).bind fun bt697 => (if x8_2.length < 2932031007402 then (storagebarterlaw39_made.l2 k2 x4_1 (x8_2 ++ [(⟨wrap64 (1 + t689), wrap64 (1 + t691), bt693.1, bt695.1, bt697.1⟩ : S72)]) (wrap64 (x9_2 - 1)) s0_0 bt697.2) else (none))))) = some (r1, r2, r3) := H
              have A35 := Aside0.mk A350
              clear A350
              replace H := Option.bind_eq_some_iff.mp H
              obtain ⟨⟨t693, t694⟩, A360, H⟩ := H
              replace H : ((storagebarterplay_Dice_Pick.f s0_0 t694 3).bind fun bt695 => ((storagebarterplay_Dice_Shard.f s0_0 bt695.2).bind fun bt697 => (if x8_2.length < 2932031007402 then (storagebarterlaw39_made.l2 k2 x4_1 (x8_2 ++ [(⟨wrap64 (1 + t689), wrap64 (1 + t691), t693, bt695.1, bt697.1⟩ : S72)]) (wrap64 (x9_2 - 1)) s0_0 bt697.2) else (none)))) = some (r1, r2, r3) := H
              have A36 := Aside0.mk A360
              clear A360
              replace H := Option.bind_eq_some_iff.mp H
              obtain ⟨⟨t695, t696⟩, A370, H⟩ := H
              replace H : ((storagebarterplay_Dice_Shard.f s0_0 t696).bind fun bt697 => (if x8_2.length < 2932031007402 then (storagebarterlaw39_made.l2 k2 x4_1 (x8_2 ++ [(⟨wrap64 (1 + t689), wrap64 (1 + t691), t693, t695, bt697.1⟩ : S72)]) (wrap64 (x9_2 - 1)) s0_0 bt697.2) else (none))) = some (r1, r2, r3) := H
              have A37 := Aside0.mk A370
              clear A370
              replace H := Option.bind_eq_some_iff.mp H
              obtain ⟨⟨t697, t698⟩, A380, H⟩ := H
              replace H : (if x8_2.length < 2932031007402 then (storagebarterlaw39_made.l2 k2 x4_1 (x8_2 ++ [(⟨wrap64 (1 + t689), wrap64 (1 + t691), t693, t695, t697⟩ : S72)]) (wrap64 (x9_2 - 1)) s0_0 t698) else (none)) = some (r1, r2, r3) := H
              have A38 := Aside0.mk A380
              clear A380
              by_cases c39 : x8_2.length < 2932031007402
              · rw [if_pos c39] at H
                have LMc39 := Aside0.mk c39
                clear c39
                obtain ⟨y699, hy699⟩ : ∃ y_ : List (S72), y_ = (x8_2 ++ [(⟨wrap64 (1 + t689), wrap64 (1 + t691), t693, t695, t697⟩ : S72)]) := ⟨_, rfl⟩
                replace H : (storagebarterlaw39_made.l2 k2 x4_1 y699 (wrap64 (x9_2 - 1)) s0_0 t698) = some (r1, r2, r3) := by first | (rw [hy699]; with_reducible exact H) | (have H2_ := (Option.bind_some _ _).symm.trans H; rw [hy699]; with_reducible exact H2_) | (have H2_ := (Option.bind_some _ _).symm.trans H; with_reducible exact H2_) | with_reducible exact H | (rw [hy699]; exact H) | exact H
                have Ny699 := Aside0.mk hy699
                clear hy699
                have H' := Aside0.mk H
                clear H
                go_wp2_with (first | ((with_reducible refine gate_callee (f := 14) rfl ?_); refine goesL_ (some 54) rfl rfl Try.func14 (by kernel_rfl) rfl #[.pointer (some ⟨g, 0, none⟩), .int .i64 3] rfl (by (try simp only [List.map_toArray, List.map_cons, List.map_nil]); first | done | rfl | (simp only [List.length_drop, List.length_take]; rfl)) ?_; (with_reducible refine (storagebarterplay_Dice_Pick.calls g s0_0 x1001_2 3 t689 t690 w0 _ ?side1 ?side2 A34.out).mono ?_); (case side1 => repeat (first | (with_reducible first | exact HI0.out | apply IsS86.alloc | apply IsS86.drewN | apply IsS86.drew | apply IsS86.set_1) | exact HI0.out)); (case side2 => repeat (first | (with_reducible first | exact HB.out | apply below_alloc | apply pw_below_drewN | apply below_drew1 | refine below_set ?_ (IsS86.ge HI0.out)) | exact HB.out)); rintro e w40 ⟨rfl, hi, hb, hk⟩; refine ⟨_, rfl, ?_⟩; have n0_ := Aside0.mk (Kd.R_mono (Kd.R_keep (IsS86.apart (show IsS86 w0 _ g s0_0 x1001_2 from by repeat (first | (with_reducible first | exact HI0.out | apply IsS86.alloc | apply IsS86.drewN | apply IsS86.drew | apply IsS86.set_1) | exact HI0.out)) (by (with_reducible repeat (first | apply Kd.R_alloc | apply Kd.R_drewN | apply Kd.R_drew)); exact HO_4.out) (by decide)) hk (fun _ h => h.2)) (fun _ h => h.1)); have n1_ := Aside0.mk (Kd.R_mono (Kd.R_keep (IsS86.apart (show IsS86 w0 _ g s0_0 x1001_2 from by repeat (first | (with_reducible first | exact HI0.out | apply IsS86.alloc | apply IsS86.drewN | apply IsS86.drew | apply IsS86.set_1) | exact HI0.out)) (by (with_reducible repeat (first | apply Kd.R_alloc | apply Kd.R_drewN | apply Kd.R_drew)); exact HO_8.out) (by decide)) hk (fun _ h => h.2)) (fun _ h => h.1)); have n2_ := Aside0.mk (KeepBut.trans (by repeat (first | (with_reducible first | exact HK.out | apply KeepBut.set_ | apply keep_drewN | apply keep_drew | apply keep_alloc) | exact HK.out)) hk (.inl rfl)); have n3_ := Aside0.mk (hb); have n4_ := Aside0.mk (hi); clear HO_4; clear HO_8; clear HK; clear HB; clear HI0; have HO_4 := n0_; have HO_8 := n1_; have HK := n2_; have HB := n3_; have HI0 := n4_; clear n0_ n1_ n2_ n3_ n4_; (try clear hb); (try clear hb2); (try clear hk); (try clear hi)) | ((with_reducible refine gate_callee (f := 14) rfl ?_); refine goesL_ (some 57) rfl rfl Try.func14 (by kernel_rfl) rfl #[.pointer (some ⟨g, 0, none⟩), .int .i64 4] rfl (by (try simp only [List.map_toArray, List.map_cons, List.map_nil]); first | done | rfl | (simp only [List.length_drop, List.length_take]; rfl)) ?_; (with_reducible refine (storagebarterplay_Dice_Pick.calls g s0_0 t690 4 t691 t692 w0 _ ?side1 ?side2 A35.out).mono ?_); (case side1 => repeat (first | (with_reducible first | exact HI0.out | apply IsS86.alloc | apply IsS86.drewN | apply IsS86.drew | apply IsS86.set_1) | exact HI0.out)); (case side2 => repeat (first | (with_reducible first | exact HB.out | apply below_alloc | apply pw_below_drewN | apply below_drew1 | refine below_set ?_ (IsS86.ge HI0.out)) | exact HB.out)); rintro e w41 ⟨rfl, hi, hb, hk⟩; refine ⟨_, rfl, ?_⟩; have n0_ := Aside0.mk (Kd.R_mono (Kd.R_keep (IsS86.apart (show IsS86 w0 _ g s0_0 t690 from by repeat (first | (with_reducible first | exact HI0.out | apply IsS86.alloc | apply IsS86.drewN | apply IsS86.drew | apply IsS86.set_1) | exact HI0.out)) (by (with_reducible repeat (first | apply Kd.R_alloc | apply Kd.R_drewN | apply Kd.R_drew)); exact HO_4.out) (by decide)) hk (fun _ h => h.2)) (fun _ h => h.1)); have n1_ := Aside0.mk (Kd.R_mono (Kd.R_keep (IsS86.apart (show IsS86 w0 _ g s0_0 t690 from by repeat (first | (with_reducible first | exact HI0.out | apply IsS86.alloc | apply IsS86.drewN | apply IsS86.drew | apply IsS86.set_1) | exact HI0.out)) (by (with_reducible repeat (first | apply Kd.R_alloc | apply Kd.R_drewN | apply Kd.R_drew)); exact HO_8.out) (by decide)) hk (fun _ h => h.2)) (fun _ h => h.1)); have n2_ := Aside0.mk (KeepBut.trans (by repeat (first | (with_reducible first | exact HK.out | apply KeepBut.set_ | apply keep_drewN | apply keep_drew | apply keep_alloc) | exact HK.out)) hk (.inl rfl)); have n3_ := Aside0.mk (hb); have n4_ := Aside0.mk (hi); clear HO_4; clear HO_8; clear HK; clear HB; clear HI0; have HO_4 := n0_; have HO_8 := n1_; have HK := n2_; have HB := n3_; have HI0 := n4_; clear n0_ n1_ n2_ n3_ n4_; (try clear hb); (try clear hb2); (try clear hk); (try clear hi)) | ((with_reducible refine gate_callee (f := 14) rfl ?_); refine goesL_ (some 60) rfl rfl Try.func14 (by kernel_rfl) rfl #[.pointer (some ⟨g, 0, none⟩), .int .i64 2] rfl (by (try simp only [List.map_toArray, List.map_cons, List.map_nil]); first | done | rfl | (simp only [List.length_drop, List.length_take]; rfl)) ?_; (with_reducible refine (storagebarterplay_Dice_Pick.calls g s0_0 t692 2 t693 t694 w0 _ ?side1 ?side2 A36.out).mono ?_); (case side1 => repeat (first | (with_reducible first | exact HI0.out | apply IsS86.alloc | apply IsS86.drewN | apply IsS86.drew | apply IsS86.set_1) | exact HI0.out)); (case side2 => repeat (first | (with_reducible first | exact HB.out | apply below_alloc | apply pw_below_drewN | apply below_drew1 | refine below_set ?_ (IsS86.ge HI0.out)) | exact HB.out)); rintro e w42 ⟨rfl, hi, hb, hk⟩; refine ⟨_, rfl, ?_⟩; have n0_ := Aside0.mk (Kd.R_mono (Kd.R_keep (IsS86.apart (show IsS86 w0 _ g s0_0 t692 from by repeat (first | (with_reducible first | exact HI0.out | apply IsS86.alloc | apply IsS86.drewN | apply IsS86.drew | apply IsS86.set_1) | exact HI0.out)) (by (with_reducible repeat (first | apply Kd.R_alloc | apply Kd.R_drewN | apply Kd.R_drew)); exact HO_4.out) (by decide)) hk (fun _ h => h.2)) (fun _ h => h.1)); have n1_ := Aside0.mk (Kd.R_mono (Kd.R_keep (IsS86.apart (show IsS86 w0 _ g s0_0 t692 from by repeat (first | (with_reducible first | exact HI0.out | apply IsS86.alloc | apply IsS86.drewN | apply IsS86.drew | apply IsS86.set_1) | exact HI0.out)) (by (with_reducible repeat (first | apply Kd.R_alloc | apply Kd.R_drewN | apply Kd.R_drew)); exact HO_8.out) (by decide)) hk (fun _ h => h.2)) (fun _ h => h.1)); have n2_ := Aside0.mk (KeepBut.trans (by repeat (first | (with_reducible first | exact HK.out | apply KeepBut.set_ | apply keep_drewN | apply keep_drew | apply keep_alloc) | exact HK.out)) hk (.inl rfl)); have n3_ := Aside0.mk (hb); have n4_ := Aside0.mk (hi); clear HO_4; clear HO_8; clear HK; clear HB; clear HI0; have HO_4 := n0_; have HO_8 := n1_; have HK := n2_; have HB := n3_; have HI0 := n4_; clear n0_ n1_ n2_ n3_ n4_; (try clear hb); (try clear hb2); (try clear hk); (try clear hi)) | ((with_reducible refine gate_callee (f := 14) rfl ?_); refine goesL_ (some 62) rfl rfl Try.func14 (by kernel_rfl) rfl #[.pointer (some ⟨g, 0, none⟩), .int .i64 3] rfl (by (try simp only [List.map_toArray, List.map_cons, List.map_nil]); first | done | rfl | (simp only [List.length_drop, List.length_take]; rfl)) ?_; (with_reducible refine (storagebarterplay_Dice_Pick.calls g s0_0 t694 3 t695 t696 w0 _ ?side1 ?side2 A37.out).mono ?_); (case side1 => repeat (first | (with_reducible first | exact HI0.out | apply IsS86.alloc | apply IsS86.drewN | apply IsS86.drew | apply IsS86.set_1) | exact HI0.out)); (case side2 => repeat (first | (with_reducible first | exact HB.out | apply below_alloc | apply pw_below_drewN | apply below_drew1 | refine below_set ?_ (IsS86.ge HI0.out)) | exact HB.out)); rintro e w43 ⟨rfl, hi, hb, hk⟩; refine ⟨_, rfl, ?_⟩; have n0_ := Aside0.mk (Kd.R_mono (Kd.R_keep (IsS86.apart (show IsS86 w0 _ g s0_0 t694 from by repeat (first | (with_reducible first | exact HI0.out | apply IsS86.alloc | apply IsS86.drewN | apply IsS86.drew | apply IsS86.set_1) | exact HI0.out)) (by (with_reducible repeat (first | apply Kd.R_alloc | apply Kd.R_drewN | apply Kd.R_drew)); exact HO_4.out) (by decide)) hk (fun _ h => h.2)) (fun _ h => h.1)); have n1_ := Aside0.mk (Kd.R_mono (Kd.R_keep (IsS86.apart (show IsS86 w0 _ g s0_0 t694 from by repeat (first | (with_reducible first | exact HI0.out | apply IsS86.alloc | apply IsS86.drewN | apply IsS86.drew | apply IsS86.set_1) | exact HI0.out)) (by (with_reducible repeat (first | apply Kd.R_alloc | apply Kd.R_drewN | apply Kd.R_drew)); exact HO_8.out) (by decide)) hk (fun _ h => h.2)) (fun _ h => h.1)); have n2_ := Aside0.mk (KeepBut.trans (by repeat (first | (with_reducible first | exact HK.out | apply KeepBut.set_ | apply keep_drewN | apply keep_drew | apply keep_alloc) | exact HK.out)) hk (.inl rfl)); have n3_ := Aside0.mk (hb); have n4_ := Aside0.mk (hi); clear HO_4; clear HO_8; clear HK; clear HB; clear HI0; have HO_4 := n0_; have HO_8 := n1_; have HK := n2_; have HB := n3_; have HI0 := n4_; clear n0_ n1_ n2_ n3_ n4_; (try clear hb); (try clear hb2); (try clear hk); (try clear hi)) | ((with_reducible refine gate_callee (f := 59) rfl ?_); refine goesL_ (some 64) rfl rfl Try.func59 (by kernel_rfl) rfl #[.pointer (some ⟨g, 0, none⟩)] rfl (by (try simp only [List.map_toArray, List.map_cons, List.map_nil]); first | done | rfl | (simp only [List.length_drop, List.length_take]; rfl)) ?_; (with_reducible refine (storagebarterplay_Dice_Shard.calls g s0_0 t696 t697 t698 w0 _ ?side1 ?side2 A38.out).mono ?_); (case side1 => repeat (first | (with_reducible first | exact HI0.out | apply IsS86.alloc | apply IsS86.drewN | apply IsS86.drew | apply IsS86.set_1) | exact HI0.out)); (case side2 => repeat (first | (with_reducible first | exact HB.out | apply below_alloc | apply pw_below_drewN | apply below_drew1 | refine below_set ?_ (IsS86.ge HI0.out)) | exact HB.out)); rintro e w44 ⟨rfl, hi, hb, hk⟩; refine ⟨_, rfl, ?_⟩; have n0_ := Aside0.mk (Kd.R_mono (Kd.R_keep (IsS86.apart (show IsS86 w0 _ g s0_0 t696 from by repeat (first | (with_reducible first | exact HI0.out | apply IsS86.alloc | apply IsS86.drewN | apply IsS86.drew | apply IsS86.set_1) | exact HI0.out)) (by (with_reducible repeat (first | apply Kd.R_alloc | apply Kd.R_drewN | apply Kd.R_drew)); exact HO_4.out) (by decide)) hk (fun _ h => h.2)) (fun _ h => h.1)); have n1_ := Aside0.mk (Kd.R_mono (Kd.R_keep (IsS86.apart (show IsS86 w0 _ g s0_0 t696 from by repeat (first | (with_reducible first | exact HI0.out | apply IsS86.alloc | apply IsS86.drewN | apply IsS86.drew | apply IsS86.set_1) | exact HI0.out)) (by (with_reducible repeat (first | apply Kd.R_alloc | apply Kd.R_drewN | apply Kd.R_drew)); exact HO_8.out) (by decide)) hk (fun _ h => h.2)) (fun _ h => h.1)); have n2_ := Aside0.mk (KeepBut.trans (by repeat (first | (with_reducible first | exact HK.out | apply KeepBut.set_ | apply keep_drewN | apply keep_drew | apply keep_alloc) | exact HK.out)) hk (.inl rfl)); have n3_ := Aside0.mk (hb); have n4_ := Aside0.mk (hi); clear HO_4; clear HO_8; clear HK; clear HB; clear HI0; have HO_4 := n0_; have HO_8 := n1_; have HK := n2_; have HB := n3_; have HI0 := n4_; clear n0_ n1_ n2_ n3_ n4_; (try clear hb); (try clear hb2); (try clear hk); (try clear hi)) | ((with_reducible refine gate_builtin (b := .append) (xs := #[.tmp 52, .tmp 66]) rfl ?_); at_builtin; refine Kd.R_append k72 w.heap.size rfl (.tmp 52) (.tmp 66) 52 72 (.agg #[(.int .i64 0), (.int .i64 0), (.int .i64 0), (.int .i64 0), (.string ⟨#[]⟩)]) 48 rfl Try.underlying52 info72 rfl (by decide) (by omega) u8 x8_2 (⟨wrap64 (1 + t689), wrap64 (1 + t691), t693, t695, t697⟩ : S72) [.int .i64 (wrap64 (1 + t689)), .int .i64 (wrap64 (1 + t691)), .int .i64 t693, .int .i64 t695, .string t697] (fun _ => True) (fun _ => False) rfl rfl ?aP (fun _ hk => hk.elim) ?aF ?aO (Below.refl _ _) ?aS ?aL ?_; (case aP => exact k72_mkM _ _ _ (⟨wrap64 (1 + t689), wrap64 (1 + t691), t693, t695, t697⟩ : S72)); (case aF => exact (fun _ _ => trivial)); (case aO => exact (by (with_reducible repeat (first | apply Kd.R_alloc | apply Kd.R_drewN | apply Kd.R_drew)); exact HO_8.out)); (case aS => exact (keep_size (w := w) (g := g) (row := none) (by repeat (first | (with_reducible first | exact HK.out | apply KeepBut.set_ | apply keep_drewN | apply keep_drew | apply keep_alloc) | exact HK.out)))); (case aL => have := LMc39.out; omega); intro v700 w45 ho hb hg hat; rw [← Ny699.out] at ho; have n0_ := Aside0.mk (Kd.R_over' (by (with_reducible repeat (first | apply Kd.R_alloc | apply Kd.R_drewN | apply Kd.R_drew)); exact HO_4.out) (Kd.R_typed (by (with_reducible repeat (first | apply Kd.R_alloc | apply Kd.R_drewN | apply Kd.R_drew)); exact HO_8.out)) (by decide) hg); have n1_ := Aside0.mk (IsS86.grown (by repeat (first | (with_reducible first | exact HI0.out | apply IsS86.alloc | apply IsS86.drewN | apply IsS86.drew | apply IsS86.set_1) | exact HI0.out)) hg (IsS86.own_ne HI0.out HO_8.out (by decide))); have n2_ := Aside0.mk (below_weaken (by repeat (first | (with_reducible first | exact HB.out | apply below_alloc | apply pw_below_drewN | apply below_drew1 | refine below_set ?_ (IsS86.ge HI0.out)) | exact HB.out)) HL.out hb); have n3_ := Aside0.mk (KeepBut.trans (by repeat (first | (with_reducible first | exact HK.out | apply KeepBut.set_ | apply keep_drewN | apply keep_drew | apply keep_alloc) | exact HK.out)) (KeepBut.of_grown hg g) (Kd.R_base2 HO_8.out)); have n4_ := Aside0.mk (ho); clear HO_4; clear HI0; clear HB; clear HK; clear HO_8; have HO_4 := n0_; have HI0 := n1_; have HB := n2_; have HK := n3_; have HO701 := n4_; clear n0_ n1_ n2_ n3_ n4_; clear ho hb hg hat))
                go_roundg k2
                case measure => have := HK1.out; have := HK2.out; omega
                case rel => exact ⟨(y699), (wrap64 (x9_2 - 1)), (t698), (by first | rfl | (simp; done) | (simp [*]; done)), H', ⟨by have := HK1.out; have := HK2.out; omega⟩, ⟨by (with_reducible repeat (first | apply Kd.R_alloc | apply Kd.R_drewN | apply Kd.R_drew)); exact HO_4.out⟩, ⟨by (with_reducible repeat (first | apply Kd.R_alloc | apply Kd.R_drewN | apply Kd.R_drew)); exact HO701.out⟩, ⟨by repeat (first | (with_reducible first | exact HI0.out | apply IsS86.alloc | apply IsS86.drewN | apply IsS86.drew | apply IsS86.set_1) | exact HI0.out)⟩, ⟨by repeat (first | (with_reducible first | exact HK.out | apply KeepBut.set_ | apply keep_drewN | apply keep_drew | apply keep_alloc) | exact HK.out)⟩, ⟨by repeat (first | (with_reducible first | exact HB.out | apply below_alloc | apply pw_below_drewN | apply below_drew1 | refine below_set ?_ (IsS86.ge HI0.out)) | exact HB.out)⟩⟩
              · rw [if_neg c39] at H
                exact absurd H (by simp)
            · rw [if_neg c33] at H
              have c33b0 : decide (0 < x9_2) = false := decide_eq_false c33
              clear c33
              simp only [Option.some.injEq, Prod.mk.injEq] at H
              obtain ⟨rfl, rfl, rfl⟩ := H
              go_wp2
              go_ret2
              exact ⟨_, _, by first | rfl | (simp [errW_none, errW_some] <;> rfl) | (simp [*, errW_none, errW_some] <;> rfl), by (with_reducible repeat (first | apply Kd.R_alloc | apply Kd.R_drewN | apply Kd.R_drew)); exact HO_4.out, by (with_reducible repeat (first | apply Kd.R_alloc | apply Kd.R_drewN | apply Kd.R_drew)); exact HO_8.out, by repeat (first | (with_reducible first | exact HI0.out | apply IsS86.alloc | apply IsS86.drewN | apply IsS86.drew | apply IsS86.set_1) | exact HI0.out), by repeat (first | (with_reducible first | exact HB.out | apply below_alloc | apply pw_below_drewN | apply below_drew1 | refine below_set ?_ (IsS86.ge HI0.out)) | exact HB.out), by repeat (first | (with_reducible first | exact HK.out | apply KeepBut.set_ | apply keep_drewN | apply keep_drew | apply keep_alloc) | exact HK.out)⟩

end Go.Proofs.Ytlkgmfhgnfgmiaa.Q

namespace Go.Proofs.Ytlkgmfhgnfgmiaa.Q
open Go.RowKit Go.Proofs.YtlkgmfhgnfgmiaaW.PrintWords Go.Proofs.YtlkgmfhgnfgmiaaW.PrintLast Go.Proofs.YtlkgmfhgnfgmiaaW.PrintMore
attribute [local go_sem] max2_int min2_int max_two min_two max_three min_three max_four min_four   -- for this text's walks alone
set_option linter.unusedVariables false
set_option linter.unusedSimpArgs false

theorem eqA74 (d : Nat) (w : World) (x0 y0 : Int) (x1 y1 : Int) (x2 y2 : Int) :
    (Op.equalIn (d + 2) 74 (.agg #[.int .i64 x0, .int .i64 x1, .int .i64 x2]) (.agg #[.int .i64 y0, .int .i64 y1, .int .i64 y2])).run Try.prog w = .ok (x0 == y0 && (x1 == y1 && (x2 == y2))) w := by
  refine eqA_of Try.underlying74 (by kernel_rfl) ?_
  refine eqf_cons (by rfl) (by go_simp; rfl) (by go_simp; rfl) (by go_simp) ?_
  refine eqf_cons (by rfl) (by go_simp; rfl) (by go_simp; rfl) (by go_simp) ?_
  exact eqf_last (by rfl) (by go_simp; rfl) (by go_simp; rfl) (by go_simp)
end Go.Proofs.Ytlkgmfhgnfgmiaa.Q

namespace Go.Proofs.Ytlkgmfhgnfgmiaa.Q
open Go.RowKit Go.Proofs.YtlkgmfhgnfgmiaaW.PrintWords Go.Proofs.YtlkgmfhgnfgmiaaW.PrintLast Go.Proofs.YtlkgmfhgnfgmiaaW.PrintMore
attribute [local go_sem] max2_int min2_int max_two min_two max_three min_three max_four min_four   -- for this text's walks alone
set_option linter.unusedVariables false
set_option linter.unusedSimpArgs false

attribute [local go_sem high] eqA74
/-! ### storagebarterref35_SamePlaces: function 19 -/
def storagebarterref35_SamePlaces.l0 : Nat → List (S74) → List (S74) → Int → Option (Bool)
  | 0, _, _, _ => none
  | k + 1, x0, x1, x5 => if x5 < (x0.length : Int) then (if 0 ≤ x5 then (if x5 < (x1.length : Int) then (if (!(((rd_T74 x0 x5).f0) == ((rd_T74 x1 x5).f0)) || (!(((rd_T74 x0 x5).f1) == ((rd_T74 x1 x5).f1)) || (!(((rd_T74 x0 x5).f2) == ((rd_T74 x1 x5).f2))))) = true then (some false) else (storagebarterref35_SamePlaces.l0 k x0 x1 (wrap64 (x5 + 1)))) else (none)) else (none)) else (some true)
def storagebarterref35_SamePlaces.f (k : Nat) (l0 : List (S74)) (l1 : List (S74)) : Option (Bool) := if (l0.length : Int) = (l1.length : Int) then (storagebarterref35_SamePlaces.l0 k l0 l1 0) else (some false)
theorem storagebarterref35_SamePlaces.mono_l : ∀ k, (∀ y0 y1 y2, LeO (storagebarterref35_SamePlaces.l0 k y0 y1 y2) (storagebarterref35_SamePlaces.l0 (k + 1) y0 y1 y2))
  | 0 => fun _ _ _ r h => by simp [storagebarterref35_SamePlaces.l0] at h
  | k + 1 => by
    have ih0 := storagebarterref35_SamePlaces.mono_l k
    · intro y0 y1 y2
      unfold storagebarterref35_SamePlaces.l0
      repeat' first
      | (with_reducible exact ih0 _ _ _)
      | (with_reducible exact LeO.refl _)
      | (with_reducible exact LeO.none _)
      | (with_reducible refine LeO.ite ?_ ?_)
      | (with_reducible refine LeO.bind ?_ (fun _ => ?_))
      | exact ih0 _ _ _
      | exact LeO.none _
      | refine LeO.ite ?_ ?_
      | refine LeO.bind ?_ (fun _ => ?_)
theorem storagebarterref35_SamePlaces.mono : ∀ a0 a1 k, LeO (storagebarterref35_SamePlaces.f k a0 a1) (storagebarterref35_SamePlaces.f (k + 1) a0 a1) := by
  intro a0 a1 k
  have ih0 := storagebarterref35_SamePlaces.mono_l k
  unfold storagebarterref35_SamePlaces.f
  repeat' first
      | (with_reducible exact ih0 _ _ _)
      | (with_reducible exact LeO.refl _)
      | (with_reducible exact LeO.none _)
      | (with_reducible refine LeO.ite ?_ ?_)
      | (with_reducible refine LeO.bind ?_ (fun _ => ?_))
      | exact ih0 _ _ _
      | exact LeO.none _
      | refine LeO.ite ?_ ?_
      | refine LeO.bind ?_ (fun _ => ?_)
set_option maxHeartbeats 8000000 in
set_option maxRecDepth 100000 in
theorem storagebarterref35_SamePlaces.calls (k : Nat) (A0 : Option Addr) (c0 : Nat) (l0 : List (S74)) (A1 : Option Addr) (c1 : Nat) (l1 : List (S74)) (r : Bool) (w : World) (hr0 : Kd.C k74 w A0 l0.length l0) (hc0 : l0.length ≤ c0) (hr1 : Kd.C k74 w A1 l1.length l1) (hc1 : l1.length ≤ c1) (h : storagebarterref35_SamePlaces.f k l0 l1 = some r) :
    Calls Try.prog 19 #[.slice A0 l0.length c0, .slice A1 l1.length c1] w fun e w' => e = .returned (.bool r) ∧ Drawn0 w w' := by
  have hu74 := Try.underlying74
  have HR0 := Aside0.mk hr0
  have HC0 := Aside0.mk hc0
  clear hr0 hc0
  have HR1 := Aside0.mk hr1
  have HC1 := Aside0.mk hc1
  clear hr1 hc1
  have H : (if (l0.length : Int) = (l1.length : Int) then (storagebarterref35_SamePlaces.l0 k l0 l1 0) else (some false)) = some r := h
  clear h
  by_cases c3 : (l0.length : Int) = (l1.length : Int)
  · rw [if_pos c3] at H
    have c3b0 : ((l0.length : Int) == (l1.length : Int)) = true := beq_iff_eq.mpr c3
    have c3b1 : ((l0.length : Int) != (l1.length : Int)) = false := bne_eq_false_iff_eq.mpr c3
    have c3b2 : (l0.length == l1.length) = true := by first | simpa using c3 | (simp at c3 ⊢; omega)
    clear c3
    have H' := Aside0.mk H
    clear H
    go_enter Try.func19, Try.ntmps19
    go_wp2
    repeat (go_quiet (fail); try go_wp2)
    go_loopg [5] k (fun kq v5 w' => ∃ (x5_1 : Int), v5 = .int .i64 x5_1 ∧ Aside0 (storagebarterref35_SamePlaces.l0 kq l0 l1 x5_1 = some r) ∧ Aside0 (kq ≤ k) ∧ Drawn0 w w')
    case atStart => exact ⟨(0), (by first | rfl | (simp; done) | (simp [*]; done)), H', ⟨Nat.le_refl _⟩, by repeat (first | exact Drawn0.refl _ | apply Drawn0.step)⟩
    case round =>
      clear H'
      try clear c1
      try clear p2
      try clear c3
      try clear c3b0
      try clear c3b1
      try clear c3b2
      obtain ⟨x5_1, rfl, HA, HK1, ⟨m1, rfl⟩⟩ := hrel
      cases gk with
      | zero => exact absurd HA.out (by simp [storagebarterref35_SamePlaces.l0])
      | succ k1 =>
        have H := HA.out
        clear HA
        simp only [storagebarterref35_SamePlaces.l0] at H
        by_cases c4 : x5_1 < (l0.length : Int)
        · rw [if_pos c4] at H
          have c4b0 : decide (x5_1 < (l0.length : Int)) = true := decide_eq_true c4
          clear c4
          by_cases c5 : 0 ≤ x5_1
          · rw [if_pos c5] at H
            have c5b0 : decide (0 ≤ x5_1) = true := decide_eq_true c5
            clear c5
            by_cases c6 : x5_1 < (l1.length : Int)
            · rw [if_pos c6] at H
              have c6b0 : decide (x5_1 < (l1.length : Int)) = true := decide_eq_true c6
              clear c6
              by_cases c7 : (!(((rd_T74 l0 x5_1).f0) == ((rd_T74 l1 x5_1).f0)) || (!(((rd_T74 l0 x5_1).f1) == ((rd_T74 l1 x5_1).f1)) || (!(((rd_T74 l0 x5_1).f2) == ((rd_T74 l1 x5_1).f2))))) = true
              · rw [if_pos c7] at H
                have c7b0 : (!(((rd_T74 l0 x5_1).f0) == ((rd_T74 l1 x5_1).f0)) || (!(((rd_T74 l0 x5_1).f1) == ((rd_T74 l1 x5_1).f1)) || (!(((rd_T74 l0 x5_1).f2) == ((rd_T74 l1 x5_1).f2))))) = true := c7
                clear c7
                obtain rfl := Option.some.inj H
                have p442 : 0 ≤ (x5_1 : Int) := of_decide_eq_true (by first | (with_reducible assumption) | assumption)
                have q442 : x5_1 < (l0.length : Int) := of_decide_eq_true (by first | (with_reducible assumption) | assumption)
                obtain ⟨ad442, e442, hx442_0, hx442_1, hx442_2⟩ := at_T74 HR0.out x5_1 p442 q442
                cases e442
                replace p442 := eq_true p442
                replace q442 := eq_true q442
                have p443 : 0 ≤ (x5_1 : Int) := of_decide_eq_true (by first | (with_reducible assumption) | assumption)
                have q443 : x5_1 < (l1.length : Int) := of_decide_eq_true (by first | (with_reducible assumption) | assumption)
                obtain ⟨ad443, e443, hx443_0, hx443_1, hx443_2⟩ := at_T74 HR1.out x5_1 p443 q443
                cases e443
                replace p443 := eq_true p443
                replace q443 := eq_true q443
                go_wp2
                repeat (go_quiet (fail); try go_wp2)
                go_ret
                exact ⟨by first | rfl | (simp; done) | (simp [*]; done), by repeat (first | exact Drawn0.refl _ | apply Drawn0.step)⟩
              · rw [if_neg c7] at H
                have c7b0 : (!(((rd_T74 l0 x5_1).f0) == ((rd_T74 l1 x5_1).f0)) || (!(((rd_T74 l0 x5_1).f1) == ((rd_T74 l1 x5_1).f1)) || (!(((rd_T74 l0 x5_1).f2) == ((rd_T74 l1 x5_1).f2))))) = false := by simpa using c7
                clear c7
                have H' := Aside0.mk H
                clear H
                have p442 : 0 ≤ (x5_1 : Int) := of_decide_eq_true (by first | (with_reducible assumption) | assumption)
                have q442 : x5_1 < (l0.length : Int) := of_decide_eq_true (by first | (with_reducible assumption) | assumption)
                obtain ⟨ad442, e442, hx442_0, hx442_1, hx442_2⟩ := at_T74 HR0.out x5_1 p442 q442
                cases e442
                replace p442 := eq_true p442
                replace q442 := eq_true q442
                have p443 : 0 ≤ (x5_1 : Int) := of_decide_eq_true (by first | (with_reducible assumption) | assumption)
                have q443 : x5_1 < (l1.length : Int) := of_decide_eq_true (by first | (with_reducible assumption) | assumption)
                obtain ⟨ad443, e443, hx443_0, hx443_1, hx443_2⟩ := at_T74 HR1.out x5_1 p443 q443
                cases e443
                replace p443 := eq_true p443
                replace q443 := eq_true q443
                go_wp2
                repeat (go_quiet (fail); try go_wp2)
                go_roundg k1
                case measure => have := HK1.out; omega
                case rel => exact ⟨(wrap64 (x5_1 + 1)), (by first | rfl | (simp; done) | (simp [*]; done)), H', ⟨by have := HK1.out; omega⟩, by repeat (first | exact Drawn0.refl _ | apply Drawn0.step)⟩
            · rw [if_neg c6] at H
              exact absurd H (by simp)
          · rw [if_neg c5] at H
            exact absurd H (by simp)
        · rw [if_neg c4] at H
          have c4b0 : decide (x5_1 < (l0.length : Int)) = false := decide_eq_false c4
          clear c4
          obtain rfl := Option.some.inj H
          go_wp2
          repeat (go_quiet (fail); try go_wp2)
          go_ret
          exact ⟨by first | rfl | (simp; done) | (simp [*]; done), by repeat (first | exact Drawn0.refl _ | apply Drawn0.step)⟩
  · rw [if_neg c3] at H
    have c3b0 : ((l0.length : Int) == (l1.length : Int)) = false := beq_eq_false_iff_ne.mpr c3
    have c3b1 : ((l0.length : Int) != (l1.length : Int)) = true := bne_iff_ne.mpr c3
    have c3b2 : (l0.length == l1.length) = false := by first | simpa using c3 | (simp at c3 ⊢; omega)
    obtain rfl := Option.some.inj H
    go_enter Try.func19, Try.ntmps19
    go_wp2
    repeat (go_quiet (fail); try go_wp2)
    go_ret
    exact ⟨by first | rfl | (simp; done) | (simp [*]; done), by repeat (first | exact Drawn0.refl _ | apply Drawn0.step)⟩

end Go.Proofs.Ytlkgmfhgnfgmiaa.Q

namespace Go.Proofs.Ytlkgmfhgnfgmiaa.Q
open Go.RowKit Go.Proofs.YtlkgmfhgnfgmiaaW.PrintWords Go.Proofs.YtlkgmfhgnfgmiaaW.PrintLast Go.Proofs.YtlkgmfhgnfgmiaaW.PrintMore
attribute [local go_sem] max2_int min2_int max_two min_two max_three min_three max_four min_four   -- for this text's walks alone
set_option linter.unusedVariables false
set_option linter.unusedSimpArgs false

theorem eqA46 (d : Nat) (w : World) (x0 y0 : Int) (x1 y1 : Int) :
    (Op.equalIn (d + 2) 46 (.agg #[.int .i64 x0, .int .i64 x1]) (.agg #[.int .i64 y0, .int .i64 y1])).run Try.prog w = .ok (x0 == y0 && (x1 == y1)) w := by
  refine eqA_of Try.underlying46 (by kernel_rfl) ?_
  refine eqf_cons (by rfl) (by go_simp; rfl) (by go_simp; rfl) (by go_simp) ?_
  exact eqf_last (by rfl) (by go_simp; rfl) (by go_simp; rfl) (by go_simp)
end Go.Proofs.Ytlkgmfhgnfgmiaa.Q

namespace Go.Proofs.Ytlkgmfhgnfgmiaa.Q
open Go.RowKit Go.Proofs.YtlkgmfhgnfgmiaaW.PrintWords Go.Proofs.YtlkgmfhgnfgmiaaW.PrintLast Go.Proofs.YtlkgmfhgnfgmiaaW.PrintMore
attribute [local go_sem] max2_int min2_int max_two min_two max_three min_three max_four min_four   -- for this text's walks alone
set_option linter.unusedVariables false
set_option linter.unusedSimpArgs false

/-! ### storagebarterref01_Same: function 108 -/
def storagebarterref01_Same.l0 : Nat → List Int → List Int → Int → Int → Option (Bool)
  | 0, _, _, _, _ => none
  | k + 1, x0, x1, x12, x13 => if x13 < x12 then (if 0 ≤ x13 then (if x13 < (x0.length : Int) then (if x13 < (x1.length : Int) then (if (rd x0 x13) = (rd x1 x13) then (storagebarterref01_Same.l0 k x0 x1 x12 (wrap64 (x13 + 1))) else (some false)) else (none)) else (none)) else (none)) else (some true)
def storagebarterref01_Same.f (k : Nat) (l0 : List Int) (l1 : List Int) : Option (Bool) := if (l0.length : Int) = (l1.length : Int) then (storagebarterref01_Same.l0 k l0 l1 (l0.length : Int) 0) else (some false)
theorem storagebarterref01_Same.mono_l : ∀ k, (∀ y0 y1 y2 y3, LeO (storagebarterref01_Same.l0 k y0 y1 y2 y3) (storagebarterref01_Same.l0 (k + 1) y0 y1 y2 y3))
  | 0 => fun _ _ _ _ r h => by simp [storagebarterref01_Same.l0] at h
  | k + 1 => by
    have ih0 := storagebarterref01_Same.mono_l k
    · intro y0 y1 y2 y3
      unfold storagebarterref01_Same.l0
      repeat' first
      | (with_reducible exact ih0 _ _ _ _)
      | (with_reducible exact LeO.refl _)
      | (with_reducible exact LeO.none _)
      | (with_reducible refine LeO.ite ?_ ?_)
      | (with_reducible refine LeO.bind ?_ (fun _ => ?_))
      | exact ih0 _ _ _ _
      | exact LeO.none _
      | refine LeO.ite ?_ ?_
      | refine LeO.bind ?_ (fun _ => ?_)
theorem storagebarterref01_Same.mono : ∀ a0 a1 k, LeO (storagebarterref01_Same.f k a0 a1) (storagebarterref01_Same.f (k + 1) a0 a1) := by
  intro a0 a1 k
  have ih0 := storagebarterref01_Same.mono_l k
  unfold storagebarterref01_Same.f
  repeat' first
      | (with_reducible exact ih0 _ _ _ _)
      | (with_reducible exact LeO.refl _)
      | (with_reducible exact LeO.none _)
      | (with_reducible refine LeO.ite ?_ ?_)
      | (with_reducible refine LeO.bind ?_ (fun _ => ?_))
      | exact ih0 _ _ _ _
      | exact LeO.none _
      | refine LeO.ite ?_ ?_
      | refine LeO.bind ?_ (fun _ => ?_)
set_option maxHeartbeats 8000000 in
set_option maxRecDepth 100000 in
theorem storagebarterref01_Same.calls (k : Nat) (A0 : Option Addr) (c0 : Nat) (l0 : List Int) (A1 : Option Addr) (c1 : Nat) (l1 : List Int) (r : Bool) (w : World) (hr0 : Kd.C (Kd.int .i64) w A0 l0.length l0) (hc0 : l0.length ≤ c0) (hr1 : Kd.C (Kd.int .i64) w A1 l1.length l1) (hc1 : l1.length ≤ c1) (h : storagebarterref01_Same.f k l0 l1 = some r) :
    Calls Try.prog 108 #[.slice A0 l0.length c0, .slice A1 l1.length c1] w fun e w' => e = .returned (.bool r) ∧ Drawn0 w w' := by
  have HR0 := Aside0.mk hr0
  have HC0 := Aside0.mk hc0
  clear hr0 hc0
  have HR1 := Aside0.mk hr1
  have HC1 := Aside0.mk hc1
  clear hr1 hc1
  have H : (if (l0.length : Int) = (l1.length : Int) then (storagebarterref01_Same.l0 k l0 l1 (l0.length : Int) 0) else (some false)) = some r := h
  clear h
  by_cases c3 : (l0.length : Int) = (l1.length : Int)
  · rw [if_pos c3] at H
    have c3b0 : ((l0.length : Int) == (l1.length : Int)) = true := beq_iff_eq.mpr c3
    have c3b1 : ((l0.length : Int) != (l1.length : Int)) = false := bne_eq_false_iff_eq.mpr c3
    have c3b2 : (l0.length == l1.length) = true := by first | simpa using c3 | (simp at c3 ⊢; omega)
    clear c3
    have H' := Aside0.mk H
    clear H
    go_enter Try.func108, Try.ntmps108
    go_wp2
    repeat (go_quiet (fail); try go_wp2)
    go_loopg [13] k (fun kq v13 w' => ∃ (x13_1 : Int), v13 = .int .i64 x13_1 ∧ Aside0 (storagebarterref01_Same.l0 kq l0 l1 (l0.length : Int) x13_1 = some r) ∧ Aside0 (kq ≤ k) ∧ Drawn0 w w')
    case atStart => exact ⟨(0), (by first | rfl | (simp; done) | (simp [*]; done)), H', ⟨Nat.le_refl _⟩, by repeat (first | exact Drawn0.refl _ | apply Drawn0.step)⟩
    case round =>
      clear H'
      try clear c1
      try clear p2
      try clear c3
      try clear c3b0
      try clear c3b1
      try clear c3b2
      obtain ⟨x13_1, rfl, HA, HK1, ⟨m1, rfl⟩⟩ := hrel
      cases gk with
      | zero => exact absurd HA.out (by simp [storagebarterref01_Same.l0])
      | succ k1 =>
        have H := HA.out
        clear HA
        simp only [storagebarterref01_Same.l0] at H
        by_cases c4 : x13_1 < (l0.length : Int)
        · rw [if_pos c4] at H
          have c4b0 : decide (x13_1 < (l0.length : Int)) = true := decide_eq_true c4
          clear c4
          by_cases c5 : 0 ≤ x13_1
          · rw [if_pos c5] at H
            have c5b0 : decide (0 ≤ x13_1) = true := decide_eq_true c5
            clear c5
            by_cases c6 : x13_1 < (l0.length : Int)
            · rw [if_pos c6] at H
              have c6b0 : decide (x13_1 < (l0.length : Int)) = true := decide_eq_true c6
              clear c6
              by_cases c7 : x13_1 < (l1.length : Int)
              · rw [if_pos c7] at H
                have c7b0 : decide (x13_1 < (l1.length : Int)) = true := decide_eq_true c7
                clear c7
                by_cases c8 : (rd l0 x13_1) = (rd l1 x13_1)
                · rw [if_pos c8] at H
                  have c8b0 : ((rd l0 x13_1) == (rd l1 x13_1)) = true := beq_iff_eq.mpr c8
                  have c8b1 : ((rd l0 x13_1) != (rd l1 x13_1)) = false := bne_eq_false_iff_eq.mpr c8
                  clear c8
                  have H' := Aside0.mk H
                  clear H
                  have p746 : 0 ≤ (x13_1 : Int) := of_decide_eq_true (by first | (with_reducible assumption) | assumption)
                  have q746 : x13_1 < (l0.length : Int) := of_decide_eq_true (by first | (with_reducible assumption) | assumption)
                  obtain ⟨ad746, e746, hx746_0⟩ := Kd.at_int HR0.out x13_1 p746 q746
                  cases e746
                  replace p746 := eq_true p746
                  replace q746 := eq_true q746
                  have p747 : 0 ≤ (x13_1 : Int) := of_decide_eq_true (by first | (with_reducible assumption) | assumption)
                  have q747 : x13_1 < (l1.length : Int) := of_decide_eq_true (by first | (with_reducible assumption) | assumption)
                  obtain ⟨ad747, e747, hx747_0⟩ := Kd.at_int HR1.out x13_1 p747 q747
                  cases e747
                  replace p747 := eq_true p747
                  replace q747 := eq_true q747
                  go_wp2
                  repeat (go_quiet (fail); try go_wp2)
                  go_roundg k1
                  case measure => have := HK1.out; omega
                  case rel => exact ⟨(wrap64 (x13_1 + 1)), (by first | rfl | (simp; done) | (simp [*]; done)), H', ⟨by have := HK1.out; omega⟩, by repeat (first | exact Drawn0.refl _ | apply Drawn0.step)⟩
                · rw [if_neg c8] at H
                  have c8b0 : ((rd l0 x13_1) == (rd l1 x13_1)) = false := beq_eq_false_iff_ne.mpr c8
                  have c8b1 : ((rd l0 x13_1) != (rd l1 x13_1)) = true := bne_iff_ne.mpr c8
                  obtain rfl := Option.some.inj H
                  have p746 : 0 ≤ (x13_1 : Int) := of_decide_eq_true (by first | (with_reducible assumption) | assumption)
                  have q746 : x13_1 < (l0.length : Int) := of_decide_eq_true (by first | (with_reducible assumption) | assumption)
                  obtain ⟨ad746, e746, hx746_0⟩ := Kd.at_int HR0.out x13_1 p746 q746
                  cases e746
                  replace p746 := eq_true p746
                  replace q746 := eq_true q746
                  have p747 : 0 ≤ (x13_1 : Int) := of_decide_eq_true (by first | (with_reducible assumption) | assumption)
                  have q747 : x13_1 < (l1.length : Int) := of_decide_eq_true (by first | (with_reducible assumption) | assumption)
                  obtain ⟨ad747, e747, hx747_0⟩ := Kd.at_int HR1.out x13_1 p747 q747
                  cases e747
                  replace p747 := eq_true p747
                  replace q747 := eq_true q747
                  go_wp2
                  repeat (go_quiet (fail); try go_wp2)
                  go_ret
                  exact ⟨by first | rfl | (simp; done) | (simp [*]; done), by repeat (first | exact Drawn0.refl _ | apply Drawn0.step)⟩
              · rw [if_neg c7] at H
                exact absurd H (by simp)
            · rw [if_neg c6] at H
              exact absurd H (by simp)
          · rw [if_neg c5] at H
            exact absurd H (by simp)
        · rw [if_neg c4] at H
          have c4b0 : decide (x13_1 < (l0.length : Int)) = false := decide_eq_false c4
          clear c4
          obtain rfl := Option.some.inj H
          go_wp2
          repeat (go_quiet (fail); try go_wp2)
          go_ret
          exact ⟨by first | rfl | (simp; done) | (simp [*]; done), by repeat (first | exact Drawn0.refl _ | apply Drawn0.step)⟩
  · rw [if_neg c3] at H
    have c3b0 : ((l0.length : Int) == (l1.length : Int)) = false := beq_eq_false_iff_ne.mpr c3
    have c3b1 : ((l0.length : Int) != (l1.length : Int)) = true := bne_iff_ne.mpr c3
    have c3b2 : (l0.length == l1.length) = false := by first | simpa using c3 | (simp at c3 ⊢; omega)
    obtain rfl := Option.some.inj H
    go_enter Try.func108, Try.ntmps108
    go_wp2
    repeat (go_quiet (fail); try go_wp2)
    go_ret
    exact ⟨by first | rfl | (simp; done) | (simp [*]; done), by repeat (first | exact Drawn0.refl _ | apply Drawn0.step)⟩

end Go.Proofs.Ytlkgmfhgnfgmiaa.Q

namespace Go.Proofs.Ytlkgmfhgnfgmiaa.Q
open Go.RowKit Go.Proofs.YtlkgmfhgnfgmiaaW.PrintWords Go.Proofs.YtlkgmfhgnfgmiaaW.PrintLast Go.Proofs.YtlkgmfhgnfgmiaaW.PrintMore
attribute [local go_sem] max2_int min2_int max_two min_two max_three min_three max_four min_four   -- for this text's walks alone
set_option linter.unusedVariables false
set_option linter.unusedSimpArgs false

attribute [local go_sem high] eqA46
/-! ### storagebarterref13_Same: function 88 -/
def storagebarterref13_Same.f (k : Nat) (a0_0 : Int) (a0_1 : Int) (a0_2 : Int) (l0_3 : List Int) (a1_0 : Int) (a1_1 : Int) (a1_2 : Int) (l1_3 : List Int) : Option (Bool) := if (a0_0 == a1_0 && (a0_1 == a1_1)) = true then (if a0_2 = a1_2 then ((storagebarterref01_Same.f k l0_3 l1_3).bind fun t750 => (some t750)) else (some false)) else (some false)
theorem storagebarterref13_Same.mono : ∀ a0 a1 a2 a3 a4 a5 a6 a7 k, LeO (storagebarterref13_Same.f k a0 a1 a2 a3 a4 a5 a6 a7) (storagebarterref13_Same.f (k + 1) a0 a1 a2 a3 a4 a5 a6 a7) := by
  intro a0 a1 a2 a3 a4 a5 a6 a7 k
  unfold storagebarterref13_Same.f
  repeat' first
      | (with_reducible exact storagebarterref01_Same.mono _ _ _)
      | (with_reducible exact LeO.refl _)
      | (with_reducible exact LeO.none _)
      | (with_reducible refine LeO.ite ?_ ?_)
      | (with_reducible refine LeO.bind ?_ (fun _ => ?_))
      | exact storagebarterref01_Same.mono _ _ _
      | exact LeO.none _
      | refine LeO.ite ?_ ?_
      | refine LeO.bind ?_ (fun _ => ?_)
set_option maxHeartbeats 8000000 in
set_option maxRecDepth 100000 in
theorem storagebarterref13_Same.calls (k : Nat) (a0_0 : Int) (a0_1 : Int) (a0_2 : Int) (A0_3 : Option Addr) (c0_3 : Nat) (l0_3 : List Int) (a1_0 : Int) (a1_1 : Int) (a1_2 : Int) (A1_3 : Option Addr) (c1_3 : Nat) (l1_3 : List Int) (r : Bool) (w : World) (hr0_3 : Kd.C (Kd.int .i64) w A0_3 l0_3.length l0_3) (hc0_3 : l0_3.length ≤ c0_3) (hr1_3 : Kd.C (Kd.int .i64) w A1_3 l1_3.length l1_3) (hc1_3 : l1_3.length ≤ c1_3) (h : storagebarterref13_Same.f k a0_0 a0_1 a0_2 l0_3 a1_0 a1_1 a1_2 l1_3 = some r) :
    Calls Try.prog 88 #[.agg #[.int .i64 a0_0, .int .i64 a0_1, .int .i64 a0_2, .slice A0_3 l0_3.length c0_3], .agg #[.int .i64 a1_0, .int .i64 a1_1, .int .i64 a1_2, .slice A1_3 l1_3.length c1_3]] w fun e w' => e = .returned (.bool r) ∧ Below w.heap.size w w' := by
  have hu48 := Try.underlying48
  have hu46 := Try.underlying46
  have HR0_3 := Aside0.mk hr0_3
  have HC0_3 := Aside0.mk hc0_3
  clear hr0_3 hc0_3
  have HR1_3 := Aside0.mk hr1_3
  have HC1_3 := Aside0.mk hc1_3
  clear hr1_3 hc1_3
  have HB := Aside0.mk (Below.refl w.heap.size w)
  have H : (if (a0_0 == a1_0 && (a0_1 == a1_1)) = true then (if a0_2 = a1_2 then ((storagebarterref01_Same.f k l0_3 l1_3).bind fun t750 => (some t750)) else (some false)) else (some false)) = some r := h
  clear h
  by_cases c3 : (a0_0 == a1_0 && (a0_1 == a1_1)) = true
  · rw [if_pos c3] at H
    have c3b0 : (a0_0 == a1_0 && (a0_1 == a1_1)) = true := c3
    (try (have c3b1 : decide (a0_0 = a1_0 && (a0_1 == a1_1)) = true := by simpa using c3))
    (try (have c3b2 : (a0_0 == a1_0 && (a0_1 == a1_1)) = true := by simpa using c3))
    clear c3
    by_cases c4 : a0_2 = a1_2
    · rw [if_pos c4] at H
      have c4b0 : (a0_2 == a1_2) = true := beq_iff_eq.mpr c4
      have c4b1 : (a0_2 != a1_2) = false := bne_eq_false_iff_eq.mpr c4
      clear c4
      replace H := Option.bind_eq_some_iff.mp H
      obtain ⟨t750, A50, H⟩ := H
      replace H : (some t750) = some r := H
      have A5 := Aside0.mk A50
      clear A50
      obtain rfl := Option.some.inj H
      go_enter Try.func88, Try.ntmps88
      go_wp2_with (first | ((with_reducible refine gate_dst (N := 2) rfl ?_); refine box_event ?hg (N := 2) ?hd (cs := #[.int .i64 a0_0, .int .i64 a0_1, .int .i64 a0_2, .slice A0_3 l0_3.length c0_3]) (t := 48) ?hr ?_; (case hd => rfl); (case hg => rfl); (case hr => first | (go_simp; done) | (go_simp; rfl)); intro gb748 hg w6 hbox hb; have n0_ := Aside0.mk (below_step (by repeat (first | (with_reducible first | exact HB.out | apply below_alloc | apply pw_below_drewN | apply below_drew1) | exact HB.out)) hb); have n1_ := Aside0.mk (hbox); have n2_ := Aside0.mk ((by rw [hg]; exact (below_size (by repeat (first | (with_reducible first | exact HB.out | apply below_alloc | apply pw_below_drewN | apply below_drew1) | exact HB.out))) : w.heap.size ≤ gb748)); have n3_ := Aside0.mk ((by rw [hg]; exact (below_size (by repeat (first | (with_reducible first | exact HB.out | apply below_alloc | apply pw_below_drewN | apply below_drew1) | exact HB.out))) : w.heap.size ≤ gb748)); clear HB; have HB := n0_; have BK748 := n1_; have GW748 := n2_; have GE748 := n3_; clear n0_ n1_ n2_ n3_; clear hb hbox hg) | ((with_reducible refine gate_dst (N := 3) rfl ?_); refine box_event ?hg (N := 3) ?hd (cs := #[.int .i64 a1_0, .int .i64 a1_1, .int .i64 a1_2, .slice A1_3 l1_3.length c1_3]) (t := 48) ?hr ?_; (case hd => rfl); (case hg => rfl); (case hr => first | (go_simp; done) | (go_simp; rfl)); intro gb749 hg w7 hbox hb; have n0_ := Aside0.mk (blk_below (g := gb748) (o := .cells #[.int .i64 a0_0, .int .i64 a0_1, .int .i64 a0_2, .slice A0_3 l0_3.length c0_3] 48 (0, 0)) (by (with_reducible repeat (first | refine blk_drewN ?_ _ | refine blk_drew ?_ | refine blk_alloc ?_ _)); exact BK748.out) hb); have n1_ := Aside0.mk (below_step (by repeat (first | (with_reducible first | exact HB.out | apply below_alloc | apply pw_below_drewN | apply below_drew1 | refine below_set ?_ GE748.out) | exact HB.out)) hb); have n2_ := Aside0.mk (hbox); have n3_ := Aside0.mk ((by rw [hg]; exact (below_size (by repeat (first | (with_reducible first | exact HB.out | apply below_alloc | apply pw_below_drewN | apply below_drew1 | refine below_set ?_ GE748.out) | exact HB.out))) : w.heap.size ≤ gb749)); have n4_ := Aside0.mk ((by rw [hg]; exact (below_size (by repeat (first | (with_reducible first | exact HB.out | apply below_alloc | apply pw_below_drewN | apply below_drew1 | refine below_set ?_ GE748.out) | exact HB.out))) : w.heap.size ≤ gb749)); have n5_ := Aside0.mk ((by rw [hg]; exact Nat.ne_of_lt (blk_lt (g := gb748) (o := .cells #[.int .i64 a0_0, .int .i64 a0_1, .int .i64 a0_2, .slice A0_3 l0_3.length c0_3] 48 (0, 0)) (by (with_reducible repeat (first | refine blk_drewN ?_ _ | refine blk_drew ?_ | refine blk_alloc ?_ _)); exact BK748.out)) : gb748 ≠ gb749)); have n6_ := Aside0.mk ((by rw [hg]; exact Nat.ne_of_gt (blk_lt (g := gb748) (o := .cells #[.int .i64 a0_0, .int .i64 a0_1, .int .i64 a0_2, .slice A0_3 l0_3.length c0_3] 48 (0, 0)) (by (with_reducible repeat (first | refine blk_drewN ?_ _ | refine blk_drew ?_ | refine blk_alloc ?_ _)); exact BK748.out)) : gb749 ≠ gb748)); clear BK748; clear HB; have BK748 := n0_; have HB := n1_; have BK749 := n2_; have GW749 := n3_; have GE749 := n4_; have NB748_749 := n5_; have NB749_748 := n6_; clear n0_ n1_ n2_ n3_ n4_ n5_ n6_; clear hb hbox hg; have hnb8 := NB748_749.out; have hnc8 := NB749_748.out; have hcz9_0 : w7.cell? ⟨gb748, 0, none⟩ = some (.int .i64 a0_0) := (blk_cell BK748.out 0).trans rfl; have hcz9_1 : w7.cell? ⟨gb748, 1, none⟩ = some (.int .i64 a0_1) := (blk_cell BK748.out 1).trans rfl; have hcz9_2 : w7.cell? ⟨gb748, 2, none⟩ = some (.int .i64 a0_2) := (blk_cell BK748.out 2).trans rfl; have hcz9_3 : w7.cell? ⟨gb748, 3, none⟩ = some (.slice A0_3 l0_3.length c0_3) := (blk_cell BK748.out 3).trans rfl; have hfz9_0 := blk_frozen BK748.out 0; have hfz9_1 := blk_frozen BK748.out 1; have hfz9_2 := blk_frozen BK748.out 2; have hfz9_3 := blk_frozen BK748.out 3; have hcz10_0 : w7.cell? ⟨gb749, 0, none⟩ = some (.int .i64 a1_0) := (blk_cell BK749.out 0).trans rfl; have hcz10_1 : w7.cell? ⟨gb749, 1, none⟩ = some (.int .i64 a1_1) := (blk_cell BK749.out 1).trans rfl; have hcz10_2 : w7.cell? ⟨gb749, 2, none⟩ = some (.int .i64 a1_2) := (blk_cell BK749.out 2).trans rfl; have hcz10_3 : w7.cell? ⟨gb749, 3, none⟩ = some (.slice A1_3 l1_3.length c1_3) := (blk_cell BK749.out 3).trans rfl; have hfz10_0 := blk_frozen BK749.out 0; have hfz10_1 := blk_frozen BK749.out 1; have hfz10_2 := blk_frozen BK749.out 2; have hfz10_3 := blk_frozen BK749.out 3) | (go_at_call 108; (with_reducible refine (storagebarterref01_Same.calls k _ _ l0_3 _ _ l1_3 t750 _ ?side1 ?side2 ?side3 ?side4 A5.out).mono ?_); (case side1 => repeat (first | exact (Kd.C_below HR0_3.out HB.out) | (with_reducible refine Kd.C_alloc ?_ _) | (with_reducible refine Kd.C_drewN ?_ _) | (with_reducible refine Kd.C_drew ?_))); (case side2 => exact HC0_3.out); (case side3 => repeat (first | exact (Kd.C_below HR1_3.out HB.out) | (with_reducible refine Kd.C_alloc ?_ _) | (with_reducible refine Kd.C_drewN ?_ _) | (with_reducible refine Kd.C_drew ?_))); (case side4 => exact HC1_3.out); rintro e w' ⟨rfl, ⟨nd, rfl⟩⟩))
      go_ret
      exact ⟨by first | rfl | (simp [errW_none, errW_some] <;> rfl) | (simp [*, errW_none, errW_some] <;> rfl), by repeat (first | (with_reducible first | exact HB.out | apply below_alloc | apply pw_below_drewN | apply below_drew1 | refine below_set ?_ GE748.out | refine below_set ?_ GE749.out) | exact HB.out)⟩
    · rw [if_neg c4] at H
      have c4b0 : (a0_2 == a1_2) = false := beq_eq_false_iff_ne.mpr c4
      have c4b1 : (a0_2 != a1_2) = true := bne_iff_ne.mpr c4
      obtain rfl := Option.some.inj H
      go_enter Try.func88, Try.ntmps88
      go_wp2_with (first | ((with_reducible refine gate_dst (N := 2) rfl ?_); refine box_event ?hg (N := 2) ?hd (cs := #[.int .i64 a0_0, .int .i64 a0_1, .int .i64 a0_2, .slice A0_3 l0_3.length c0_3]) (t := 48) ?hr ?_; (case hd => rfl); (case hg => rfl); (case hr => first | (go_simp; done) | (go_simp; rfl)); intro gb748 hg w11 hbox hb; have n0_ := Aside0.mk (below_step (by repeat (first | (with_reducible first | exact HB.out | apply below_alloc | apply pw_below_drewN | apply below_drew1) | exact HB.out)) hb); have n1_ := Aside0.mk (hbox); have n2_ := Aside0.mk ((by rw [hg]; exact (below_size (by repeat (first | (with_reducible first | exact HB.out | apply below_alloc | apply pw_below_drewN | apply below_drew1) | exact HB.out))) : w.heap.size ≤ gb748)); have n3_ := Aside0.mk ((by rw [hg]; exact (below_size (by repeat (first | (with_reducible first | exact HB.out | apply below_alloc | apply pw_below_drewN | apply below_drew1) | exact HB.out))) : w.heap.size ≤ gb748)); clear HB; have HB := n0_; have BK748 := n1_; have GW748 := n2_; have GE748 := n3_; clear n0_ n1_ n2_ n3_; clear hb hbox hg) | ((with_reducible refine gate_dst (N := 3) rfl ?_); refine box_event ?hg (N := 3) ?hd (cs := #[.int .i64 a1_0, .int .i64 a1_1, .int .i64 a1_2, .slice A1_3 l1_3.length c1_3]) (t := 48) ?hr ?_; (case hd => rfl); (case hg => rfl); (case hr => first | (go_simp; done) | (go_simp; rfl)); intro gb749 hg w12 hbox hb; have n0_ := Aside0.mk (blk_below (g := gb748) (o := .cells #[.int .i64 a0_0, .int .i64 a0_1, .int .i64 a0_2, .slice A0_3 l0_3.length c0_3] 48 (0, 0)) (by (with_reducible repeat (first | refine blk_drewN ?_ _ | refine blk_drew ?_ | refine blk_alloc ?_ _)); exact BK748.out) hb); have n1_ := Aside0.mk (below_step (by repeat (first | (with_reducible first | exact HB.out | apply below_alloc | apply pw_below_drewN | apply below_drew1 | refine below_set ?_ GE748.out) | exact HB.out)) hb); have n2_ := Aside0.mk (hbox); have n3_ := Aside0.mk ((by rw [hg]; exact (below_size (by repeat (first | (with_reducible first | exact HB.out | apply below_alloc | apply pw_below_drewN | apply below_drew1 | refine below_set ?_ GE748.out) | exact HB.out))) : w.heap.size ≤ gb749)); have n4_ := Aside0.mk ((by rw [hg]; exact (below_size (by repeat (first | (with_reducible first | exact HB.out | apply below_alloc | apply pw_below_drewN | apply below_drew1 | refine below_set ?_ GE748.out) | exact HB.out))) : w.heap.size ≤ gb749)); have n5_ := Aside0.mk ((by rw [hg]; exact Nat.ne_of_lt (blk_lt (g := gb748) (o := .cells #[.int .i64 a0_0, .int .i64 a0_1, .int .i64 a0_2, .slice A0_3 l0_3.length c0_3] 48 (0, 0)) (by (with_reducible repeat (first | refine blk_drewN ?_ _ | refine blk_drew ?_ | refine blk_alloc ?_ _)); exact BK748.out)) : gb748 ≠ gb749)); have n6_ := Aside0.mk ((by rw [hg]; exact Nat.ne_of_gt (blk_lt (g := gb748) (o := .cells #[.int .i64 a0_0, .int .i64 a0_1, .int .i64 a0_2, .slice A0_3 l0_3.length c0_3] 48 (0, 0)) (by (with_reducible repeat (first | refine blk_drewN ?_ _ | refine blk_drew ?_ | refine blk_alloc ?_ _)); exact BK748.out)) : gb749 ≠ gb748)); clear BK748; clear HB; have BK748 := n0_; have HB := n1_; have BK749 := n2_; have GW749 := n3_; have GE749 := n4_; have NB748_749 := n5_; have NB749_748 := n6_; clear n0_ n1_ n2_ n3_ n4_ n5_ n6_; clear hb hbox hg; have hnb13 := NB748_749.out; have hnc13 := NB749_748.out; have hcz14_0 : w12.cell? ⟨gb748, 0, none⟩ = some (.int .i64 a0_0) := (blk_cell BK748.out 0).trans rfl; have hcz14_1 : w12.cell? ⟨gb748, 1, none⟩ = some (.int .i64 a0_1) := (blk_cell BK748.out 1).trans rfl; have hcz14_2 : w12.cell? ⟨gb748, 2, none⟩ = some (.int .i64 a0_2) := (blk_cell BK748.out 2).trans rfl; have hcz14_3 : w12.cell? ⟨gb748, 3, none⟩ = some (.slice A0_3 l0_3.length c0_3) := (blk_cell BK748.out 3).trans rfl; have hfz14_0 := blk_frozen BK748.out 0; have hfz14_1 := blk_frozen BK748.out 1; have hfz14_2 := blk_frozen BK748.out 2; have hfz14_3 := blk_frozen BK748.out 3; have hcz15_0 : w12.cell? ⟨gb749, 0, none⟩ = some (.int .i64 a1_0) := (blk_cell BK749.out 0).trans rfl; have hcz15_1 : w12.cell? ⟨gb749, 1, none⟩ = some (.int .i64 a1_1) := (blk_cell BK749.out 1).trans rfl; have hcz15_2 : w12.cell? ⟨gb749, 2, none⟩ = some (.int .i64 a1_2) := (blk_cell BK749.out 2).trans rfl; have hcz15_3 : w12.cell? ⟨gb749, 3, none⟩ = some (.slice A1_3 l1_3.length c1_3) := (blk_cell BK749.out 3).trans rfl; have hfz15_0 := blk_frozen BK749.out 0; have hfz15_1 := blk_frozen BK749.out 1; have hfz15_2 := blk_frozen BK749.out 2; have hfz15_3 := blk_frozen BK749.out 3))
      go_ret
      exact ⟨by first | rfl | (simp [errW_none, errW_some] <;> rfl) | (simp [*, errW_none, errW_some] <;> rfl), by repeat (first | (with_reducible first | exact HB.out | apply below_alloc | apply pw_below_drewN | apply below_drew1 | refine below_set ?_ GE748.out | refine below_set ?_ GE749.out) | exact HB.out)⟩
  · rw [if_neg c3] at H
    have c3b0 : (a0_0 == a1_0 && (a0_1 == a1_1)) = false := by simpa using c3
    (try (have c3b1 : decide (a0_0 = a1_0 && (a0_1 == a1_1)) = false := by simpa using c3))
    (try (have c3b2 : (a0_0 == a1_0 && (a0_1 == a1_1)) = false := by simpa using c3))
    (try (have c3b3 : ¬ (a0_0 = a1_0 && (a0_1 == a1_1)) := by simpa using c3))
    clear c3
    obtain rfl := Option.some.inj H
    go_enter Try.func88, Try.ntmps88
    go_wp2_with (first | ((with_reducible refine gate_dst (N := 2) rfl ?_); refine box_event ?hg (N := 2) ?hd (cs := #[.int .i64 a0_0, .int .i64 a0_1, .int .i64 a0_2, .slice A0_3 l0_3.length c0_3]) (t := 48) ?hr ?_; (case hd => rfl); (case hg => rfl); (case hr => first | (go_simp; done) | (go_simp; rfl)); intro gb748 hg w16 hbox hb; have n0_ := Aside0.mk (below_step (by repeat (first | (with_reducible first | exact HB.out | apply below_alloc | apply pw_below_drewN | apply below_drew1) | exact HB.out)) hb); have n1_ := Aside0.mk (hbox); have n2_ := Aside0.mk ((by rw [hg]; exact (below_size (by repeat (first | (with_reducible first | exact HB.out | apply below_alloc | apply pw_below_drewN | apply below_drew1) | exact HB.out))) : w.heap.size ≤ gb748)); have n3_ := Aside0.mk ((by rw [hg]; exact (below_size (by repeat (first | (with_reducible first | exact HB.out | apply below_alloc | apply pw_below_drewN | apply below_drew1) | exact HB.out))) : w.heap.size ≤ gb748)); clear HB; have HB := n0_; have BK748 := n1_; have GW748 := n2_; have GE748 := n3_; clear n0_ n1_ n2_ n3_; clear hb hbox hg) | ((with_reducible refine gate_dst (N := 3) rfl ?_); refine box_event ?hg (N := 3) ?hd (cs := #[.int .i64 a1_0, .int .i64 a1_1, .int .i64 a1_2, .slice A1_3 l1_3.length c1_3]) (t := 48) ?hr ?_; (case hd => rfl); (case hg => rfl); (case hr => first | (go_simp; done) | (go_simp; rfl)); intro gb749 hg w17 hbox hb; have n0_ := Aside0.mk (blk_below (g := gb748) (o := .cells #[.int .i64 a0_0, .int .i64 a0_1, .int .i64 a0_2, .slice A0_3 l0_3.length c0_3] 48 (0, 0)) (by (with_reducible repeat (first | refine blk_drewN ?_ _ | refine blk_drew ?_ | refine blk_alloc ?_ _)); exact BK748.out) hb); have n1_ := Aside0.mk (below_step (by repeat (first | (with_reducible first | exact HB.out | apply below_alloc | apply pw_below_drewN | apply below_drew1 | refine below_set ?_ GE748.out) | exact HB.out)) hb); have n2_ := Aside0.mk (hbox); have n3_ := Aside0.mk ((by rw [hg]; exact (below_size (by repeat (first | (with_reducible first | exact HB.out | apply below_alloc | apply pw_below_drewN | apply below_drew1 | refine below_set ?_ GE748.out) | exact HB.out))) : w.heap.size ≤ gb749)); have n4_ := Aside0.mk ((by rw [hg]; exact (below_size (by repeat (first | (with_reducible first | exact HB.out | apply below_alloc | apply pw_below_drewN | apply below_drew1 | refine below_set ?_ GE748.out) | exact HB.out))) : w.heap.size ≤ gb749)); have n5_ := Aside0.mk ((by rw [hg]; exact Nat.ne_of_lt (blk_lt (g := gb748) (o := .cells #[.int .i64 a0_0, .int .i64 a0_1, .int .i64 a0_2, .slice A0_3 l0_3.length c0_3] 48 (0, 0)) (by (with_reducible repeat (first | refine blk_drewN ?_ _ | refine blk_drew ?_ | refine blk_alloc ?_ _)); exact BK748.out)) : gb748 ≠ gb749)); have n6_ := Aside0.mk ((by rw [hg]; exact Nat.ne_of_gt (blk_lt (g := gb748) (o := .cells #[.int .i64 a0_0, .int .i64 a0_1, .int .i64 a0_2, .slice A0_3 l0_3.length c0_3] 48 (0, 0)) (by (with_reducible repeat (first | refine blk_drewN ?_ _ | refine blk_drew ?_ | refine blk_alloc ?_ _)); exact BK748.out)) : gb749 ≠ gb748)); clear BK748; clear HB; have BK748 := n0_; have HB := n1_; have BK749 := n2_; have GW749 := n3_; have GE749 := n4_; have NB748_749 := n5_; have NB749_748 := n6_; clear n0_ n1_ n2_ n3_ n4_ n5_ n6_; clear hb hbox hg; have hnb18 := NB748_749.out; have hnc18 := NB749_748.out; have hcz19_0 : w17.cell? ⟨gb748, 0, none⟩ = some (.int .i64 a0_0) := (blk_cell BK748.out 0).trans rfl; have hcz19_1 : w17.cell? ⟨gb748, 1, none⟩ = some (.int .i64 a0_1) := (blk_cell BK748.out 1).trans rfl; have hcz19_2 : w17.cell? ⟨gb748, 2, none⟩ = some (.int .i64 a0_2) := (blk_cell BK748.out 2).trans rfl; have hcz19_3 : w17.cell? ⟨gb748, 3, none⟩ = some (.slice A0_3 l0_3.length c0_3) := (blk_cell BK748.out 3).trans rfl; have hfz19_0 := blk_frozen BK748.out 0; have hfz19_1 := blk_frozen BK748.out 1; have hfz19_2 := blk_frozen BK748.out 2; have hfz19_3 := blk_frozen BK748.out 3; have hcz20_0 : w17.cell? ⟨gb749, 0, none⟩ = some (.int .i64 a1_0) := (blk_cell BK749.out 0).trans rfl; have hcz20_1 : w17.cell? ⟨gb749, 1, none⟩ = some (.int .i64 a1_1) := (blk_cell BK749.out 1).trans rfl; have hcz20_2 : w17.cell? ⟨gb749, 2, none⟩ = some (.int .i64 a1_2) := (blk_cell BK749.out 2).trans rfl; have hcz20_3 : w17.cell? ⟨gb749, 3, none⟩ = some (.slice A1_3 l1_3.length c1_3) := (blk_cell BK749.out 3).trans rfl; have hfz20_0 := blk_frozen BK749.out 0; have hfz20_1 := blk_frozen BK749.out 1; have hfz20_2 := blk_frozen BK749.out 2; have hfz20_3 := blk_frozen BK749.out 3))
    go_ret
    exact ⟨by first | rfl | (simp [errW_none, errW_some] <;> rfl) | (simp [*, errW_none, errW_some] <;> rfl), by repeat (first | (with_reducible first | exact HB.out | apply below_alloc | apply pw_below_drewN | apply below_drew1 | refine below_set ?_ GE748.out | refine below_set ?_ GE749.out) | exact HB.out)⟩

end Go.Proofs.Ytlkgmfhgnfgmiaa.Q

namespace Go.Proofs.Ytlkgmfhgnfgmiaa.Q
open Go.RowKit Go.Proofs.YtlkgmfhgnfgmiaaW.PrintWords Go.Proofs.YtlkgmfhgnfgmiaaW.PrintLast Go.Proofs.YtlkgmfhgnfgmiaaW.PrintMore
attribute [local go_sem] max2_int min2_int max_two min_two max_three min_three max_four min_four   -- for this text's walks alone
set_option linter.unusedVariables false
set_option linter.unusedSimpArgs false

/-! ### storagebarterref35_Same: function 64 -/
mutual
def storagebarterref35_Same.j0 : Nat → Bool → Int → Int → Int → List (S48) → List (S74) → Int → Int → Int → List (S48) → List (S74) → Option (Bool)
  | 0, _, _, _, _, _, _, _, _, _, _, _ => none
  | k + 1, x41, x752000, x752001, x752002, x752003, x752004, x753000, x753001, x753002, x753003, x753004 => if x41 = true then (some false) else (storagebarterref35_Same.l0 k 0 x752000 x752001 x752002 x752003 x752004 x753000 x753001 x753002 x753003 x753004)
def storagebarterref35_Same.l0 : Nat → Int → Int → Int → Int → List (S48) → List (S74) → Int → Int → Int → List (S48) → List (S74) → Option (Bool)
  | 0, _, _, _, _, _, _, _, _, _, _, _ => none
  | k + 1, x5, x752000, x752001, x752002, x752003, x752004, x753000, x753001, x753002, x753003, x753004 => if x5 < (x752003.length : Int) then (if 0 ≤ x5 then (if x5 < (x753003.length : Int) then ((storagebarterref13_Same.f k ((rd_T48 x752003 x5).f0.f0) ((rd_T48 x752003 x5).f0.f1) ((rd_T48 x752003 x5).f1) ((rd_T48 x752003 x5).f2) ((rd_T48 x753003 x5).f0.f0) ((rd_T48 x753003 x5).f0.f1) ((rd_T48 x753003 x5).f1) ((rd_T48 x753003 x5).f2)).bind fun t756 => (if t756 = true then (storagebarterref35_Same.l0 k (wrap64 (x5 + 1)) x752000 x752001 x752002 x752003 x752004 x753000 x753001 x753002 x753003 x753004) else (some false))) else (none)) else (none)) else (some true)
end
def storagebarterref35_Same.f (k : Nat) (a0_0 : Int) (a0_1 : Int) (a0_2 : Int) (l0_3 : List (S48)) (l0_4 : List (S74)) (a1_0 : Int) (a1_1 : Int) (a1_2 : Int) (l1_3 : List (S48)) (l1_4 : List (S74)) : Option (Bool) := if a0_0 = a1_0 then (if a0_1 = a1_1 then (if a0_2 = a1_2 then (if (l0_3.length : Int) = (l1_3.length : Int) then ((storagebarterref35_SamePlaces.f k l0_4 l1_4).bind fun t753 => (storagebarterref35_Same.j0 k (!t753) a0_0 a0_1 a0_2 l0_3 l0_4 a1_0 a1_1 a1_2 l1_3 l1_4)) else (storagebarterref35_Same.j0 k true a0_0 a0_1 a0_2 l0_3 l0_4 a1_0 a1_1 a1_2 l1_3 l1_4)) else (storagebarterref35_Same.j0 k true a0_0 a0_1 a0_2 l0_3 l0_4 a1_0 a1_1 a1_2 l1_3 l1_4)) else (storagebarterref35_Same.j0 k true a0_0 a0_1 a0_2 l0_3 l0_4 a1_0 a1_1 a1_2 l1_3 l1_4)) else (storagebarterref35_Same.j0 k true a0_0 a0_1 a0_2 l0_3 l0_4 a1_0 a1_1 a1_2 l1_3 l1_4)
theorem storagebarterref35_Same.mono_l : ∀ k, (∀ y0 y1 y2 y3 y4 y5 y6 y7 y8 y9 y10, LeO (storagebarterref35_Same.j0 k y0 y1 y2 y3 y4 y5 y6 y7 y8 y9 y10) (storagebarterref35_Same.j0 (k + 1) y0 y1 y2 y3 y4 y5 y6 y7 y8 y9 y10)) ∧ (∀ y0 y1 y2 y3 y4 y5 y6 y7 y8 y9 y10, LeO (storagebarterref35_Same.l0 k y0 y1 y2 y3 y4 y5 y6 y7 y8 y9 y10) (storagebarterref35_Same.l0 (k + 1) y0 y1 y2 y3 y4 y5 y6 y7 y8 y9 y10))
  | 0 => ⟨fun _ _ _ _ _ _ _ _ _ _ _ r h => by simp [storagebarterref35_Same.j0] at h, fun _ _ _ _ _ _ _ _ _ _ _ r h => by simp [storagebarterref35_Same.l0] at h⟩
  | k + 1 => by
    obtain ⟨ih0, ih1⟩ := storagebarterref35_Same.mono_l k
    refine ⟨?_, ?_⟩
    · intro y0 y1 y2 y3 y4 y5 y6 y7 y8 y9 y10
      unfold storagebarterref35_Same.j0
      repeat' first
      | (with_reducible exact ih0 _ _ _ _ _ _ _ _ _ _ _)
      | (with_reducible exact ih1 _ _ _ _ _ _ _ _ _ _ _)
      | (with_reducible exact storagebarterref13_Same.mono _ _ _ _ _ _ _ _ _)
      | (with_reducible exact storagebarterref35_SamePlaces.mono _ _ _)
      | (with_reducible exact LeO.refl _)
      | (with_reducible exact LeO.none _)
      | (with_reducible refine LeO.ite ?_ ?_)
      | (with_reducible refine LeO.bind ?_ (fun _ => ?_))
      | exact ih0 _ _ _ _ _ _ _ _ _ _ _
      | exact ih1 _ _ _ _ _ _ _ _ _ _ _
      | exact storagebarterref13_Same.mono _ _ _ _ _ _ _ _ _
      | exact storagebarterref35_SamePlaces.mono _ _ _
      | exact LeO.none _
      | refine LeO.ite ?_ ?_
      | refine LeO.bind ?_ (fun _ => ?_)
    · intro y0 y1 y2 y3 y4 y5 y6 y7 y8 y9 y10
      unfold storagebarterref35_Same.l0
      repeat' first
      | (with_reducible exact ih0 _ _ _ _ _ _ _ _ _ _ _)
      | (with_reducible exact ih1 _ _ _ _ _ _ _ _ _ _ _)
      | (with_reducible exact storagebarterref13_Same.mono _ _ _ _ _ _ _ _ _)
      | (with_reducible exact storagebarterref35_SamePlaces.mono _ _ _)
      | (with_reducible exact LeO.refl _)
      | (with_reducible exact LeO.none _)
      | (with_reducible refine LeO.ite ?_ ?_)
      | (with_reducible refine LeO.bind ?_ (fun _ => ?_))
      | exact ih0 _ _ _ _ _ _ _ _ _ _ _
      | exact ih1 _ _ _ _ _ _ _ _ _ _ _
      | exact storagebarterref13_Same.mono _ _ _ _ _ _ _ _ _
      | exact storagebarterref35_SamePlaces.mono _ _ _
      | exact LeO.none _
      | refine LeO.ite ?_ ?_
      | refine LeO.bind ?_ (fun _ => ?_)
theorem storagebarterref35_Same.mono : ∀ a0 a1 a2 a3 a4 a5 a6 a7 a8 a9 k, LeO (storagebarterref35_Same.f k a0 a1 a2 a3 a4 a5 a6 a7 a8 a9) (storagebarterref35_Same.f (k + 1) a0 a1 a2 a3 a4 a5 a6 a7 a8 a9) := by
  intro a0 a1 a2 a3 a4 a5 a6 a7 a8 a9 k
  obtain ⟨ih0, ih1⟩ := storagebarterref35_Same.mono_l k
  unfold storagebarterref35_Same.f
  repeat' first
      | (with_reducible exact ih0 _ _ _ _ _ _ _ _ _ _ _)
      | (with_reducible exact ih1 _ _ _ _ _ _ _ _ _ _ _)
      | (with_reducible exact storagebarterref13_Same.mono _ _ _ _ _ _ _ _ _)
      | (with_reducible exact storagebarterref35_SamePlaces.mono _ _ _)
      | (with_reducible exact LeO.refl _)
      | (with_reducible exact LeO.none _)
      | (with_reducible refine LeO.ite ?_ ?_)
      | (with_reducible refine LeO.bind ?_ (fun _ => ?_))
      | exact ih0 _ _ _ _ _ _ _ _ _ _ _
      | exact ih1 _ _ _ _ _ _ _ _ _ _ _
      | exact storagebarterref13_Same.mono _ _ _ _ _ _ _ _ _
      | exact storagebarterref35_SamePlaces.mono _ _ _
      | exact LeO.none _
      | refine LeO.ite ?_ ?_
      | refine LeO.bind ?_ (fun _ => ?_)
def storagebarterref35_Same.T6 : Bool × List (List Nat × List Nat) := (true, [([], []), ([0], [0]), ([], []), ([1, 2], [1, 2]), ([3], [3]), ([], []), ([5], [5]), ([], []), ([6, 7], [6, 7]), ([8], [8]), ([4, 9], [4, 9]), ([10], [10])])
def storagebarterref35_Same.B6 : List Nat := [0, 1, 0, 7, 15, 0, 32, 0, 224, 480, 1023, 2047]
theorem storagebarterref35_Same.tab6 : rtab .any (opsOf Try.f64 6) = storagebarterref35_Same.T6 := by kernel_rfl
theorem storagebarterref35_Same.bits6 : waitsOk storagebarterref35_Same.T6.2 storagebarterref35_Same.B6 = true := by kernel_rfl
set_option maxHeartbeats 8000000 in
set_option maxRecDepth 100000 in
theorem storagebarterref35_Same.calls (k : Nat) (a0_0 : Int) (a0_1 : Int) (a0_2 : Int) (A0_3 : Option Addr) (c0_3 : Nat) (l0_3 : List (S48)) (A0_4 : Option Addr) (c0_4 : Nat) (l0_4 : List (S74)) (a1_0 : Int) (a1_1 : Int) (a1_2 : Int) (A1_3 : Option Addr) (c1_3 : Nat) (l1_3 : List (S48)) (A1_4 : Option Addr) (c1_4 : Nat) (l1_4 : List (S74)) (r : Bool) (w : World) (hr0_3 : Kd.C k48 w A0_3 l0_3.length l0_3) (hc0_3 : l0_3.length ≤ c0_3) (hr0_4 : Kd.C k74 w A0_4 l0_4.length l0_4) (hc0_4 : l0_4.length ≤ c0_4) (hr1_3 : Kd.C k48 w A1_3 l1_3.length l1_3) (hc1_3 : l1_3.length ≤ c1_3) (hr1_4 : Kd.C k74 w A1_4 l1_4.length l1_4) (hc1_4 : l1_4.length ≤ c1_4) (h : storagebarterref35_Same.f k a0_0 a0_1 a0_2 l0_3 l0_4 a1_0 a1_1 a1_2 l1_3 l1_4 = some r) :
    Calls Try.prog 64 #[.agg #[.int .i64 a0_0, .int .i64 a0_1, .int .i64 a0_2, .slice A0_3 l0_3.length c0_3, .slice A0_4 l0_4.length c0_4], .agg #[.int .i64 a1_0, .int .i64 a1_1, .int .i64 a1_2, .slice A1_3 l1_3.length c1_3, .slice A1_4 l1_4.length c1_4]] w fun e w' => e = .returned (.bool r) ∧ Below w.heap.size w w' := by
  have hu29 := Try.underlying29
  have hu48 := Try.underlying48
  have HR0_3 := Aside0.mk hr0_3
  have HC0_3 := Aside0.mk hc0_3
  clear hr0_3 hc0_3
  have HR0_4 := Aside0.mk hr0_4
  have HC0_4 := Aside0.mk hc0_4
  clear hr0_4 hc0_4
  have HR1_3 := Aside0.mk hr1_3
  have HC1_3 := Aside0.mk hc1_3
  clear hr1_3 hc1_3
  have HR1_4 := Aside0.mk hr1_4
  have HC1_4 := Aside0.mk hc1_4
  clear hr1_4 hc1_4
  have HB := Aside0.mk (Below.refl w.heap.size w)
  have H : (if a0_0 = a1_0 then (if a0_1 = a1_1 then (if a0_2 = a1_2 then (if (l0_3.length : Int) = (l1_3.length : Int) then ((storagebarterref35_SamePlaces.f k l0_4 l1_4).bind fun t753 => (storagebarterref35_Same.j0 k (!t753) a0_0 a0_1 a0_2 l0_3 l0_4 a1_0 a1_1 a1_2 l1_3 l1_4)) else (storagebarterref35_Same.j0 k true a0_0 a0_1 a0_2 l0_3 l0_4 a1_0 a1_1 a1_2 l1_3 l1_4)) else (storagebarterref35_Same.j0 k true a0_0 a0_1 a0_2 l0_3 l0_4 a1_0 a1_1 a1_2 l1_3 l1_4)) else (storagebarterref35_Same.j0 k true a0_0 a0_1 a0_2 l0_3 l0_4 a1_0 a1_1 a1_2 l1_3 l1_4)) else (storagebarterref35_Same.j0 k true a0_0 a0_1 a0_2 l0_3 l0_4 a1_0 a1_1 a1_2 l1_3 l1_4)) = some r := h
  clear h
  have HC3 := Aside0.mk H
  clear H
  go_enter Try.func64, Try.ntmps64
  go_upto_region 1 with (first | ((with_reducible refine gate_dst (N := 2) rfl ?_); (try (refine gate_guard (by rfl) ?_; dsimp only)); refine box_event ?hg (N := 2) ?hd (cs := #[.int .i64 a0_0, .int .i64 a0_1, .int .i64 a0_2, .slice A0_3 l0_3.length c0_3, .slice A0_4 l0_4.length c0_4]) (t := 29) ?hr ?_; (case hd => rfl); (case hg => rfl); (case hr => first | (go_simp; done) | (go_simp; rfl)); intro gb751 hg w4 hbox hb; have n0_ := Aside0.mk (below_step (by repeat (first | (with_reducible first | exact HB.out | apply below_alloc | apply pw_below_drewN | apply below_drew1) | exact HB.out)) hb); have n1_ := Aside0.mk (hbox); have n2_ := Aside0.mk ((by rw [hg]; exact (below_size (by repeat (first | (with_reducible first | exact HB.out | apply below_alloc | apply pw_below_drewN | apply below_drew1) | exact HB.out))) : w.heap.size ≤ gb751)); have n3_ := Aside0.mk ((by rw [hg]; exact (below_size (by repeat (first | (with_reducible first | exact HB.out | apply below_alloc | apply pw_below_drewN | apply below_drew1) | exact HB.out))) : w.heap.size ≤ gb751)); clear HB; have HB := n0_; have BK751 := n1_; have GW751 := n2_; have GE751 := n3_; clear n0_ n1_ n2_ n3_; clear hb hbox hg) | ((with_reducible refine gate_dst (N := 3) rfl ?_); (try (refine gate_guard (by rfl) ?_; dsimp only)); refine box_event ?hg (N := 3) ?hd (cs := #[.int .i64 a1_0, .int .i64 a1_1, .int .i64 a1_2, .slice A1_3 l1_3.length c1_3, .slice A1_4 l1_4.length c1_4]) (t := 29) ?hr ?_; (case hd => rfl); (case hg => rfl); (case hr => first | (go_simp; done) | (go_simp; rfl)); intro gb752 hg w5 hbox hb; have n0_ := Aside0.mk (blk_below (g := gb751) (o := .cells #[.int .i64 a0_0, .int .i64 a0_1, .int .i64 a0_2, .slice A0_3 l0_3.length c0_3, .slice A0_4 l0_4.length c0_4] 29 (0, 0)) (by (with_reducible repeat (first | refine blk_drewN ?_ _ | refine blk_drew ?_ | refine blk_alloc ?_ _)); exact BK751.out) hb); have n1_ := Aside0.mk (below_step (by repeat (first | (with_reducible first | exact HB.out | apply below_alloc | apply pw_below_drewN | apply below_drew1 | refine below_set ?_ GE751.out) | exact HB.out)) hb); have n2_ := Aside0.mk (hbox); have n3_ := Aside0.mk ((by rw [hg]; exact (below_size (by repeat (first | (with_reducible first | exact HB.out | apply below_alloc | apply pw_below_drewN | apply below_drew1 | refine below_set ?_ GE751.out) | exact HB.out))) : w.heap.size ≤ gb752)); have n4_ := Aside0.mk ((by rw [hg]; exact (below_size (by repeat (first | (with_reducible first | exact HB.out | apply below_alloc | apply pw_below_drewN | apply below_drew1 | refine below_set ?_ GE751.out) | exact HB.out))) : w.heap.size ≤ gb752)); have n5_ := Aside0.mk ((by rw [hg]; exact Nat.ne_of_lt (blk_lt (g := gb751) (o := .cells #[.int .i64 a0_0, .int .i64 a0_1, .int .i64 a0_2, .slice A0_3 l0_3.length c0_3, .slice A0_4 l0_4.length c0_4] 29 (0, 0)) (by (with_reducible repeat (first | refine blk_drewN ?_ _ | refine blk_drew ?_ | refine blk_alloc ?_ _)); exact BK751.out)) : gb751 ≠ gb752)); have n6_ := Aside0.mk ((by rw [hg]; exact Nat.ne_of_gt (blk_lt (g := gb751) (o := .cells #[.int .i64 a0_0, .int .i64 a0_1, .int .i64 a0_2, .slice A0_3 l0_3.length c0_3, .slice A0_4 l0_4.length c0_4] 29 (0, 0)) (by (with_reducible repeat (first | refine blk_drewN ?_ _ | refine blk_drew ?_ | refine blk_alloc ?_ _)); exact BK751.out)) : gb752 ≠ gb751)); clear BK751; clear HB; have BK751 := n0_; have HB := n1_; have BK752 := n2_; have GW752 := n3_; have GE752 := n4_; have NB751_752 := n5_; have NB752_751 := n6_; clear n0_ n1_ n2_ n3_ n4_ n5_ n6_; clear hb hbox hg))
  (try simp only [Act.put, List.setIfInBounds_toArray, List.set_cons_zero, List.set_cons_succ])
  go_cut [41] (fun v41 wc => ∃ (kq : Nat) (x41_2 : Bool), v41 = .bool x41_2 ∧ Aside0 (storagebarterref35_Same.j0 kq x41_2 a0_0 a0_1 a0_2 l0_3 l0_4 a1_0 a1_1 a1_2 l1_3 l1_4 = some r) ∧ Aside0 (kq ≤ k) ∧ Aside0 (wc.heap[gb751]? = some (.cells #[.int .i64 a0_0, .int .i64 a0_1, .int .i64 a0_2, (.slice A0_3 l0_3.length c0_3), (.slice A0_4 l0_4.length c0_4)] 29 (0, 0))) ∧ Aside0 (wc.heap[gb752]? = some (.cells #[.int .i64 a1_0, .int .i64 a1_1, .int .i64 a1_2, (.slice A1_3 l1_3.length c1_3), (.slice A1_4 l1_4.length c1_4)] 29 (0, 0))) ∧ Aside0 (Below w.heap.size w wc))
  case first =>
    have H := HC3.out
    clear HC3
    by_cases c6 : a0_0 = a1_0
    · rw [if_pos c6] at H
      have c6b0 : (a0_0 == a1_0) = true := beq_iff_eq.mpr c6
      have c6b1 : (a0_0 != a1_0) = false := bne_eq_false_iff_eq.mpr c6
      clear c6
      (first | rw [c6b0] | (simp only [i64_w, i32_w]; rw [c6b0]) | skip)
      by_cases c7 : a0_1 = a1_1
      · rw [if_pos c7] at H
        have c7b0 : (a0_1 == a1_1) = true := beq_iff_eq.mpr c7
        have c7b1 : (a0_1 != a1_1) = false := bne_eq_false_iff_eq.mpr c7
        clear c7
        by_cases c8 : a0_2 = a1_2
        · rw [if_pos c8] at H
          have c8b0 : (a0_2 == a1_2) = true := beq_iff_eq.mpr c8
          have c8b1 : (a0_2 != a1_2) = false := bne_eq_false_iff_eq.mpr c8
          clear c8
          by_cases c9 : (l0_3.length : Int) = (l1_3.length : Int)
          · rw [if_pos c9] at H
            have c9b0 : ((l0_3.length : Int) == (l1_3.length : Int)) = true := beq_iff_eq.mpr c9
            have c9b1 : ((l0_3.length : Int) != (l1_3.length : Int)) = false := bne_eq_false_iff_eq.mpr c9
            have c9b2 : (l0_3.length == l1_3.length) = true := by first | simpa using c9 | (simp at c9 ⊢; omega)
            clear c9
            replace H := Option.bind_eq_some_iff.mp H
            obtain ⟨t753, A100, H⟩ := H
            replace H : (storagebarterref35_Same.j0 k (!t753) a0_0 a0_1 a0_2 l0_3 l0_4 a1_0 a1_1 a1_2 l1_3 l1_4) = some r := H
            have A10 := Aside0.mk A100
            clear A100
            have H' := Aside0.mk H
            clear H
            have hnb11 := NB751_752.out
            have hnc11 := NB752_751.out
            have hcz12_0 : w5.cell? ⟨gb751, 0, none⟩ = some (.int .i64 a0_0) := (blk_cell BK751.out 0).trans rfl
            have hcz12_1 : w5.cell? ⟨gb751, 1, none⟩ = some (.int .i64 a0_1) := (blk_cell BK751.out 1).trans rfl
            have hcz12_2 : w5.cell? ⟨gb751, 2, none⟩ = some (.int .i64 a0_2) := (blk_cell BK751.out 2).trans rfl
            have hcz12_3 : w5.cell? ⟨gb751, 3, none⟩ = some (.slice A0_3 l0_3.length c0_3) := (blk_cell BK751.out 3).trans rfl
            have hcz12_4 : w5.cell? ⟨gb751, 4, none⟩ = some (.slice A0_4 l0_4.length c0_4) := (blk_cell BK751.out 4).trans rfl
            have hfz12_0 := blk_frozen BK751.out 0
            have hfz12_1 := blk_frozen BK751.out 1
            have hfz12_2 := blk_frozen BK751.out 2
            have hfz12_3 := blk_frozen BK751.out 3
            have hfz12_4 := blk_frozen BK751.out 4
            have hcz13_0 : w5.cell? ⟨gb752, 0, none⟩ = some (.int .i64 a1_0) := (blk_cell BK752.out 0).trans rfl
            have hcz13_1 : w5.cell? ⟨gb752, 1, none⟩ = some (.int .i64 a1_1) := (blk_cell BK752.out 1).trans rfl
            have hcz13_2 : w5.cell? ⟨gb752, 2, none⟩ = some (.int .i64 a1_2) := (blk_cell BK752.out 2).trans rfl
            have hcz13_3 : w5.cell? ⟨gb752, 3, none⟩ = some (.slice A1_3 l1_3.length c1_3) := (blk_cell BK752.out 3).trans rfl
            have hcz13_4 : w5.cell? ⟨gb752, 4, none⟩ = some (.slice A1_4 l1_4.length c1_4) := (blk_cell BK752.out 4).trans rfl
            have hfz13_0 := blk_frozen BK752.out 0
            have hfz13_1 := blk_frozen BK752.out 1
            have hfz13_2 := blk_frozen BK752.out 2
            have hfz13_3 := blk_frozen BK752.out 3
            have hfz13_4 := blk_frozen BK752.out 4
            go_wp2_with (first | (go_at_call 19; (with_reducible refine (storagebarterref35_SamePlaces.calls k _ _ l0_4 _ _ l1_4 t753 _ ?side1 ?side2 ?side3 ?side4 A10.out).mono ?_); (case side1 => repeat (first | exact (Kd.C_below HR0_4.out HB.out) | (with_reducible refine Kd.C_alloc ?_ _) | (with_reducible refine Kd.C_drewN ?_ _) | (with_reducible refine Kd.C_drew ?_))); (case side2 => exact HC0_4.out); (case side3 => repeat (first | exact (Kd.C_below HR1_4.out HB.out) | (with_reducible refine Kd.C_alloc ?_ _) | (with_reducible refine Kd.C_drewN ?_ _) | (with_reducible refine Kd.C_drew ?_))); (case side4 => exact HC1_4.out); rintro e w' ⟨rfl, ⟨nd, rfl⟩⟩; (try (rw [drewN_self w5]; generalize hq_ : World.drewN w5 _ = w5; have n0_ : Aside0 (w5.heap[gb751]? = some (.cells #[.int .i64 a0_0, .int .i64 a0_1, .int .i64 a0_2, .slice A0_3 l0_3.length c0_3, .slice A0_4 l0_4.length c0_4] 29 (0, 0))) := ⟨by rw [← hq_]; exact (by (with_reducible repeat (first | refine blk_drewN ?_ _ | refine blk_drew ?_ | refine blk_alloc ?_ _)); exact BK751.out)⟩; have n1_ : Aside0 (w5.heap[gb752]? = some (.cells #[.int .i64 a1_0, .int .i64 a1_1, .int .i64 a1_2, .slice A1_3 l1_3.length c1_3, .slice A1_4 l1_4.length c1_4] 29 (0, 0))) := ⟨by rw [← hq_]; exact (by (with_reducible repeat (first | refine blk_drewN ?_ _ | refine blk_drew ?_ | refine blk_alloc ?_ _)); exact BK752.out)⟩; have n2_ : Aside0 (Below w.heap.size w w5) := ⟨by rw [← hq_]; exact (by repeat (first | (with_reducible first | exact HB.out | apply below_alloc | apply pw_below_drewN | apply below_drew1 | refine below_set ?_ GE751.out | refine below_set ?_ GE752.out) | exact HB.out))⟩; clear BK751 BK752 HB hq_; have BK751 := n0_; have BK752 := n1_; have HB := n2_; clear n0_ n1_ n2_))))
            go_meet
            case rel => exact ⟨_, (!t753), (by first | rfl | (simp; done) | (simp [*]; done)), H', ⟨by first | omega | exact Nat.le_refl _⟩, ⟨by (with_reducible repeat (first | refine blk_drewN ?_ _ | refine blk_drew ?_ | refine blk_alloc ?_ _)); exact BK751.out⟩, ⟨by (with_reducible repeat (first | refine blk_drewN ?_ _ | refine blk_drew ?_ | refine blk_alloc ?_ _)); exact BK752.out⟩, ⟨by repeat (first | (with_reducible first | exact HB.out | apply below_alloc | apply pw_below_drewN | apply below_drew1 | refine below_set ?_ GE751.out | refine below_set ?_ GE752.out) | exact HB.out)⟩⟩
          · rw [if_neg c9] at H
            have c9b0 : ((l0_3.length : Int) == (l1_3.length : Int)) = false := beq_eq_false_iff_ne.mpr c9
            have c9b1 : ((l0_3.length : Int) != (l1_3.length : Int)) = true := bne_iff_ne.mpr c9
            have c9b2 : (l0_3.length == l1_3.length) = false := by first | simpa using c9 | (simp at c9 ⊢; omega)
            have H' := Aside0.mk H
            clear H
            have hnb14 := NB751_752.out
            have hnc14 := NB752_751.out
            have hcz15_0 : w5.cell? ⟨gb751, 0, none⟩ = some (.int .i64 a0_0) := (blk_cell BK751.out 0).trans rfl
            have hcz15_1 : w5.cell? ⟨gb751, 1, none⟩ = some (.int .i64 a0_1) := (blk_cell BK751.out 1).trans rfl
            have hcz15_2 : w5.cell? ⟨gb751, 2, none⟩ = some (.int .i64 a0_2) := (blk_cell BK751.out 2).trans rfl
            have hcz15_3 : w5.cell? ⟨gb751, 3, none⟩ = some (.slice A0_3 l0_3.length c0_3) := (blk_cell BK751.out 3).trans rfl
            have hcz15_4 : w5.cell? ⟨gb751, 4, none⟩ = some (.slice A0_4 l0_4.length c0_4) := (blk_cell BK751.out 4).trans rfl
            have hfz15_0 := blk_frozen BK751.out 0
            have hfz15_1 := blk_frozen BK751.out 1
            have hfz15_2 := blk_frozen BK751.out 2
            have hfz15_3 := blk_frozen BK751.out 3
            have hfz15_4 := blk_frozen BK751.out 4
            have hcz16_0 : w5.cell? ⟨gb752, 0, none⟩ = some (.int .i64 a1_0) := (blk_cell BK752.out 0).trans rfl
            have hcz16_1 : w5.cell? ⟨gb752, 1, none⟩ = some (.int .i64 a1_1) := (blk_cell BK752.out 1).trans rfl
            have hcz16_2 : w5.cell? ⟨gb752, 2, none⟩ = some (.int .i64 a1_2) := (blk_cell BK752.out 2).trans rfl
            have hcz16_3 : w5.cell? ⟨gb752, 3, none⟩ = some (.slice A1_3 l1_3.length c1_3) := (blk_cell BK752.out 3).trans rfl
            have hcz16_4 : w5.cell? ⟨gb752, 4, none⟩ = some (.slice A1_4 l1_4.length c1_4) := (blk_cell BK752.out 4).trans rfl
            have hfz16_0 := blk_frozen BK752.out 0
            have hfz16_1 := blk_frozen BK752.out 1
            have hfz16_2 := blk_frozen BK752.out 2
            have hfz16_3 := blk_frozen BK752.out 3
            have hfz16_4 := blk_frozen BK752.out 4
            go_wp2
            go_meet
            case rel => exact ⟨_, (true), (by first | rfl | (simp; done) | (simp [*]; done)), H', ⟨by first | omega | exact Nat.le_refl _⟩, ⟨by (with_reducible repeat (first | refine blk_drewN ?_ _ | refine blk_drew ?_ | refine blk_alloc ?_ _)); exact BK751.out⟩, ⟨by (with_reducible repeat (first | refine blk_drewN ?_ _ | refine blk_drew ?_ | refine blk_alloc ?_ _)); exact BK752.out⟩, ⟨by repeat (first | (with_reducible first | exact HB.out | apply below_alloc | apply pw_below_drewN | apply below_drew1 | refine below_set ?_ GE751.out | refine below_set ?_ GE752.out) | exact HB.out)⟩⟩
        · rw [if_neg c8] at H
          have c8b0 : (a0_2 == a1_2) = false := beq_eq_false_iff_ne.mpr c8
          have c8b1 : (a0_2 != a1_2) = true := bne_iff_ne.mpr c8
          have H' := Aside0.mk H
          clear H
          have hnb17 := NB751_752.out
          have hnc17 := NB752_751.out
          have hcz18_0 : w5.cell? ⟨gb751, 0, none⟩ = some (.int .i64 a0_0) := (blk_cell BK751.out 0).trans rfl
          have hcz18_1 : w5.cell? ⟨gb751, 1, none⟩ = some (.int .i64 a0_1) := (blk_cell BK751.out 1).trans rfl
          have hcz18_2 : w5.cell? ⟨gb751, 2, none⟩ = some (.int .i64 a0_2) := (blk_cell BK751.out 2).trans rfl
          have hcz18_3 : w5.cell? ⟨gb751, 3, none⟩ = some (.slice A0_3 l0_3.length c0_3) := (blk_cell BK751.out 3).trans rfl
          have hcz18_4 : w5.cell? ⟨gb751, 4, none⟩ = some (.slice A0_4 l0_4.length c0_4) := (blk_cell BK751.out 4).trans rfl
          have hfz18_0 := blk_frozen BK751.out 0
          have hfz18_1 := blk_frozen BK751.out 1
          have hfz18_2 := blk_frozen BK751.out 2
          have hfz18_3 := blk_frozen BK751.out 3
          have hfz18_4 := blk_frozen BK751.out 4
          have hcz19_0 : w5.cell? ⟨gb752, 0, none⟩ = some (.int .i64 a1_0) := (blk_cell BK752.out 0).trans rfl
          have hcz19_1 : w5.cell? ⟨gb752, 1, none⟩ = some (.int .i64 a1_1) := (blk_cell BK752.out 1).trans rfl
          have hcz19_2 : w5.cell? ⟨gb752, 2, none⟩ = some (.int .i64 a1_2) := (blk_cell BK752.out 2).trans rfl
          have hcz19_3 : w5.cell? ⟨gb752, 3, none⟩ = some (.slice A1_3 l1_3.length c1_3) := (blk_cell BK752.out 3).trans rfl
          have hcz19_4 : w5.cell? ⟨gb752, 4, none⟩ = some (.slice A1_4 l1_4.length c1_4) := (blk_cell BK752.out 4).trans rfl
          have hfz19_0 := blk_frozen BK752.out 0
          have hfz19_1 := blk_frozen BK752.out 1
          have hfz19_2 := blk_frozen BK752.out 2
          have hfz19_3 := blk_frozen BK752.out 3
          have hfz19_4 := blk_frozen BK752.out 4
          go_wp2
          go_meet
          case rel => exact ⟨_, (true), (by first | rfl | (simp; done) | (simp [*]; done)), H', ⟨by first | omega | exact Nat.le_refl _⟩, ⟨by (with_reducible repeat (first | refine blk_drewN ?_ _ | refine blk_drew ?_ | refine blk_alloc ?_ _)); exact BK751.out⟩, ⟨by (with_reducible repeat (first | refine blk_drewN ?_ _ | refine blk_drew ?_ | refine blk_alloc ?_ _)); exact BK752.out⟩, ⟨by repeat (first | (with_reducible first | exact HB.out | apply below_alloc | apply pw_below_drewN | apply below_drew1 | refine below_set ?_ GE751.out | refine below_set ?_ GE752.out) | exact HB.out)⟩⟩
      · rw [if_neg c7] at H
        have c7b0 : (a0_1 == a1_1) = false := beq_eq_false_iff_ne.mpr c7
        have c7b1 : (a0_1 != a1_1) = true := bne_iff_ne.mpr c7
        have H' := Aside0.mk H
        clear H
        have hnb20 := NB751_752.out
        have hnc20 := NB752_751.out
        have hcz21_0 : w5.cell? ⟨gb751, 0, none⟩ = some (.int .i64 a0_0) := (blk_cell BK751.out 0).trans rfl
        have hcz21_1 : w5.cell? ⟨gb751, 1, none⟩ = some (.int .i64 a0_1) := (blk_cell BK751.out 1).trans rfl
        have hcz21_2 : w5.cell? ⟨gb751, 2, none⟩ = some (.int .i64 a0_2) := (blk_cell BK751.out 2).trans rfl
        have hcz21_3 : w5.cell? ⟨gb751, 3, none⟩ = some (.slice A0_3 l0_3.length c0_3) := (blk_cell BK751.out 3).trans rfl
        have hcz21_4 : w5.cell? ⟨gb751, 4, none⟩ = some (.slice A0_4 l0_4.length c0_4) := (blk_cell BK751.out 4).trans rfl
        have hfz21_0 := blk_frozen BK751.out 0
        have hfz21_1 := blk_frozen BK751.out 1
        have hfz21_2 := blk_frozen BK751.out 2
        have hfz21_3 := blk_frozen BK751.out 3
        have hfz21_4 := blk_frozen BK751.out 4
        have hcz22_0 : w5.cell? ⟨gb752, 0, none⟩ = some (.int .i64 a1_0) := (blk_cell BK752.out 0).trans rfl
        have hcz22_1 : w5.cell? ⟨gb752, 1, none⟩ = some (.int .i64 a1_1) := (blk_cell BK752.out 1).trans rfl
        have hcz22_2 : w5.cell? ⟨gb752, 2, none⟩ = some (.int .i64 a1_2) := (blk_cell BK752.out 2).trans rfl
        have hcz22_3 : w5.cell? ⟨gb752, 3, none⟩ = some (.slice A1_3 l1_3.length c1_3) := (blk_cell BK752.out 3).trans rfl
        have hcz22_4 : w5.cell? ⟨gb752, 4, none⟩ = some (.slice A1_4 l1_4.length c1_4) := (blk_cell BK752.out 4).trans rfl
        have hfz22_0 := blk_frozen BK752.out 0
        have hfz22_1 := blk_frozen BK752.out 1
        have hfz22_2 := blk_frozen BK752.out 2
        have hfz22_3 := blk_frozen BK752.out 3
        have hfz22_4 := blk_frozen BK752.out 4
        go_wp2
        go_meet
        case rel => exact ⟨_, (true), (by first | rfl | (simp; done) | (simp [*]; done)), H', ⟨by first | omega | exact Nat.le_refl _⟩, ⟨by (with_reducible repeat (first | refine blk_drewN ?_ _ | refine blk_drew ?_ | refine blk_alloc ?_ _)); exact BK751.out⟩, ⟨by (with_reducible repeat (first | refine blk_drewN ?_ _ | refine blk_drew ?_ | refine blk_alloc ?_ _)); exact BK752.out⟩, ⟨by repeat (first | (with_reducible first | exact HB.out | apply below_alloc | apply pw_below_drewN | apply below_drew1 | refine below_set ?_ GE751.out | refine below_set ?_ GE752.out) | exact HB.out)⟩⟩
    · rw [if_neg c6] at H
      have c6b0 : (a0_0 == a1_0) = false := beq_eq_false_iff_ne.mpr c6
      have c6b1 : (a0_0 != a1_0) = true := bne_iff_ne.mpr c6
      (first | rw [c6b0] | (simp only [i64_w, i32_w]; rw [c6b0]) | skip)
      have H' := Aside0.mk H
      clear H
      have hnb23 := NB751_752.out
      have hnc23 := NB752_751.out
      have hcz24_0 : w5.cell? ⟨gb751, 0, none⟩ = some (.int .i64 a0_0) := (blk_cell BK751.out 0).trans rfl
      have hcz24_1 : w5.cell? ⟨gb751, 1, none⟩ = some (.int .i64 a0_1) := (blk_cell BK751.out 1).trans rfl
      have hcz24_2 : w5.cell? ⟨gb751, 2, none⟩ = some (.int .i64 a0_2) := (blk_cell BK751.out 2).trans rfl
      have hcz24_3 : w5.cell? ⟨gb751, 3, none⟩ = some (.slice A0_3 l0_3.length c0_3) := (blk_cell BK751.out 3).trans rfl
      have hcz24_4 : w5.cell? ⟨gb751, 4, none⟩ = some (.slice A0_4 l0_4.length c0_4) := (blk_cell BK751.out 4).trans rfl
      have hfz24_0 := blk_frozen BK751.out 0
      have hfz24_1 := blk_frozen BK751.out 1
      have hfz24_2 := blk_frozen BK751.out 2
      have hfz24_3 := blk_frozen BK751.out 3
      have hfz24_4 := blk_frozen BK751.out 4
      have hcz25_0 : w5.cell? ⟨gb752, 0, none⟩ = some (.int .i64 a1_0) := (blk_cell BK752.out 0).trans rfl
      have hcz25_1 : w5.cell? ⟨gb752, 1, none⟩ = some (.int .i64 a1_1) := (blk_cell BK752.out 1).trans rfl
      have hcz25_2 : w5.cell? ⟨gb752, 2, none⟩ = some (.int .i64 a1_2) := (blk_cell BK752.out 2).trans rfl
      have hcz25_3 : w5.cell? ⟨gb752, 3, none⟩ = some (.slice A1_3 l1_3.length c1_3) := (blk_cell BK752.out 3).trans rfl
      have hcz25_4 : w5.cell? ⟨gb752, 4, none⟩ = some (.slice A1_4 l1_4.length c1_4) := (blk_cell BK752.out 4).trans rfl
      have hfz25_0 := blk_frozen BK752.out 0
      have hfz25_1 := blk_frozen BK752.out 1
      have hfz25_2 := blk_frozen BK752.out 2
      have hfz25_3 := blk_frozen BK752.out 3
      have hfz25_4 := blk_frozen BK752.out 4
      go_wp2
      go_meet
      case rel => exact ⟨_, (true), (by first | rfl | (simp; done) | (simp [*]; done)), H', ⟨by first | omega | exact Nat.le_refl _⟩, ⟨by (with_reducible repeat (first | refine blk_drewN ?_ _ | refine blk_drew ?_ | refine blk_alloc ?_ _)); exact BK751.out⟩, ⟨by (with_reducible repeat (first | refine blk_drewN ?_ _ | refine blk_drew ?_ | refine blk_alloc ?_ _)); exact BK752.out⟩, ⟨by repeat (first | (with_reducible first | exact HB.out | apply below_alloc | apply pw_below_drewN | apply below_drew1 | refine below_set ?_ GE751.out | refine below_set ?_ GE752.out) | exact HB.out)⟩⟩
  case rest =>
    clear HC3
    try clear c1
    try clear c2
    try clear p2
    try clear c6
    try clear c6b0
    try clear c6b1
    try clear c7
    try clear c7b0
    try clear c7b1
    try clear c8
    try clear c8b0
    try clear c8b1
    try clear c9
    try clear c9b0
    try clear c9b1
    try clear c9b2
    try clear c11
    try clear c14
    try clear c17
    try clear c20
    try clear c23
    try clear hcz12_0
    try clear hcz12_1
    try clear hcz12_2
    try clear hcz12_3
    try clear hcz12_4
    try clear hcz13_0
    try clear hcz13_1
    try clear hcz13_2
    try clear hcz13_3
    try clear hcz13_4
    try clear hcz15_0
    try clear hcz15_1
    try clear hcz15_2
    try clear hcz15_3
    try clear hcz15_4
    try clear hcz16_0
    try clear hcz16_1
    try clear hcz16_2
    try clear hcz16_3
    try clear hcz16_4
    try clear hcz18_0
    try clear hcz18_1
    try clear hcz18_2
    try clear hcz18_3
    try clear hcz18_4
    try clear hcz19_0
    try clear hcz19_1
    try clear hcz19_2
    try clear hcz19_3
    try clear hcz19_4
    try clear hcz21_0
    try clear hcz21_1
    try clear hcz21_2
    try clear hcz21_3
    try clear hcz21_4
    try clear hcz22_0
    try clear hcz22_1
    try clear hcz22_2
    try clear hcz22_3
    try clear hcz22_4
    try clear hcz24_0
    try clear hcz24_1
    try clear hcz24_2
    try clear hcz24_3
    try clear hcz24_4
    try clear hcz25_0
    try clear hcz25_1
    try clear hcz25_2
    try clear hcz25_3
    try clear hcz25_4
    try clear hfz12_0
    try clear hfz12_1
    try clear hfz12_2
    try clear hfz12_3
    try clear hfz12_4
    try clear hfz13_0
    try clear hfz13_1
    try clear hfz13_2
    try clear hfz13_3
    try clear hfz13_4
    try clear hfz15_0
    try clear hfz15_1
    try clear hfz15_2
    try clear hfz15_3
    try clear hfz15_4
    try clear hfz16_0
    try clear hfz16_1
    try clear hfz16_2
    try clear hfz16_3
    try clear hfz16_4
    try clear hfz18_0
    try clear hfz18_1
    try clear hfz18_2
    try clear hfz18_3
    try clear hfz18_4
    try clear hfz19_0
    try clear hfz19_1
    try clear hfz19_2
    try clear hfz19_3
    try clear hfz19_4
    try clear hfz21_0
    try clear hfz21_1
    try clear hfz21_2
    try clear hfz21_3
    try clear hfz21_4
    try clear hfz22_0
    try clear hfz22_1
    try clear hfz22_2
    try clear hfz22_3
    try clear hfz22_4
    try clear hfz24_0
    try clear hfz24_1
    try clear hfz24_2
    try clear hfz24_3
    try clear hfz24_4
    try clear hfz25_0
    try clear hfz25_1
    try clear hfz25_2
    try clear hfz25_3
    try clear hfz25_4
    obtain ⟨kq, x41_2, rfl, HA, HJ2, BK751, BK752, HB⟩ := hcut
    cases kq with
    | zero => exact absurd HA.out (by simp [storagebarterref35_Same.j0])
    | succ kj2 =>
      have H := HA.out
      clear HA
      simp only [storagebarterref35_Same.j0] at H
      by_cases c26 : x41_2 = true
      · subst c26
        have H1 : (some false) = some r := by rw [if_pos rfl] at H; exact H
        clear H
        have H := H1
        clear H1
        obtain rfl := Option.some.inj H
        go_wp2
        go_ret
        exact ⟨by first | rfl | (simp [errW_none, errW_some] <;> rfl) | (simp [*, errW_none, errW_some] <;> rfl), by repeat (first | (with_reducible first | exact HB.out | apply below_alloc | apply pw_below_drewN | apply below_drew1 | refine below_set ?_ GE751.out | refine below_set ?_ GE752.out) | exact HB.out)⟩
      · replace c26 := Bool.eq_false_iff.mpr c26
        subst c26
        have H1 : (storagebarterref35_Same.l0 kj2 0 a0_0 a0_1 a0_2 l0_3 l0_4 a1_0 a1_1 a1_2 l1_3 l1_4) = some r := by rw [if_neg (show ¬ (false = true) by decide)] at H; exact H
        clear H
        have H := H1
        clear H1
        have H' := Aside0.mk H
        clear H
        go_wp2
        go_loopg [5] kj2 (fun kq v5 w' => ∃ (x5_2 : Int), v5 = .int .i64 x5_2 ∧ Aside0 (storagebarterref35_Same.l0 kq x5_2 a0_0 a0_1 a0_2 l0_3 l0_4 a1_0 a1_1 a1_2 l1_3 l1_4 = some r) ∧ Aside0 (kq ≤ kj2) ∧ Aside0 (w'.heap[gb751]? = some (.cells #[.int .i64 a0_0, .int .i64 a0_1, .int .i64 a0_2, (.slice A0_3 l0_3.length c0_3), (.slice A0_4 l0_4.length c0_4)] 29 (0, 0))) ∧ Aside0 (w'.heap[gb752]? = some (.cells #[.int .i64 a1_0, .int .i64 a1_1, .int .i64 a1_2, (.slice A1_3 l1_3.length c1_3), (.slice A1_4 l1_4.length c1_4)] 29 (0, 0))) ∧ Aside0 (Below w.heap.size w w'))
        case atStart => exact ⟨(0), (by first | rfl | (simp; done) | (simp [*]; done)), H', ⟨Nat.le_refl _⟩, ⟨by (with_reducible repeat (first | refine blk_drewN ?_ _ | refine blk_drew ?_ | refine blk_alloc ?_ _)); exact BK751.out⟩, ⟨by (with_reducible repeat (first | refine blk_drewN ?_ _ | refine blk_drew ?_ | refine blk_alloc ?_ _)); exact BK752.out⟩, ⟨by repeat (first | (with_reducible first | exact HB.out | apply below_alloc | apply pw_below_drewN | apply below_drew1 | refine below_set ?_ GE751.out | refine below_set ?_ GE752.out) | exact HB.out)⟩⟩
        case round =>
          clear H'
          try clear c1
          try clear c2
          try clear p2
          try clear c6
          try clear c6b0
          try clear c6b1
          try clear c7
          try clear c7b0
          try clear c7b1
          try clear c8
          try clear c8b0
          try clear c8b1
          try clear c9
          try clear c9b0
          try clear c9b1
          try clear c9b2
          try clear c11
          try clear c14
          try clear c17
          try clear c20
          try clear c23
          try clear c26
          try clear hcz12_0
          try clear hcz12_1
          try clear hcz12_2
          try clear hcz12_3
          try clear hcz12_4
          try clear hcz13_0
          try clear hcz13_1
          try clear hcz13_2
          try clear hcz13_3
          try clear hcz13_4
          try clear hcz15_0
          try clear hcz15_1
          try clear hcz15_2
          try clear hcz15_3
          try clear hcz15_4
          try clear hcz16_0
          try clear hcz16_1
          try clear hcz16_2
          try clear hcz16_3
          try clear hcz16_4
          try clear hcz18_0
          try clear hcz18_1
          try clear hcz18_2
          try clear hcz18_3
          try clear hcz18_4
          try clear hcz19_0
          try clear hcz19_1
          try clear hcz19_2
          try clear hcz19_3
          try clear hcz19_4
          try clear hcz21_0
          try clear hcz21_1
          try clear hcz21_2
          try clear hcz21_3
          try clear hcz21_4
          try clear hcz22_0
          try clear hcz22_1
          try clear hcz22_2
          try clear hcz22_3
          try clear hcz22_4
          try clear hcz24_0
          try clear hcz24_1
          try clear hcz24_2
          try clear hcz24_3
          try clear hcz24_4
          try clear hcz25_0
          try clear hcz25_1
          try clear hcz25_2
          try clear hcz25_3
          try clear hcz25_4
          try clear hfz12_0
          try clear hfz12_1
          try clear hfz12_2
          try clear hfz12_3
          try clear hfz12_4
          try clear hfz13_0
          try clear hfz13_1
          try clear hfz13_2
          try clear hfz13_3
          try clear hfz13_4
          try clear hfz15_0
          try clear hfz15_1
          try clear hfz15_2
          try clear hfz15_3
          try clear hfz15_4
          try clear hfz16_0
          try clear hfz16_1
          try clear hfz16_2
          try clear hfz16_3
          try clear hfz16_4
          try clear hfz18_0
          try clear hfz18_1
          try clear hfz18_2
          try clear hfz18_3
          try clear hfz18_4
          try clear hfz19_0
          try clear hfz19_1
          try clear hfz19_2
          try clear hfz19_3
          try clear hfz19_4
          try clear hfz21_0
          try clear hfz21_1
          try clear hfz21_2
          try clear hfz21_3
          try clear hfz21_4
          try clear hfz22_0
          try clear hfz22_1
          try clear hfz22_2
          try clear hfz22_3
          try clear hfz22_4
          try clear hfz24_0
          try clear hfz24_1
          try clear hfz24_2
          try clear hfz24_3
          try clear hfz24_4
          try clear hfz25_0
          try clear hfz25_1
          try clear hfz25_2
          try clear hfz25_3
          try clear hfz25_4
          try clear p2
          obtain ⟨x5_2, rfl, HA, HK2, BK751, BK752, HB⟩ := hrel
          cases gk with
          | zero => exact absurd HA.out (by simp [storagebarterref35_Same.l0])
          | succ k2 =>
            have H := HA.out
            clear HA
            simp only [storagebarterref35_Same.l0] at H
            by_cases c27 : x5_2 < (l0_3.length : Int)
            · rw [if_pos c27] at H
              have c27b0 : decide (x5_2 < (l0_3.length : Int)) = true := decide_eq_true c27
              clear c27
              by_cases c28 : 0 ≤ x5_2
              · rw [if_pos c28] at H
                have c28b0 : decide (0 ≤ x5_2) = true := decide_eq_true c28
                clear c28
                by_cases c29 : x5_2 < (l1_3.length : Int)
                · rw [if_pos c29] at H
                  have c29b0 : decide (x5_2 < (l1_3.length : Int)) = true := decide_eq_true c29
                  clear c29
                  replace H := Option.bind_eq_some_iff.mp H
                  obtain ⟨t756, A300, H⟩ := H
                  replace H : (if t756 = true then (storagebarterref35_Same.l0 k2 (wrap64 (x5_2 + 1)) a0_0 a0_1 a0_2 l0_3 l0_4 a1_0 a1_1 a1_2 l1_3 l1_4) else (some false)) = some r := H
                  have A30 := Aside0.mk A300
                  clear A300
                  by_cases c31 : t756 = true
                  · subst c31
                    have H1 : (storagebarterref35_Same.l0 k2 (wrap64 (x5_2 + 1)) a0_0 a0_1 a0_2 l0_3 l0_4 a1_0 a1_1 a1_2 l1_3 l1_4) = some r := by rw [if_pos rfl] at H; exact H
                    clear H
                    have H := H1
                    clear H1
                    have H' := Aside0.mk H
                    clear H
                    have hnb32 := NB751_752.out
                    have hnc32 := NB752_751.out
                    have hcz33_0 : wr.cell? ⟨gb751, 0, none⟩ = some (.int .i64 a0_0) := (blk_cell BK751.out 0).trans rfl
                    have hcz33_1 : wr.cell? ⟨gb751, 1, none⟩ = some (.int .i64 a0_1) := (blk_cell BK751.out 1).trans rfl
                    have hcz33_2 : wr.cell? ⟨gb751, 2, none⟩ = some (.int .i64 a0_2) := (blk_cell BK751.out 2).trans rfl
                    have hcz33_3 : wr.cell? ⟨gb751, 3, none⟩ = some (.slice A0_3 l0_3.length c0_3) := (blk_cell BK751.out 3).trans rfl
                    have hcz33_4 : wr.cell? ⟨gb751, 4, none⟩ = some (.slice A0_4 l0_4.length c0_4) := (blk_cell BK751.out 4).trans rfl
                    have hfz33_0 := blk_frozen BK751.out 0
                    have hfz33_1 := blk_frozen BK751.out 1
                    have hfz33_2 := blk_frozen BK751.out 2
                    have hfz33_3 := blk_frozen BK751.out 3
                    have hfz33_4 := blk_frozen BK751.out 4
                    try go_wp2
                    have n0_ := Aside0.mk (blk_drew BK751.out)
                    have n1_ := Aside0.mk (blk_drew BK752.out)
                    have n2_ := Aside0.mk (below_drew1 HB.out)
                    clear BK751
                    clear BK752
                    clear HB
                    have BK751 := n0_
                    have BK752 := n1_
                    have HB := n2_
                    clear n0_ n1_ n2_
                    have p754 : 0 ≤ (x5_2 : Int) := of_decide_eq_true (by first | (with_reducible assumption) | assumption)
                    have q754 : x5_2 < (l0_3.length : Int) := of_decide_eq_true (by first | (with_reducible assumption) | assumption)
                    obtain ⟨ad754, A754_3, c754_3, e754, hx754_0, hx754_1, hx754_2, hx754_3, hl754_3, hi754_3⟩ := at_T48 HR0_3.out x5_2 p754 q754
                    have hw754_3 := hx754_3
                    have hw754_2 := hx754_2
                    have hw754_1 := hx754_1
                    have hw754_0 := hx754_0
                    cases e754
                    replace hx754_0 := (HB.out.cell (World.block_lt_of_cell? w _ hx754_0)).trans hx754_0
                    replace hx754_1 := (HB.out.cell (World.block_lt_of_cell? w _ hx754_1)).trans hx754_1
                    replace hx754_2 := (HB.out.cell (World.block_lt_of_cell? w _ hx754_2)).trans hx754_2
                    replace hx754_3 := (HB.out.cell (World.block_lt_of_cell? w _ hx754_3)).trans hx754_3
                    have HR754_3 := Aside0.mk hi754_3
                    have HC754_3 := Aside0.mk hl754_3
                    clear hi754_3 hl754_3
                    replace p754 := eq_true p754
                    replace q754 := eq_true q754
                    have p755 : 0 ≤ (x5_2 : Int) := of_decide_eq_true (by first | (with_reducible assumption) | assumption)
                    have q755 : x5_2 < (l1_3.length : Int) := of_decide_eq_true (by first | (with_reducible assumption) | assumption)
                    obtain ⟨ad755, A755_3, c755_3, e755, hx755_0, hx755_1, hx755_2, hx755_3, hl755_3, hi755_3⟩ := at_T48 HR1_3.out x5_2 p755 q755
                    have hw755_3 := hx755_3
                    have hw755_2 := hx755_2
                    have hw755_1 := hx755_1
                    have hw755_0 := hx755_0
                    cases e755
                    replace hx755_0 := (HB.out.cell (World.block_lt_of_cell? w _ hx755_0)).trans hx755_0
                    replace hx755_1 := (HB.out.cell (World.block_lt_of_cell? w _ hx755_1)).trans hx755_1
                    replace hx755_2 := (HB.out.cell (World.block_lt_of_cell? w _ hx755_2)).trans hx755_2
                    replace hx755_3 := (HB.out.cell (World.block_lt_of_cell? w _ hx755_3)).trans hx755_3
                    have HR755_3 := Aside0.mk hi755_3
                    have HC755_3 := Aside0.mk hl755_3
                    clear hi755_3 hl755_3
                    replace p755 := eq_true p755
                    replace q755 := eq_true q755
                    refine start_ (n := 12) (S := fun w' => w'.cell? ⟨gb751, 0, none⟩ = some (.int .i64 a0_0) ∧ w'.cell? ⟨gb751, 1, none⟩ = some (.int .i64 a0_1) ∧ w'.cell? ⟨gb751, 2, none⟩ = some (.int .i64 a0_2) ∧ w'.cell? ⟨gb751, 3, none⟩ = some (.slice (some ad754) l0_3.length c0_3) ∧ w'.cell? ⟨gb751, 4, none⟩ = some (.slice A0_4 l0_4.length c0_4) ∧ w'.cell? ⟨gb752, 0, none⟩ = some (.int .i64 a1_0) ∧ w'.cell? ⟨gb752, 1, none⟩ = some (.int .i64 a1_1) ∧ w'.cell? ⟨gb752, 2, none⟩ = some (.int .i64 a1_2) ∧ w'.cell? ⟨gb752, 3, none⟩ = some (.slice (some ad755) l1_3.length c1_3) ∧ w'.cell? ⟨gb752, 4, none⟩ = some (.slice A1_4 l1_4.length c1_4) ∧ w'.cell? (ad754.add ((x5_2).toNat * 4)) = some (.int .i64 ((rd_T48 l0_3 x5_2).f0.f0)) ∧ w'.cell? ⟨(ad754.add ((x5_2).toNat * 4)).block, (ad754.add ((x5_2).toNat * 4)).off + 1, none⟩ = some (.int .i64 ((rd_T48 l0_3 x5_2).f0.f1)) ∧ w'.cell? ⟨(ad754.add ((x5_2).toNat * 4)).block, (ad754.add ((x5_2).toNat * 4)).off + 2, none⟩ = some (.int .i64 ((rd_T48 l0_3 x5_2).f1)) ∧ w'.cell? ⟨(ad754.add ((x5_2).toNat * 4)).block, (ad754.add ((x5_2).toNat * 4)).off + 3, none⟩ = some (.slice A754_3 ((rd_T48 l0_3 x5_2).f2).length c754_3) ∧ w'.cell? (ad755.add ((x5_2).toNat * 4)) = some (.int .i64 ((rd_T48 l1_3 x5_2).f0.f0)) ∧ w'.cell? ⟨(ad755.add ((x5_2).toNat * 4)).block, (ad755.add ((x5_2).toNat * 4)).off + 1, none⟩ = some (.int .i64 ((rd_T48 l1_3 x5_2).f0.f1)) ∧ w'.cell? ⟨(ad755.add ((x5_2).toNat * 4)).block, (ad755.add ((x5_2).toNat * 4)).off + 2, none⟩ = some (.int .i64 ((rd_T48 l1_3 x5_2).f1)) ∧ w'.cell? ⟨(ad755.add ((x5_2).toNat * 4)).block, (ad755.add ((x5_2).toNat * 4)).off + 3, none⟩ = some (.slice A755_3 ((rd_T48 l1_3 x5_2).f2).length c755_3)) (ds := []) #[false, false, false, false, false, false, false, false, false, false, false, false] (by kernel_rfl) rfl rfl ⟨(blk_cell BK751.out 0).trans rfl, (blk_cell BK751.out 1).trans rfl, (blk_cell BK751.out 2).trans rfl, (blk_cell BK751.out 3).trans rfl, (blk_cell BK751.out 4).trans rfl, (blk_cell BK752.out 0).trans rfl, (blk_cell BK752.out 1).trans rfl, (blk_cell BK752.out 2).trans rfl, (blk_cell BK752.out 3).trans rfl, (blk_cell BK752.out 4).trans rfl, ((HB.out.cell (World.block_lt_of_cell? w _ hw754_0)).trans hw754_0), ((HB.out.cell (World.block_lt_of_cell? w _ hw754_1)).trans hw754_1), ((HB.out.cell (World.block_lt_of_cell? w _ hw754_2)).trans hw754_2), ((HB.out.cell (World.block_lt_of_cell? w _ hw754_3)).trans hw754_3), ((HB.out.cell (World.block_lt_of_cell? w _ hw755_0)).trans hw755_0), ((HB.out.cell (World.block_lt_of_cell? w _ hw755_1)).trans hw755_1), ((HB.out.cell (World.block_lt_of_cell? w _ hw755_2)).trans hw755_2), ((HB.out.cell (World.block_lt_of_cell? w _ hw755_3)).trans hw755_3)⟩ (fun hHeld => ?_); refine with_tabW storagebarterref35_Same.tab6 storagebarterref35_Same.bits6 (fun HT_ HW_ => ?_)
                    generalize wr.drew = w34 at BK751 BK752 HB HR754_3 HR755_3 hx754_0 hx754_1 hx754_2 hx754_3 hx755_0 hx755_1 hx755_2 hx755_3 hHeld ⊢
                    refine pure_ (i := 0) (N := some 49) (v := ?_) (a' := ?_) #[true, false, false, false, false, false, false, false, false, false, false, false] rfl rfl (any_of HT_.out (by kernel_rfl)) (fun _ _ _ h => h) (Or.inl ⟨by rfl, ?_⟩) ?_ ?_
                    rotate_left
                    · intro w'
                      go_simp
                      with_reducible rfl
                    rotate_left
                    · simp only [Act.put, List.setIfInBounds_toArray, List.set_cons_zero, List.set_cons_succ, i64_w, i32_w]
                      rfl
                    refine pure_ (i := 2) (N := some 51) (v := ?_) (a' := ?_) #[true, false, true, false, false, false, false, false, false, false, false, false] rfl rfl (any_of HT_.out (by kernel_rfl)) (fun _ _ _ h => h) (Or.inl ⟨by rfl, ?_⟩) ?_ ?_
                    rotate_left
                    · intro w'
                      go_simp
                      with_reducible rfl
                    rotate_left
                    · simp only [Act.put, List.setIfInBounds_toArray, List.set_cons_zero, List.set_cons_succ, i64_w, i32_w]
                      rfl
                    refine pure_ (i := 5) (N := some 54) (v := ?_) (a' := ?_) #[true, false, true, false, false, true, false, false, false, false, false, false] rfl rfl (any_of HT_.out (by kernel_rfl)) (fun _ _ _ h => h) (Or.inl ⟨by rfl, ?_⟩) ?_ ?_
                    rotate_left
                    · intro w'
                      go_simp
                      with_reducible rfl
                    rotate_left
                    · simp only [Act.put, List.setIfInBounds_toArray, List.set_cons_zero, List.set_cons_succ, i64_w, i32_w]
                      rfl
                    refine pure_ (i := 7) (N := some 56) (v := ?_) (a' := ?_) #[true, false, true, false, false, true, false, true, false, false, false, false] rfl rfl (any_of HT_.out (by kernel_rfl)) (fun _ _ _ h => h) (Or.inl ⟨by rfl, ?_⟩) ?_ ?_
                    rotate_left
                    · intro w'
                      go_simp
                      with_reducible rfl
                    rotate_left
                    · simp only [Act.put, List.setIfInBounds_toArray, List.set_cons_zero, List.set_cons_succ, i64_w, i32_w]
                      rfl
                    refine take_ (i := 1) (N := some 50) (v := ?_) (a' := ?_) #[true, true, true, false, false, true, false, true, false, false, false, false] rfl rfl (take_ofW HT_.out HW_.out (by kernel_rfl)) (fun _ _ _ h => h) (Or.inl ⟨by rfl, ?_⟩) hHeld ?_ ?_
                    rotate_left
                    · rintro w' ⟨s0, s1, s2, s3, s4, s5, s6, s7, s8, s9, s10, s11, s12, s13, s14, s15, s16, s17⟩
                      go_simp
                      with_reducible rfl
                    rotate_left
                    · simp only [Act.put, List.setIfInBounds_toArray, List.set_cons_zero, List.set_cons_succ, i64_w, i32_w]
                      rfl
                    refine pure_ (i := 3) (N := some 52) (v := ?_) (a' := ?_) #[true, true, true, true, false, true, false, true, false, false, false, false] rfl rfl (any_of HT_.out (by kernel_rfl)) (fun _ _ _ h => h) (Or.inl ⟨by rfl, ?_⟩) ?_ ?_
                    rotate_left
                    · intro w'
                      go_simp
                      with_reducible rfl
                    rotate_left
                    · simp only [Act.put, List.setIfInBounds_toArray, List.set_cons_zero, List.set_cons_succ, i64_w, i32_w]
                      rfl
                    refine take_ (i := 4) (N := some 53) (v := ?_) (a' := ?_) #[true, true, true, true, true, true, false, true, false, false, false, false] rfl rfl (take_ofW HT_.out HW_.out (by kernel_rfl)) (fun _ _ _ h => h) (Or.inl ⟨by rfl, ?_⟩) hHeld ?_ ?_
                    rotate_left
                    · rintro w' ⟨s0, s1, s2, s3, s4, s5, s6, s7, s8, s9, s10, s11, s12, s13, s14, s15, s16, s17⟩
                      go_simp
                      with_reducible rfl
                    rotate_left
                    · simp only [Act.put, List.setIfInBounds_toArray, List.set_cons_zero, List.set_cons_succ, i64_w, i32_w]
                      rfl
                    refine take_ (i := 6) (N := some 55) (v := ?_) (a' := ?_) #[true, true, true, true, true, true, true, true, false, false, false, false] rfl rfl (take_ofW HT_.out HW_.out (by kernel_rfl)) (fun _ _ _ h => h) (Or.inl ⟨by rfl, ?_⟩) hHeld ?_ ?_
                    rotate_left
                    · rintro w' ⟨s0, s1, s2, s3, s4, s5, s6, s7, s8, s9, s10, s11, s12, s13, s14, s15, s16, s17⟩
                      go_simp
                      with_reducible rfl
                    rotate_left
                    · simp only [Act.put, List.setIfInBounds_toArray, List.set_cons_zero, List.set_cons_succ, i64_w, i32_w]
                      rfl
                    refine pure_ (i := 8) (N := some 57) (v := ?_) (a' := ?_) #[true, true, true, true, true, true, true, true, true, false, false, false] rfl rfl (any_of HT_.out (by kernel_rfl)) (fun _ _ _ h => h) (Or.inl ⟨by rfl, ?_⟩) ?_ ?_
                    rotate_left
                    · intro w'
                      go_simp
                      with_reducible rfl
                    rotate_left
                    · simp only [Act.put, List.setIfInBounds_toArray, List.set_cons_zero, List.set_cons_succ, i64_w, i32_w]
                      rfl
                    refine take_ (i := 9) (N := some 58) (v := ?_) (a' := ?_) #[true, true, true, true, true, true, true, true, true, true, false, false] rfl rfl (take_ofW HT_.out HW_.out (by kernel_rfl)) (fun _ _ _ h => h) (Or.inl ⟨by rfl, ?_⟩) hHeld ?_ ?_
                    rotate_left
                    · rintro w' ⟨s0, s1, s2, s3, s4, s5, s6, s7, s8, s9, s10, s11, s12, s13, s14, s15, s16, s17⟩
                      go_simp
                      with_reducible rfl
                    rotate_left
                    · simp only [Act.put, List.setIfInBounds_toArray, List.set_cons_zero, List.set_cons_succ, i64_w, i32_w]
                      rfl
                    refine one_ (i := 10) (N := some 59) #[true, true, true, true, true, true, true, true, true, true, true, false] rfl rfl (one_of HT_.out (by kernel_rfl)) (by decide) (fun K hK => ?_)
                    refine goes_ Try.func88 (by kernel_rfl) rfl #[.agg #[.int .i64 ((rd_T48 l0_3 x5_2).f0.f0), .int .i64 ((rd_T48 l0_3 x5_2).f0.f1), .int .i64 ((rd_T48 l0_3 x5_2).f1), .slice A754_3 ((rd_T48 l0_3 x5_2).f2).length c754_3], .agg #[.int .i64 ((rd_T48 l1_3 x5_2).f0.f0), .int .i64 ((rd_T48 l1_3 x5_2).f0.f1), .int .i64 ((rd_T48 l1_3 x5_2).f1), .slice A755_3 ((rd_T48 l1_3 x5_2).f2).length c755_3]] (by rfl) rfl rfl (by (try simp only [List.map_toArray, List.map_cons, List.map_nil]); first | done | rfl | (simp only [List.length_drop, List.length_take]; rfl)) ?_
                    with_reducible refine (storagebarterref13_Same.calls k2 ((rd_T48 l0_3 x5_2).f0.f0) ((rd_T48 l0_3 x5_2).f0.f1) ((rd_T48 l0_3 x5_2).f1) _ _ ((rd_T48 l0_3 x5_2).f2) ((rd_T48 l1_3 x5_2).f0.f0) ((rd_T48 l1_3 x5_2).f0.f1) ((rd_T48 l1_3 x5_2).f1) _ _ ((rd_T48 l1_3 x5_2).f2) true _ ?side1 ?side2 ?side3 ?side4 A30.out).mono ?_
                    (case side1 => repeat (first | exact (Kd.C_below HR754_3.out HB.out) | (with_reducible refine Kd.C_alloc ?_ _) | (with_reducible refine Kd.C_drewN ?_ _) | (with_reducible refine Kd.C_drew ?_)))
                    (case side2 => exact HC754_3.out)
                    (case side3 => repeat (first | exact (Kd.C_below HR755_3.out HB.out) | (with_reducible refine Kd.C_alloc ?_ _) | (with_reducible refine Kd.C_drewN ?_ _) | (with_reducible refine Kd.C_drew ?_)))
                    (case side4 => exact HC755_3.out)
                    rintro e w35 ⟨rfl, hb⟩
                    refine ⟨_, rfl, ?_⟩
                    have n0_ := Aside0.mk (blk_below (g := gb751) (o := .cells #[.int .i64 a0_0, .int .i64 a0_1, .int .i64 a0_2, .slice (some ad754) l0_3.length c0_3, .slice A0_4 l0_4.length c0_4] 29 (0, 0)) (by (with_reducible repeat (first | refine blk_drewN ?_ _ | refine blk_drew ?_ | refine blk_alloc ?_ _)); exact BK751.out) hb)
                    have n1_ := Aside0.mk (blk_below (g := gb752) (o := .cells #[.int .i64 a1_0, .int .i64 a1_1, .int .i64 a1_2, .slice (some ad755) l1_3.length c1_3, .slice A1_4 l1_4.length c1_4] 29 (0, 0)) (by (with_reducible repeat (first | refine blk_drewN ?_ _ | refine blk_drew ?_ | refine blk_alloc ?_ _)); exact BK752.out) hb)
                    have n2_ := Aside0.mk (below_step (by repeat (first | (with_reducible first | exact HB.out | apply below_alloc | apply pw_below_drewN | apply below_drew1 | refine below_set ?_ GE751.out | refine below_set ?_ GE752.out) | exact HB.out)) hb)
                    clear BK751
                    clear BK752
                    clear HB
                    have BK751 := n0_
                    have BK752 := n1_
                    have HB := n2_
                    clear n0_ n1_ n2_
                    (try clear hb)
                    (try clear hb2)
                    (try clear hk)
                    (try clear hi)
                    refine hK.out _ _ ⟨(blk_cell BK751.out 0).trans rfl, (blk_cell BK751.out 1).trans rfl, (blk_cell BK751.out 2).trans rfl, (blk_cell BK751.out 3).trans rfl, (blk_cell BK751.out 4).trans rfl, (blk_cell BK752.out 0).trans rfl, (blk_cell BK752.out 1).trans rfl, (blk_cell BK752.out 2).trans rfl, (blk_cell BK752.out 3).trans rfl, (blk_cell BK752.out 4).trans rfl, ((HB.out.cell (World.block_lt_of_cell? w _ hw754_0)).trans hw754_0), ((HB.out.cell (World.block_lt_of_cell? w _ hw754_1)).trans hw754_1), ((HB.out.cell (World.block_lt_of_cell? w _ hw754_2)).trans hw754_2), ((HB.out.cell (World.block_lt_of_cell? w _ hw754_3)).trans hw754_3), ((HB.out.cell (World.block_lt_of_cell? w _ hw755_0)).trans hw755_0), ((HB.out.cell (World.block_lt_of_cell? w _ hw755_1)).trans hw755_1), ((HB.out.cell (World.block_lt_of_cell? w _ hw755_2)).trans hw755_2), ((HB.out.cell (World.block_lt_of_cell? w _ hw755_3)).trans hw755_3)⟩ (fun hHeld => ?_)
                    clear hK K
                    refine norm_ (a' := ?_) ?_ ?_
                    rotate_left
                    · show Act.put _ (some 59) _ = _
                      simp only [Act.put, List.setIfInBounds_toArray, List.set_cons_zero, List.set_cons_succ, i64_w, i32_w]
                      rfl
                    refine pure_ (i := 11) (N := some 60) (v := ?_) (a' := ?_) #[true, true, true, true, true, true, true, true, true, true, true, true] rfl rfl (any_of HT_.out (by kernel_rfl)) (fun _ _ _ h => h) (Or.inl ⟨by rfl, ?_⟩) ?_ ?_
                    rotate_left
                    · intro w'
                      go_simp
                      with_reducible rfl
                    rotate_left
                    · simp only [Act.put, List.setIfInBounds_toArray, List.set_cons_zero, List.set_cons_succ, i64_w, i32_w]
                      rfl
                    refine done_ (done_of HT_.out (by kernel_rfl)) ?_
                    try go_wp2
                    go_roundg k2
                    case measure => have := HJ2.out; have := HK2.out; omega
                    case rel => exact ⟨(wrap64 (x5_2 + 1)), (by first | rfl | (simp; done) | (simp [*]; done)), H', ⟨by have := HJ2.out; have := HK2.out; omega⟩, ⟨by (with_reducible repeat (first | refine blk_drewN ?_ _ | refine blk_drew ?_ | refine blk_alloc ?_ _)); exact BK751.out⟩, ⟨by (with_reducible repeat (first | refine blk_drewN ?_ _ | refine blk_drew ?_ | refine blk_alloc ?_ _)); exact BK752.out⟩, ⟨by repeat (first | (with_reducible first | exact HB.out | apply below_alloc | apply pw_below_drewN | apply below_drew1 | refine below_set ?_ GE751.out | refine below_set ?_ GE752.out) | exact HB.out)⟩⟩
                  · replace c31 := Bool.eq_false_iff.mpr c31
                    subst c31
                    have H1 : (some false) = some r := by rw [if_neg (show ¬ (false = true) by decide)] at H; exact H
                    clear H
                    have H := H1
                    clear H1
                    obtain rfl := Option.some.inj H
                    have hnb36 := NB751_752.out
                    have hnc36 := NB752_751.out
                    have hcz37_0 : wr.cell? ⟨gb751, 0, none⟩ = some (.int .i64 a0_0) := (blk_cell BK751.out 0).trans rfl
                    have hcz37_1 : wr.cell? ⟨gb751, 1, none⟩ = some (.int .i64 a0_1) := (blk_cell BK751.out 1).trans rfl
                    have hcz37_2 : wr.cell? ⟨gb751, 2, none⟩ = some (.int .i64 a0_2) := (blk_cell BK751.out 2).trans rfl
                    have hcz37_3 : wr.cell? ⟨gb751, 3, none⟩ = some (.slice A0_3 l0_3.length c0_3) := (blk_cell BK751.out 3).trans rfl
                    have hcz37_4 : wr.cell? ⟨gb751, 4, none⟩ = some (.slice A0_4 l0_4.length c0_4) := (blk_cell BK751.out 4).trans rfl
                    have hfz37_0 := blk_frozen BK751.out 0
                    have hfz37_1 := blk_frozen BK751.out 1
                    have hfz37_2 := blk_frozen BK751.out 2
                    have hfz37_3 := blk_frozen BK751.out 3
                    have hfz37_4 := blk_frozen BK751.out 4
                    try go_wp2
                    have n0_ := Aside0.mk (blk_drew BK751.out)
                    have n1_ := Aside0.mk (blk_drew BK752.out)
                    have n2_ := Aside0.mk (below_drew1 HB.out)
                    clear BK751
                    clear BK752
                    clear HB
                    have BK751 := n0_
                    have BK752 := n1_
                    have HB := n2_
                    clear n0_ n1_ n2_
                    have p754 : 0 ≤ (x5_2 : Int) := of_decide_eq_true (by first | (with_reducible assumption) | assumption)
                    have q754 : x5_2 < (l0_3.length : Int) := of_decide_eq_true (by first | (with_reducible assumption) | assumption)
                    obtain ⟨ad754, A754_3, c754_3, e754, hx754_0, hx754_1, hx754_2, hx754_3, hl754_3, hi754_3⟩ := at_T48 HR0_3.out x5_2 p754 q754
                    have hw754_3 := hx754_3
                    have hw754_2 := hx754_2
                    have hw754_1 := hx754_1
                    have hw754_0 := hx754_0
                    cases e754
                    replace hx754_0 := (HB.out.cell (World.block_lt_of_cell? w _ hx754_0)).trans hx754_0
                    replace hx754_1 := (HB.out.cell (World.block_lt_of_cell? w _ hx754_1)).trans hx754_1
                    replace hx754_2 := (HB.out.cell (World.block_lt_of_cell? w _ hx754_2)).trans hx754_2
                    replace hx754_3 := (HB.out.cell (World.block_lt_of_cell? w _ hx754_3)).trans hx754_3
                    have HR754_3 := Aside0.mk hi754_3
                    have HC754_3 := Aside0.mk hl754_3
                    clear hi754_3 hl754_3
                    replace p754 := eq_true p754
                    replace q754 := eq_true q754
                    have p755 : 0 ≤ (x5_2 : Int) := of_decide_eq_true (by first | (with_reducible assumption) | assumption)
                    have q755 : x5_2 < (l1_3.length : Int) := of_decide_eq_true (by first | (with_reducible assumption) | assumption)
                    obtain ⟨ad755, A755_3, c755_3, e755, hx755_0, hx755_1, hx755_2, hx755_3, hl755_3, hi755_3⟩ := at_T48 HR1_3.out x5_2 p755 q755
                    have hw755_3 := hx755_3
                    have hw755_2 := hx755_2
                    have hw755_1 := hx755_1
                    have hw755_0 := hx755_0
                    cases e755
                    replace hx755_0 := (HB.out.cell (World.block_lt_of_cell? w _ hx755_0)).trans hx755_0
                    replace hx755_1 := (HB.out.cell (World.block_lt_of_cell? w _ hx755_1)).trans hx755_1
                    replace hx755_2 := (HB.out.cell (World.block_lt_of_cell? w _ hx755_2)).trans hx755_2
                    replace hx755_3 := (HB.out.cell (World.block_lt_of_cell? w _ hx755_3)).trans hx755_3
                    have HR755_3 := Aside0.mk hi755_3
                    have HC755_3 := Aside0.mk hl755_3
                    clear hi755_3 hl755_3
                    replace p755 := eq_true p755
                    replace q755 := eq_true q755
                    refine start_ (n := 12) (S := fun w' => w'.cell? ⟨gb751, 0, none⟩ = some (.int .i64 a0_0) ∧ w'.cell? ⟨gb751, 1, none⟩ = some (.int .i64 a0_1) ∧ w'.cell? ⟨gb751, 2, none⟩ = some (.int .i64 a0_2) ∧ w'.cell? ⟨gb751, 3, none⟩ = some (.slice (some ad754) l0_3.length c0_3) ∧ w'.cell? ⟨gb751, 4, none⟩ = some (.slice A0_4 l0_4.length c0_4) ∧ w'.cell? ⟨gb752, 0, none⟩ = some (.int .i64 a1_0) ∧ w'.cell? ⟨gb752, 1, none⟩ = some (.int .i64 a1_1) ∧ w'.cell? ⟨gb752, 2, none⟩ = some (.int .i64 a1_2) ∧ w'.cell? ⟨gb752, 3, none⟩ = some (.slice (some ad755) l1_3.length c1_3) ∧ w'.cell? ⟨gb752, 4, none⟩ = some (.slice A1_4 l1_4.length c1_4) ∧ w'.cell? (ad754.add ((x5_2).toNat * 4)) = some (.int .i64 ((rd_T48 l0_3 x5_2).f0.f0)) ∧ w'.cell? ⟨(ad754.add ((x5_2).toNat * 4)).block, (ad754.add ((x5_2).toNat * 4)).off + 1, none⟩ = some (.int .i64 ((rd_T48 l0_3 x5_2).f0.f1)) ∧ w'.cell? ⟨(ad754.add ((x5_2).toNat * 4)).block, (ad754.add ((x5_2).toNat * 4)).off + 2, none⟩ = some (.int .i64 ((rd_T48 l0_3 x5_2).f1)) ∧ w'.cell? ⟨(ad754.add ((x5_2).toNat * 4)).block, (ad754.add ((x5_2).toNat * 4)).off + 3, none⟩ = some (.slice A754_3 ((rd_T48 l0_3 x5_2).f2).length c754_3) ∧ w'.cell? (ad755.add ((x5_2).toNat * 4)) = some (.int .i64 ((rd_T48 l1_3 x5_2).f0.f0)) ∧ w'.cell? ⟨(ad755.add ((x5_2).toNat * 4)).block, (ad755.add ((x5_2).toNat * 4)).off + 1, none⟩ = some (.int .i64 ((rd_T48 l1_3 x5_2).f0.f1)) ∧ w'.cell? ⟨(ad755.add ((x5_2).toNat * 4)).block, (ad755.add ((x5_2).toNat * 4)).off + 2, none⟩ = some (.int .i64 ((rd_T48 l1_3 x5_2).f1)) ∧ w'.cell? ⟨(ad755.add ((x5_2).toNat * 4)).block, (ad755.add ((x5_2).toNat * 4)).off + 3, none⟩ = some (.slice A755_3 ((rd_T48 l1_3 x5_2).f2).length c755_3)) (ds := []) #[false, false, false, false, false, false, false, false, false, false, false, false] (by kernel_rfl) rfl rfl ⟨(blk_cell BK751.out 0).trans rfl, (blk_cell BK751.out 1).trans rfl, (blk_cell BK751.out 2).trans rfl, (blk_cell BK751.out 3).trans rfl, (blk_cell BK751.out 4).trans rfl, (blk_cell BK752.out 0).trans rfl, (blk_cell BK752.out 1).trans rfl, (blk_cell BK752.out 2).trans rfl, (blk_cell BK752.out 3).trans rfl, (blk_cell BK752.out 4).trans rfl, ((HB.out.cell (World.block_lt_of_cell? w _ hw754_0)).trans hw754_0), ((HB.out.cell (World.block_lt_of_cell? w _ hw754_1)).trans hw754_1), ((HB.out.cell (World.block_lt_of_cell? w _ hw754_2)).trans hw754_2), ((HB.out.cell (World.block_lt_of_cell? w _ hw754_3)).trans hw754_3), ((HB.out.cell (World.block_lt_of_cell? w _ hw755_0)).trans hw755_0), ((HB.out.cell (World.block_lt_of_cell? w _ hw755_1)).trans hw755_1), ((HB.out.cell (World.block_lt_of_cell? w _ hw755_2)).trans hw755_2), ((HB.out.cell (World.block_lt_of_cell? w _ hw755_3)).trans hw755_3)⟩ (fun hHeld => ?_); refine with_tabW storagebarterref35_Same.tab6 storagebarterref35_Same.bits6 (fun HT_ HW_ => ?_)
                    generalize wr.drew = w38 at BK751 BK752 HB HR754_3 HR755_3 hx754_0 hx754_1 hx754_2 hx754_3 hx755_0 hx755_1 hx755_2 hx755_3 hHeld ⊢
                    refine pure_ (i := 0) (N := some 49) (v := ?_) (a' := ?_) #[true, false, false, false, false, false, false, false, false, false, false, false] rfl rfl (any_of HT_.out (by kernel_rfl)) (fun _ _ _ h => h) (Or.inl ⟨by rfl, ?_⟩) ?_ ?_
                    rotate_left
                    · intro w'
                      go_simp
                      with_reducible rfl
                    rotate_left
                    · simp only [Act.put, List.setIfInBounds_toArray, List.set_cons_zero, List.set_cons_succ, i64_w, i32_w]
                      rfl
                    refine pure_ (i := 2) (N := some 51) (v := ?_) (a' := ?_) #[true, false, true, false, false, false, false, false, false, false, false, false] rfl rfl (any_of HT_.out (by kernel_rfl)) (fun _ _ _ h => h) (Or.inl ⟨by rfl, ?_⟩) ?_ ?_
                    rotate_left
                    · intro w'
                      go_simp
                      with_reducible rfl
                    rotate_left
                    · simp only [Act.put, List.setIfInBounds_toArray, List.set_cons_zero, List.set_cons_succ, i64_w, i32_w]
                      rfl
                    refine pure_ (i := 5) (N := some 54) (v := ?_) (a' := ?_) #[true, false, true, false, false, true, false, false, false, false, false, false] rfl rfl (any_of HT_.out (by kernel_rfl)) (fun _ _ _ h => h) (Or.inl ⟨by rfl, ?_⟩) ?_ ?_
                    rotate_left
                    · intro w'
                      go_simp
                      with_reducible rfl
                    rotate_left
                    · simp only [Act.put, List.setIfInBounds_toArray, List.set_cons_zero, List.set_cons_succ, i64_w, i32_w]
                      rfl
                    refine pure_ (i := 7) (N := some 56) (v := ?_) (a' := ?_) #[true, false, true, false, false, true, false, true, false, false, false, false] rfl rfl (any_of HT_.out (by kernel_rfl)) (fun _ _ _ h => h) (Or.inl ⟨by rfl, ?_⟩) ?_ ?_
                    rotate_left
                    · intro w'
                      go_simp
                      with_reducible rfl
                    rotate_left
                    · simp only [Act.put, List.setIfInBounds_toArray, List.set_cons_zero, List.set_cons_succ, i64_w, i32_w]
                      rfl
                    refine take_ (i := 1) (N := some 50) (v := ?_) (a' := ?_) #[true, true, true, false, false, true, false, true, false, false, false, false] rfl rfl (take_ofW HT_.out HW_.out (by kernel_rfl)) (fun _ _ _ h => h) (Or.inl ⟨by rfl, ?_⟩) hHeld ?_ ?_
                    rotate_left
                    · rintro w' ⟨s0, s1, s2, s3, s4, s5, s6, s7, s8, s9, s10, s11, s12, s13, s14, s15, s16, s17⟩
                      go_simp
                      with_reducible rfl
                    rotate_left
                    · simp only [Act.put, List.setIfInBounds_toArray, List.set_cons_zero, List.set_cons_succ, i64_w, i32_w]
                      rfl
                    refine pure_ (i := 3) (N := some 52) (v := ?_) (a' := ?_) #[true, true, true, true, false, true, false, true, false, false, false, false] rfl rfl (any_of HT_.out (by kernel_rfl)) (fun _ _ _ h => h) (Or.inl ⟨by rfl, ?_⟩) ?_ ?_
                    rotate_left
                    · intro w'
                      go_simp
                      with_reducible rfl
                    rotate_left
                    · simp only [Act.put, List.setIfInBounds_toArray, List.set_cons_zero, List.set_cons_succ, i64_w, i32_w]
                      rfl
                    refine take_ (i := 4) (N := some 53) (v := ?_) (a' := ?_) #[true, true, true, true, true, true, false, true, false, false, false, false] rfl rfl (take_ofW HT_.out HW_.out (by kernel_rfl)) (fun _ _ _ h => h) (Or.inl ⟨by rfl, ?_⟩) hHeld ?_ ?_
                    rotate_left
                    · rintro w' ⟨s0, s1, s2, s3, s4, s5, s6, s7, s8, s9, s10, s11, s12, s13, s14, s15, s16, s17⟩
                      go_simp
                      with_reducible rfl
                    rotate_left
                    · simp only [Act.put, List.setIfInBounds_toArray, List.set_cons_zero, List.set_cons_succ, i64_w, i32_w]
                      rfl
                    refine take_ (i := 6) (N := some 55) (v := ?_) (a' := ?_) #[true, true, true, true, true, true, true, true, false, false, false, false] rfl rfl (take_ofW HT_.out HW_.out (by kernel_rfl)) (fun _ _ _ h => h) (Or.inl ⟨by rfl, ?_⟩) hHeld ?_ ?_
                    rotate_left
                    · rintro w' ⟨s0, s1, s2, s3, s4, s5, s6, s7, s8, s9, s10, s11, s12, s13, s14, s15, s16, s17⟩
                      go_simp
                      with_reducible rfl
                    rotate_left
                    · simp only [Act.put, List.setIfInBounds_toArray, List.set_cons_zero, List.set_cons_succ, i64_w, i32_w]
                      rfl
                    refine pure_ (i := 8) (N := some 57) (v := ?_) (a' := ?_) #[true, true, true, true, true, true, true, true, true, false, false, false] rfl rfl (any_of HT_.out (by kernel_rfl)) (fun _ _ _ h => h) (Or.inl ⟨by rfl, ?_⟩) ?_ ?_
                    rotate_left
                    · intro w'
                      go_simp
                      with_reducible rfl
                    rotate_left
                    · simp only [Act.put, List.setIfInBounds_toArray, List.set_cons_zero, List.set_cons_succ, i64_w, i32_w]
                      rfl
                    refine take_ (i := 9) (N := some 58) (v := ?_) (a' := ?_) #[true, true, true, true, true, true, true, true, true, true, false, false] rfl rfl (take_ofW HT_.out HW_.out (by kernel_rfl)) (fun _ _ _ h => h) (Or.inl ⟨by rfl, ?_⟩) hHeld ?_ ?_
                    rotate_left
                    · rintro w' ⟨s0, s1, s2, s3, s4, s5, s6, s7, s8, s9, s10, s11, s12, s13, s14, s15, s16, s17⟩
                      go_simp
                      with_reducible rfl
                    rotate_left
                    · simp only [Act.put, List.setIfInBounds_toArray, List.set_cons_zero, List.set_cons_succ, i64_w, i32_w]
                      rfl
                    refine one_ (i := 10) (N := some 59) #[true, true, true, true, true, true, true, true, true, true, true, false] rfl rfl (one_of HT_.out (by kernel_rfl)) (by decide) (fun K hK => ?_)
                    refine goes_ Try.func88 (by kernel_rfl) rfl #[.agg #[.int .i64 ((rd_T48 l0_3 x5_2).f0.f0), .int .i64 ((rd_T48 l0_3 x5_2).f0.f1), .int .i64 ((rd_T48 l0_3 x5_2).f1), .slice A754_3 ((rd_T48 l0_3 x5_2).f2).length c754_3], .agg #[.int .i64 ((rd_T48 l1_3 x5_2).f0.f0), .int .i64 ((rd_T48 l1_3 x5_2).f0.f1), .int .i64 ((rd_T48 l1_3 x5_2).f1), .slice A755_3 ((rd_T48 l1_3 x5_2).f2).length c755_3]] (by rfl) rfl rfl (by (try simp only [List.map_toArray, List.map_cons, List.map_nil]); first | done | rfl | (simp only [List.length_drop, List.length_take]; rfl)) ?_
                    with_reducible refine (storagebarterref13_Same.calls k2 ((rd_T48 l0_3 x5_2).f0.f0) ((rd_T48 l0_3 x5_2).f0.f1) ((rd_T48 l0_3 x5_2).f1) _ _ ((rd_T48 l0_3 x5_2).f2) ((rd_T48 l1_3 x5_2).f0.f0) ((rd_T48 l1_3 x5_2).f0.f1) ((rd_T48 l1_3 x5_2).f1) _ _ ((rd_T48 l1_3 x5_2).f2) false _ ?side1 ?side2 ?side3 ?side4 A30.out).mono ?_
                    (case side1 => repeat (first | exact (Kd.C_below HR754_3.out HB.out) | (with_reducible refine Kd.C_alloc ?_ _) | (with_reducible refine Kd.C_drewN ?_ _) | (with_reducible refine Kd.C_drew ?_)))
                    (case side2 => exact HC754_3.out)
                    (case side3 => repeat (first | exact (Kd.C_below HR755_3.out HB.out) | (with_reducible refine Kd.C_alloc ?_ _) | (with_reducible refine Kd.C_drewN ?_ _) | (with_reducible refine Kd.C_drew ?_)))
                    (case side4 => exact HC755_3.out)
                    rintro e w39 ⟨rfl, hb⟩
                    refine ⟨_, rfl, ?_⟩
                    have n0_ := Aside0.mk (blk_below (g := gb751) (o := .cells #[.int .i64 a0_0, .int .i64 a0_1, .int .i64 a0_2, .slice (some ad754) l0_3.length c0_3, .slice A0_4 l0_4.length c0_4] 29 (0, 0)) (by (with_reducible repeat (first | refine blk_drewN ?_ _ | refine blk_drew ?_ | refine blk_alloc ?_ _)); exact BK751.out) hb)
                    have n1_ := Aside0.mk (blk_below (g := gb752) (o := .cells #[.int .i64 a1_0, .int .i64 a1_1, .int .i64 a1_2, .slice (some ad755) l1_3.length c1_3, .slice A1_4 l1_4.length c1_4] 29 (0, 0)) (by (with_reducible repeat (first | refine blk_drewN ?_ _ | refine blk_drew ?_ | refine blk_alloc ?_ _)); exact BK752.out) hb)
                    have n2_ := Aside0.mk (below_step (by repeat (first | (with_reducible first | exact HB.out | apply below_alloc | apply pw_below_drewN | apply below_drew1 | refine below_set ?_ GE751.out | refine below_set ?_ GE752.out) | exact HB.out)) hb)
                    clear BK751
                    clear BK752
                    clear HB
                    have BK751 := n0_
                    have BK752 := n1_
                    have HB := n2_
                    clear n0_ n1_ n2_
                    (try clear hb)
                    (try clear hb2)
                    (try clear hk)
                    (try clear hi)
                    refine hK.out _ _ ⟨(blk_cell BK751.out 0).trans rfl, (blk_cell BK751.out 1).trans rfl, (blk_cell BK751.out 2).trans rfl, (blk_cell BK751.out 3).trans rfl, (blk_cell BK751.out 4).trans rfl, (blk_cell BK752.out 0).trans rfl, (blk_cell BK752.out 1).trans rfl, (blk_cell BK752.out 2).trans rfl, (blk_cell BK752.out 3).trans rfl, (blk_cell BK752.out 4).trans rfl, ((HB.out.cell (World.block_lt_of_cell? w _ hw754_0)).trans hw754_0), ((HB.out.cell (World.block_lt_of_cell? w _ hw754_1)).trans hw754_1), ((HB.out.cell (World.block_lt_of_cell? w _ hw754_2)).trans hw754_2), ((HB.out.cell (World.block_lt_of_cell? w _ hw754_3)).trans hw754_3), ((HB.out.cell (World.block_lt_of_cell? w _ hw755_0)).trans hw755_0), ((HB.out.cell (World.block_lt_of_cell? w _ hw755_1)).trans hw755_1), ((HB.out.cell (World.block_lt_of_cell? w _ hw755_2)).trans hw755_2), ((HB.out.cell (World.block_lt_of_cell? w _ hw755_3)).trans hw755_3)⟩ (fun hHeld => ?_)
                    clear hK K
                    refine norm_ (a' := ?_) ?_ ?_
                    rotate_left
                    · show Act.put _ (some 59) _ = _
                      simp only [Act.put, List.setIfInBounds_toArray, List.set_cons_zero, List.set_cons_succ, i64_w, i32_w]
                      rfl
                    refine pure_ (i := 11) (N := some 60) (v := ?_) (a' := ?_) #[true, true, true, true, true, true, true, true, true, true, true, true] rfl rfl (any_of HT_.out (by kernel_rfl)) (fun _ _ _ h => h) (Or.inl ⟨by rfl, ?_⟩) ?_ ?_
                    rotate_left
                    · intro w'
                      go_simp
                      with_reducible rfl
                    rotate_left
                    · simp only [Act.put, List.setIfInBounds_toArray, List.set_cons_zero, List.set_cons_succ, i64_w, i32_w]
                      rfl
                    refine done_ (done_of HT_.out (by kernel_rfl)) ?_
                    try go_wp2
                    go_ret
                    exact ⟨by first | rfl | (simp [errW_none, errW_some] <;> rfl) | (simp [*, errW_none, errW_some] <;> rfl), by repeat (first | (with_reducible first | exact HB.out | apply below_alloc | apply pw_below_drewN | apply below_drew1 | refine below_set ?_ GE751.out | refine below_set ?_ GE752.out) | exact HB.out)⟩
                · rw [if_neg c29] at H
                  exact absurd H (by simp)
              · rw [if_neg c28] at H
                exact absurd H (by simp)
            · rw [if_neg c27] at H
              have c27b0 : decide (x5_2 < (l0_3.length : Int)) = false := decide_eq_false c27
              clear c27
              obtain rfl := Option.some.inj H
              have hnb40 := NB751_752.out
              have hnc40 := NB752_751.out
              have hcz41_0 : wr.cell? ⟨gb751, 0, none⟩ = some (.int .i64 a0_0) := (blk_cell BK751.out 0).trans rfl
              have hcz41_1 : wr.cell? ⟨gb751, 1, none⟩ = some (.int .i64 a0_1) := (blk_cell BK751.out 1).trans rfl
              have hcz41_2 : wr.cell? ⟨gb751, 2, none⟩ = some (.int .i64 a0_2) := (blk_cell BK751.out 2).trans rfl
              have hcz41_3 : wr.cell? ⟨gb751, 3, none⟩ = some (.slice A0_3 l0_3.length c0_3) := (blk_cell BK751.out 3).trans rfl
              have hcz41_4 : wr.cell? ⟨gb751, 4, none⟩ = some (.slice A0_4 l0_4.length c0_4) := (blk_cell BK751.out 4).trans rfl
              have hfz41_0 := blk_frozen BK751.out 0
              have hfz41_1 := blk_frozen BK751.out 1
              have hfz41_2 := blk_frozen BK751.out 2
              have hfz41_3 := blk_frozen BK751.out 3
              have hfz41_4 := blk_frozen BK751.out 4
              go_wp2
              go_ret
              exact ⟨by first | rfl | (simp [errW_none, errW_some] <;> rfl) | (simp [*, errW_none, errW_some] <;> rfl), by repeat (first | (with_reducible first | exact HB.out | apply below_alloc | apply pw_below_drewN | apply below_drew1 | refine below_set ?_ GE751.out | refine below_set ?_ GE752.out) | exact HB.out)⟩

end Go.Proofs.Ytlkgmfhgnfgmiaa.Q

namespace Go.Proofs.Ytlkgmfhgnfgmiaa.Q
open Go.RowKit Go.Proofs.YtlkgmfhgnfgmiaaW.PrintWords Go.Proofs.YtlkgmfhgnfgmiaaW.PrintLast Go.Proofs.YtlkgmfhgnfgmiaaW.PrintMore
attribute [local go_sem] max2_int min2_int max_two min_two max_three min_three max_four min_four   -- for this text's walks alone
set_option linter.unusedVariables false
set_option linter.unusedSimpArgs false

/-! ### storagebarterref35_SameList: function 29 -/
def storagebarterref35_SameList.l0 : Nat → List (S29) → List (S29) → Int → Option (Bool)
  | 0, _, _, _ => none
  | k + 1, x0, x1, x5 => if x5 < (x0.length : Int) then (if 0 ≤ x5 then (if x5 < (x1.length : Int) then ((storagebarterref35_Same.f k ((rd_T29 x0 x5).f0) ((rd_T29 x0 x5).f1) ((rd_T29 x0 x5).f2) ((rd_T29 x0 x5).f3) ((rd_T29 x0 x5).f4) ((rd_T29 x1 x5).f0) ((rd_T29 x1 x5).f1) ((rd_T29 x1 x5).f2) ((rd_T29 x1 x5).f3) ((rd_T29 x1 x5).f4)).bind fun t759 => (if t759 = true then (storagebarterref35_SameList.l0 k x0 x1 (wrap64 (x5 + 1))) else (some false))) else (none)) else (none)) else (some true)
def storagebarterref35_SameList.f (k : Nat) (l0 : List (S29)) (l1 : List (S29)) : Option (Bool) := if (l0.length : Int) = (l1.length : Int) then (storagebarterref35_SameList.l0 k l0 l1 0) else (some false)
theorem storagebarterref35_SameList.mono_l : ∀ k, (∀ y0 y1 y2, LeO (storagebarterref35_SameList.l0 k y0 y1 y2) (storagebarterref35_SameList.l0 (k + 1) y0 y1 y2))
  | 0 => fun _ _ _ r h => by simp [storagebarterref35_SameList.l0] at h
  | k + 1 => by
    have ih0 := storagebarterref35_SameList.mono_l k
    · intro y0 y1 y2
      unfold storagebarterref35_SameList.l0
      repeat' first
      | (with_reducible exact ih0 _ _ _)
      | (with_reducible exact storagebarterref35_Same.mono _ _ _ _ _ _ _ _ _ _ _)
      | (with_reducible exact LeO.refl _)
      | (with_reducible exact LeO.none _)
      | (with_reducible refine LeO.ite ?_ ?_)
      | (with_reducible refine LeO.bind ?_ (fun _ => ?_))
      | exact ih0 _ _ _
      | exact storagebarterref35_Same.mono _ _ _ _ _ _ _ _ _ _ _
      | exact LeO.none _
      | refine LeO.ite ?_ ?_
      | refine LeO.bind ?_ (fun _ => ?_)
theorem storagebarterref35_SameList.mono : ∀ a0 a1 k, LeO (storagebarterref35_SameList.f k a0 a1) (storagebarterref35_SameList.f (k + 1) a0 a1) := by
  intro a0 a1 k
  have ih0 := storagebarterref35_SameList.mono_l k
  unfold storagebarterref35_SameList.f
  repeat' first
      | (with_reducible exact ih0 _ _ _)
      | (with_reducible exact storagebarterref35_Same.mono _ _ _ _ _ _ _ _ _ _ _)
      | (with_reducible exact LeO.refl _)
      | (with_reducible exact LeO.none _)
      | (with_reducible refine LeO.ite ?_ ?_)
      | (with_reducible refine LeO.bind ?_ (fun _ => ?_))
      | exact ih0 _ _ _
      | exact storagebarterref35_Same.mono _ _ _ _ _ _ _ _ _ _ _
      | exact LeO.none _
      | refine LeO.ite ?_ ?_
      | refine LeO.bind ?_ (fun _ => ?_)
def storagebarterref35_SameList.T6 : Bool × List (List Nat × List Nat) := (true, [([], []), ([], []), ([0, 1], [0, 1]), ([2], [2]), ([], []), ([], []), ([4, 5], [4, 5]), ([6], [6]), ([3, 7], [3, 7]), ([8], [8])])
def storagebarterref35_SameList.B6 : List Nat := [0, 0, 3, 7, 0, 0, 48, 112, 255, 511]
theorem storagebarterref35_SameList.tab6 : rtab .any (opsOf Try.f29 6) = storagebarterref35_SameList.T6 := by kernel_rfl
theorem storagebarterref35_SameList.bits6 : waitsOk storagebarterref35_SameList.T6.2 storagebarterref35_SameList.B6 = true := by kernel_rfl
set_option maxHeartbeats 8000000 in
set_option maxRecDepth 100000 in
theorem storagebarterref35_SameList.calls (k : Nat) (A0 : Option Addr) (c0 : Nat) (l0 : List (S29)) (A1 : Option Addr) (c1 : Nat) (l1 : List (S29)) (r : Bool) (w : World) (hr0 : Kd.C k29 w A0 l0.length l0) (hc0 : l0.length ≤ c0) (hr1 : Kd.C k29 w A1 l1.length l1) (hc1 : l1.length ≤ c1) (h : storagebarterref35_SameList.f k l0 l1 = some r) :
    Calls Try.prog 29 #[.slice A0 l0.length c0, .slice A1 l1.length c1] w fun e w' => e = .returned (.bool r) ∧ Below w.heap.size w w' := by
  have hu29 := Try.underlying29
  have HR0 := Aside0.mk hr0
  have HC0 := Aside0.mk hc0
  clear hr0 hc0
  have HR1 := Aside0.mk hr1
  have HC1 := Aside0.mk hc1
  clear hr1 hc1
  have HB := Aside0.mk (Below.refl w.heap.size w)
  have H : (if (l0.length : Int) = (l1.length : Int) then (storagebarterref35_SameList.l0 k l0 l1 0) else (some false)) = some r := h
  clear h
  by_cases c3 : (l0.length : Int) = (l1.length : Int)
  · rw [if_pos c3] at H
    have c3b0 : ((l0.length : Int) == (l1.length : Int)) = true := beq_iff_eq.mpr c3
    have c3b1 : ((l0.length : Int) != (l1.length : Int)) = false := bne_eq_false_iff_eq.mpr c3
    have c3b2 : (l0.length == l1.length) = true := by first | simpa using c3 | (simp at c3 ⊢; omega)
    clear c3
    have H' := Aside0.mk H
    clear H
    go_enter Try.func29, Try.ntmps29
    go_wp2
    go_loopg [5] k (fun kq v5 w' => ∃ (x5_1 : Int), v5 = .int .i64 x5_1 ∧ Aside0 (storagebarterref35_SameList.l0 kq l0 l1 x5_1 = some r) ∧ Aside0 (kq ≤ k) ∧ Aside0 (Below w.heap.size w w'))
    case atStart => exact ⟨(0), (by first | rfl | (simp; done) | (simp [*]; done)), H', ⟨Nat.le_refl _⟩, ⟨by repeat (first | (with_reducible first | exact HB.out | apply below_alloc | apply pw_below_drewN | apply below_drew1) | exact HB.out)⟩⟩
    case round =>
      clear H'
      try clear c1
      try clear c2
      try clear p2
      try clear c3
      try clear c3b0
      try clear c3b1
      try clear c3b2
      obtain ⟨x5_1, rfl, HA, HK1, HB⟩ := hrel
      cases gk with
      | zero => exact absurd HA.out (by simp [storagebarterref35_SameList.l0])
      | succ k1 =>
        have H := HA.out
        clear HA
        simp only [storagebarterref35_SameList.l0] at H
        by_cases c4 : x5_1 < (l0.length : Int)
        · rw [if_pos c4] at H
          have c4b0 : decide (x5_1 < (l0.length : Int)) = true := decide_eq_true c4
          clear c4
          by_cases c5 : 0 ≤ x5_1
          · rw [if_pos c5] at H
            have c5b0 : decide (0 ≤ x5_1) = true := decide_eq_true c5
            clear c5
            by_cases c6 : x5_1 < (l1.length : Int)
            · rw [if_pos c6] at H
              have c6b0 : decide (x5_1 < (l1.length : Int)) = true := decide_eq_true c6
              clear c6
              replace H := Option.bind_eq_some_iff.mp H
              obtain ⟨t759, A70, H⟩ := H
              replace H : (if t759 = true then (storagebarterref35_SameList.l0 k1 l0 l1 (wrap64 (x5_1 + 1))) else (some false)) = some r := H
              have A7 := Aside0.mk A70
              clear A70
              by_cases c8 : t759 = true
              · subst c8
                have H1 : (storagebarterref35_SameList.l0 k1 l0 l1 (wrap64 (x5_1 + 1))) = some r := by rw [if_pos rfl] at H; exact H
                clear H
                have H := H1
                clear H1
                have H' := Aside0.mk H
                clear H
                try go_wp2
                have n0_ := Aside0.mk (below_drew1 HB.out)
                clear HB
                have HB := n0_
                clear n0_
                have p757 : 0 ≤ (x5_1 : Int) := of_decide_eq_true (by first | (with_reducible assumption) | assumption)
                have q757 : x5_1 < (l0.length : Int) := of_decide_eq_true (by first | (with_reducible assumption) | assumption)
                obtain ⟨ad757, A757_3, c757_3, A757_4, c757_4, e757, hx757_0, hx757_1, hx757_2, hx757_3, hx757_4, hl757_3, hi757_3, hl757_4, hi757_4⟩ := at_T29 HR0.out x5_1 p757 q757
                have hw757_4 := hx757_4
                have hw757_3 := hx757_3
                have hw757_2 := hx757_2
                have hw757_1 := hx757_1
                have hw757_0 := hx757_0
                cases e757
                replace hx757_0 := (HB.out.cell (World.block_lt_of_cell? w _ hx757_0)).trans hx757_0
                replace hx757_1 := (HB.out.cell (World.block_lt_of_cell? w _ hx757_1)).trans hx757_1
                replace hx757_2 := (HB.out.cell (World.block_lt_of_cell? w _ hx757_2)).trans hx757_2
                replace hx757_3 := (HB.out.cell (World.block_lt_of_cell? w _ hx757_3)).trans hx757_3
                replace hx757_4 := (HB.out.cell (World.block_lt_of_cell? w _ hx757_4)).trans hx757_4
                have HR757_3 := Aside0.mk hi757_3
                have HC757_3 := Aside0.mk hl757_3
                clear hi757_3 hl757_3
                have HR757_4 := Aside0.mk hi757_4
                have HC757_4 := Aside0.mk hl757_4
                clear hi757_4 hl757_4
                replace p757 := eq_true p757
                replace q757 := eq_true q757
                have p758 : 0 ≤ (x5_1 : Int) := of_decide_eq_true (by first | (with_reducible assumption) | assumption)
                have q758 : x5_1 < (l1.length : Int) := of_decide_eq_true (by first | (with_reducible assumption) | assumption)
                obtain ⟨ad758, A758_3, c758_3, A758_4, c758_4, e758, hx758_0, hx758_1, hx758_2, hx758_3, hx758_4, hl758_3, hi758_3, hl758_4, hi758_4⟩ := at_T29 HR1.out x5_1 p758 q758
                have hw758_4 := hx758_4
                have hw758_3 := hx758_3
                have hw758_2 := hx758_2
                have hw758_1 := hx758_1
                have hw758_0 := hx758_0
                cases e758
                replace hx758_0 := (HB.out.cell (World.block_lt_of_cell? w _ hx758_0)).trans hx758_0
                replace hx758_1 := (HB.out.cell (World.block_lt_of_cell? w _ hx758_1)).trans hx758_1
                replace hx758_2 := (HB.out.cell (World.block_lt_of_cell? w _ hx758_2)).trans hx758_2
                replace hx758_3 := (HB.out.cell (World.block_lt_of_cell? w _ hx758_3)).trans hx758_3
                replace hx758_4 := (HB.out.cell (World.block_lt_of_cell? w _ hx758_4)).trans hx758_4
                have HR758_3 := Aside0.mk hi758_3
                have HC758_3 := Aside0.mk hl758_3
                clear hi758_3 hl758_3
                have HR758_4 := Aside0.mk hi758_4
                have HC758_4 := Aside0.mk hl758_4
                clear hi758_4 hl758_4
                replace p758 := eq_true p758
                replace q758 := eq_true q758
                refine start_ (n := 10) (S := fun w' => w'.cell? (ad757.add ((x5_1).toNat * 5)) = some (.int .i64 ((rd_T29 l0 x5_1).f0)) ∧ w'.cell? ⟨(ad757.add ((x5_1).toNat * 5)).block, (ad757.add ((x5_1).toNat * 5)).off + 1, none⟩ = some (.int .i64 ((rd_T29 l0 x5_1).f1)) ∧ w'.cell? ⟨(ad757.add ((x5_1).toNat * 5)).block, (ad757.add ((x5_1).toNat * 5)).off + 2, none⟩ = some (.int .i64 ((rd_T29 l0 x5_1).f2)) ∧ w'.cell? ⟨(ad757.add ((x5_1).toNat * 5)).block, (ad757.add ((x5_1).toNat * 5)).off + 3, none⟩ = some (.slice A757_3 ((rd_T29 l0 x5_1).f3).length c757_3) ∧ w'.cell? ⟨(ad757.add ((x5_1).toNat * 5)).block, (ad757.add ((x5_1).toNat * 5)).off + 4, none⟩ = some (.slice A757_4 ((rd_T29 l0 x5_1).f4).length c757_4) ∧ w'.cell? (ad758.add ((x5_1).toNat * 5)) = some (.int .i64 ((rd_T29 l1 x5_1).f0)) ∧ w'.cell? ⟨(ad758.add ((x5_1).toNat * 5)).block, (ad758.add ((x5_1).toNat * 5)).off + 1, none⟩ = some (.int .i64 ((rd_T29 l1 x5_1).f1)) ∧ w'.cell? ⟨(ad758.add ((x5_1).toNat * 5)).block, (ad758.add ((x5_1).toNat * 5)).off + 2, none⟩ = some (.int .i64 ((rd_T29 l1 x5_1).f2)) ∧ w'.cell? ⟨(ad758.add ((x5_1).toNat * 5)).block, (ad758.add ((x5_1).toNat * 5)).off + 3, none⟩ = some (.slice A758_3 ((rd_T29 l1 x5_1).f3).length c758_3) ∧ w'.cell? ⟨(ad758.add ((x5_1).toNat * 5)).block, (ad758.add ((x5_1).toNat * 5)).off + 4, none⟩ = some (.slice A758_4 ((rd_T29 l1 x5_1).f4).length c758_4)) (ds := []) #[false, false, false, false, false, false, false, false, false, false] (by kernel_rfl) rfl rfl ⟨((HB.out.cell (World.block_lt_of_cell? w _ hw757_0)).trans hw757_0), ((HB.out.cell (World.block_lt_of_cell? w _ hw757_1)).trans hw757_1), ((HB.out.cell (World.block_lt_of_cell? w _ hw757_2)).trans hw757_2), ((HB.out.cell (World.block_lt_of_cell? w _ hw757_3)).trans hw757_3), ((HB.out.cell (World.block_lt_of_cell? w _ hw757_4)).trans hw757_4), ((HB.out.cell (World.block_lt_of_cell? w _ hw758_0)).trans hw758_0), ((HB.out.cell (World.block_lt_of_cell? w _ hw758_1)).trans hw758_1), ((HB.out.cell (World.block_lt_of_cell? w _ hw758_2)).trans hw758_2), ((HB.out.cell (World.block_lt_of_cell? w _ hw758_3)).trans hw758_3), ((HB.out.cell (World.block_lt_of_cell? w _ hw758_4)).trans hw758_4)⟩ (fun hHeld => ?_); refine with_tabW storagebarterref35_SameList.tab6 storagebarterref35_SameList.bits6 (fun HT_ HW_ => ?_)
                generalize wr.drew = w9 at HB HR757_3 HR757_4 HR758_3 HR758_4 hx757_0 hx757_1 hx757_2 hx757_3 hx757_4 hx758_0 hx758_1 hx758_2 hx758_3 hx758_4 hHeld ⊢
                refine pure_ (i := 0) (N := some 17) (v := ?_) (a' := ?_) #[true, false, false, false, false, false, false, false, false, false] rfl rfl (any_of HT_.out (by kernel_rfl)) (fun _ _ _ h => h) (Or.inl ⟨by rfl, ?_⟩) ?_ ?_
                rotate_left
                · intro w'
                  go_simp
                  with_reducible rfl
                rotate_left
                · simp only [Act.put, List.setIfInBounds_toArray, List.set_cons_zero, List.set_cons_succ, i64_w, i32_w]
                  rfl
                refine pure_ (i := 1) (N := some 18) (v := ?_) (a' := ?_) #[true, true, false, false, false, false, false, false, false, false] rfl rfl (any_of HT_.out (by kernel_rfl)) (fun _ _ _ h => h) (Or.inl ⟨by rfl, ?_⟩) ?_ ?_
                rotate_left
                · intro w'
                  go_simp
                  with_reducible rfl
                rotate_left
                · simp only [Act.put, List.setIfInBounds_toArray, List.set_cons_zero, List.set_cons_succ, i64_w, i32_w]
                  rfl
                refine pure_ (i := 2) (N := some 19) (v := ?_) (a' := ?_) #[true, true, true, false, false, false, false, false, false, false] rfl rfl (any_of HT_.out (by kernel_rfl)) (fun _ _ _ h => h) (Or.inl ⟨by rfl, ?_⟩) ?_ ?_
                rotate_left
                · intro w'
                  go_simp
                  with_reducible rfl
                rotate_left
                · simp only [Act.put, List.setIfInBounds_toArray, List.set_cons_zero, List.set_cons_succ, i64_w, i32_w]
                  rfl
                refine pure_ (i := 4) (N := some 21) (v := ?_) (a' := ?_) #[true, true, true, false, true, false, false, false, false, false] rfl rfl (any_of HT_.out (by kernel_rfl)) (fun _ _ _ h => h) (Or.inl ⟨by rfl, ?_⟩) ?_ ?_
                rotate_left
                · intro w'
                  go_simp
                  with_reducible rfl
                rotate_left
                · simp only [Act.put, List.setIfInBounds_toArray, List.set_cons_zero, List.set_cons_succ, i64_w, i32_w]
                  rfl
                refine pure_ (i := 5) (N := some 22) (v := ?_) (a' := ?_) #[true, true, true, false, true, true, false, false, false, false] rfl rfl (any_of HT_.out (by kernel_rfl)) (fun _ _ _ h => h) (Or.inl ⟨by rfl, ?_⟩) ?_ ?_
                rotate_left
                · intro w'
                  go_simp
                  with_reducible rfl
                rotate_left
                · simp only [Act.put, List.setIfInBounds_toArray, List.set_cons_zero, List.set_cons_succ, i64_w, i32_w]
                  rfl
                refine pure_ (i := 6) (N := some 23) (v := ?_) (a' := ?_) #[true, true, true, false, true, true, true, false, false, false] rfl rfl (any_of HT_.out (by kernel_rfl)) (fun _ _ _ h => h) (Or.inl ⟨by rfl, ?_⟩) ?_ ?_
                rotate_left
                · intro w'
                  go_simp
                  with_reducible rfl
                rotate_left
                · simp only [Act.put, List.setIfInBounds_toArray, List.set_cons_zero, List.set_cons_succ, i64_w, i32_w]
                  rfl
                refine take_ (i := 3) (N := some 20) (v := ?_) (a' := ?_) #[true, true, true, true, true, true, true, false, false, false] rfl rfl (take_ofW HT_.out HW_.out (by kernel_rfl)) (fun _ _ _ h => h) (Or.inl ⟨by rfl, ?_⟩) hHeld ?_ ?_
                rotate_left
                · rintro w' ⟨s0, s1, s2, s3, s4, s5, s6, s7, s8, s9⟩
                  go_simp
                  with_reducible rfl
                rotate_left
                · simp only [Act.put, List.setIfInBounds_toArray, List.set_cons_zero, List.set_cons_succ, i64_w, i32_w]
                  rfl
                refine take_ (i := 7) (N := some 24) (v := ?_) (a' := ?_) #[true, true, true, true, true, true, true, true, false, false] rfl rfl (take_ofW HT_.out HW_.out (by kernel_rfl)) (fun _ _ _ h => h) (Or.inl ⟨by rfl, ?_⟩) hHeld ?_ ?_
                rotate_left
                · rintro w' ⟨s0, s1, s2, s3, s4, s5, s6, s7, s8, s9⟩
                  go_simp
                  with_reducible rfl
                rotate_left
                · simp only [Act.put, List.setIfInBounds_toArray, List.set_cons_zero, List.set_cons_succ, i64_w, i32_w]
                  rfl
                refine one_ (i := 8) (N := some 25) #[true, true, true, true, true, true, true, true, true, false] rfl rfl (one_of HT_.out (by kernel_rfl)) (by decide) (fun K hK => ?_)
                refine goes_ Try.func64 (by kernel_rfl) rfl #[.agg #[.int .i64 ((rd_T29 l0 x5_1).f0), .int .i64 ((rd_T29 l0 x5_1).f1), .int .i64 ((rd_T29 l0 x5_1).f2), .slice A757_3 ((rd_T29 l0 x5_1).f3).length c757_3, .slice A757_4 ((rd_T29 l0 x5_1).f4).length c757_4], .agg #[.int .i64 ((rd_T29 l1 x5_1).f0), .int .i64 ((rd_T29 l1 x5_1).f1), .int .i64 ((rd_T29 l1 x5_1).f2), .slice A758_3 ((rd_T29 l1 x5_1).f3).length c758_3, .slice A758_4 ((rd_T29 l1 x5_1).f4).length c758_4]] (by rfl) rfl rfl (by (try simp only [List.map_toArray, List.map_cons, List.map_nil]); first | done | rfl | (simp only [List.length_drop, List.length_take]; rfl)) ?_
                with_reducible refine (storagebarterref35_Same.calls k1 ((rd_T29 l0 x5_1).f0) ((rd_T29 l0 x5_1).f1) ((rd_T29 l0 x5_1).f2) _ _ ((rd_T29 l0 x5_1).f3) _ _ ((rd_T29 l0 x5_1).f4) ((rd_T29 l1 x5_1).f0) ((rd_T29 l1 x5_1).f1) ((rd_T29 l1 x5_1).f2) _ _ ((rd_T29 l1 x5_1).f3) _ _ ((rd_T29 l1 x5_1).f4) true _ ?side1 ?side2 ?side3 ?side4 ?side5 ?side6 ?side7 ?side8 A7.out).mono ?_
                (case side1 => repeat (first | exact (Kd.C_below HR757_3.out HB.out) | (with_reducible refine Kd.C_alloc ?_ _) | (with_reducible refine Kd.C_drewN ?_ _) | (with_reducible refine Kd.C_drew ?_)))
                (case side2 => exact HC757_3.out)
                (case side3 => repeat (first | exact (Kd.C_below HR757_4.out HB.out) | (with_reducible refine Kd.C_alloc ?_ _) | (with_reducible refine Kd.C_drewN ?_ _) | (with_reducible refine Kd.C_drew ?_)))
                (case side4 => exact HC757_4.out)
                (case side5 => repeat (first | exact (Kd.C_below HR758_3.out HB.out) | (with_reducible refine Kd.C_alloc ?_ _) | (with_reducible refine Kd.C_drewN ?_ _) | (with_reducible refine Kd.C_drew ?_)))
                (case side6 => exact HC758_3.out)
                (case side7 => repeat (first | exact (Kd.C_below HR758_4.out HB.out) | (with_reducible refine Kd.C_alloc ?_ _) | (with_reducible refine Kd.C_drewN ?_ _) | (with_reducible refine Kd.C_drew ?_)))
                (case side8 => exact HC758_4.out)
                rintro e w10 ⟨rfl, hb⟩
                refine ⟨_, rfl, ?_⟩
                have n0_ := Aside0.mk (below_step (by repeat (first | (with_reducible first | exact HB.out | apply below_alloc | apply pw_below_drewN | apply below_drew1) | exact HB.out)) hb)
                clear HB
                have HB := n0_
                clear n0_
                (try clear hb)
                (try clear hb2)
                (try clear hk)
                (try clear hi)
                refine hK.out _ _ ⟨((HB.out.cell (World.block_lt_of_cell? w _ hw757_0)).trans hw757_0), ((HB.out.cell (World.block_lt_of_cell? w _ hw757_1)).trans hw757_1), ((HB.out.cell (World.block_lt_of_cell? w _ hw757_2)).trans hw757_2), ((HB.out.cell (World.block_lt_of_cell? w _ hw757_3)).trans hw757_3), ((HB.out.cell (World.block_lt_of_cell? w _ hw757_4)).trans hw757_4), ((HB.out.cell (World.block_lt_of_cell? w _ hw758_0)).trans hw758_0), ((HB.out.cell (World.block_lt_of_cell? w _ hw758_1)).trans hw758_1), ((HB.out.cell (World.block_lt_of_cell? w _ hw758_2)).trans hw758_2), ((HB.out.cell (World.block_lt_of_cell? w _ hw758_3)).trans hw758_3), ((HB.out.cell (World.block_lt_of_cell? w _ hw758_4)).trans hw758_4)⟩ (fun hHeld => ?_)
                clear hK K
                refine norm_ (a' := ?_) ?_ ?_
                rotate_left
                · show Act.put _ (some 25) _ = _
                  simp only [Act.put, List.setIfInBounds_toArray, List.set_cons_zero, List.set_cons_succ, i64_w, i32_w]
                  rfl
                refine pure_ (i := 9) (N := some 26) (v := ?_) (a' := ?_) #[true, true, true, true, true, true, true, true, true, true] rfl rfl (any_of HT_.out (by kernel_rfl)) (fun _ _ _ h => h) (Or.inl ⟨by rfl, ?_⟩) ?_ ?_
                rotate_left
                · intro w'
                  go_simp
                  with_reducible rfl
                rotate_left
                · simp only [Act.put, List.setIfInBounds_toArray, List.set_cons_zero, List.set_cons_succ, i64_w, i32_w]
                  rfl
                refine done_ (done_of HT_.out (by kernel_rfl)) ?_
                try go_wp2
                go_roundg k1
                case measure => have := HK1.out; omega
                case rel => exact ⟨(wrap64 (x5_1 + 1)), (by first | rfl | (simp; done) | (simp [*]; done)), H', ⟨by have := HK1.out; omega⟩, ⟨by repeat (first | (with_reducible first | exact HB.out | apply below_alloc | apply pw_below_drewN | apply below_drew1) | exact HB.out)⟩⟩
              · replace c8 := Bool.eq_false_iff.mpr c8
                subst c8
                have H1 : (some false) = some r := by rw [if_neg (show ¬ (false = true) by decide)] at H; exact H
                clear H
                have H := H1
                clear H1
                obtain rfl := Option.some.inj H
                try go_wp2
                have n0_ := Aside0.mk (below_drew1 HB.out)
                clear HB
                have HB := n0_
                clear n0_
                have p757 : 0 ≤ (x5_1 : Int) := of_decide_eq_true (by first | (with_reducible assumption) | assumption)
                have q757 : x5_1 < (l0.length : Int) := of_decide_eq_true (by first | (with_reducible assumption) | assumption)
                obtain ⟨ad757, A757_3, c757_3, A757_4, c757_4, e757, hx757_0, hx757_1, hx757_2, hx757_3, hx757_4, hl757_3, hi757_3, hl757_4, hi757_4⟩ := at_T29 HR0.out x5_1 p757 q757
                have hw757_4 := hx757_4
                have hw757_3 := hx757_3
                have hw757_2 := hx757_2
                have hw757_1 := hx757_1
                have hw757_0 := hx757_0
                cases e757
                replace hx757_0 := (HB.out.cell (World.block_lt_of_cell? w _ hx757_0)).trans hx757_0
                replace hx757_1 := (HB.out.cell (World.block_lt_of_cell? w _ hx757_1)).trans hx757_1
                replace hx757_2 := (HB.out.cell (World.block_lt_of_cell? w _ hx757_2)).trans hx757_2
                replace hx757_3 := (HB.out.cell (World.block_lt_of_cell? w _ hx757_3)).trans hx757_3
                replace hx757_4 := (HB.out.cell (World.block_lt_of_cell? w _ hx757_4)).trans hx757_4
                have HR757_3 := Aside0.mk hi757_3
                have HC757_3 := Aside0.mk hl757_3
                clear hi757_3 hl757_3
                have HR757_4 := Aside0.mk hi757_4
                have HC757_4 := Aside0.mk hl757_4
                clear hi757_4 hl757_4
                replace p757 := eq_true p757
                replace q757 := eq_true q757
                have p758 : 0 ≤ (x5_1 : Int) := of_decide_eq_true (by first | (with_reducible assumption) | assumption)
                have q758 : x5_1 < (l1.length : Int) := of_decide_eq_true (by first | (with_reducible assumption) | assumption)
                obtain ⟨ad758, A758_3, c758_3, A758_4, c758_4, e758, hx758_0, hx758_1, hx758_2, hx758_3, hx758_4, hl758_3, hi758_3, hl758_4, hi758_4⟩ := at_T29 HR1.out x5_1 p758 q758
                have hw758_4 := hx758_4
                have hw758_3 := hx758_3
                have hw758_2 := hx758_2
                have hw758_1 := hx758_1
                have hw758_0 := hx758_0
                cases e758
                replace hx758_0 := (HB.out.cell (World.block_lt_of_cell? w _ hx758_0)).trans hx758_0
                replace hx758_1 := (HB.out.cell (World.block_lt_of_cell? w _ hx758_1)).trans hx758_1
                replace hx758_2 := (HB.out.cell (World.block_lt_of_cell? w _ hx758_2)).trans hx758_2
                replace hx758_3 := (HB.out.cell (World.block_lt_of_cell? w _ hx758_3)).trans hx758_3
                replace hx758_4 := (HB.out.cell (World.block_lt_of_cell? w _ hx758_4)).trans hx758_4
                have HR758_3 := Aside0.mk hi758_3
                have HC758_3 := Aside0.mk hl758_3
                clear hi758_3 hl758_3
                have HR758_4 := Aside0.mk hi758_4
                have HC758_4 := Aside0.mk hl758_4
                clear hi758_4 hl758_4
                replace p758 := eq_true p758
                replace q758 := eq_true q758
                refine start_ (n := 10) (S := fun w' => w'.cell? (ad757.add ((x5_1).toNat * 5)) = some (.int .i64 ((rd_T29 l0 x5_1).f0)) ∧ w'.cell? ⟨(ad757.add ((x5_1).toNat * 5)).block, (ad757.add ((x5_1).toNat * 5)).off + 1, none⟩ = some (.int .i64 ((rd_T29 l0 x5_1).f1)) ∧ w'.cell? ⟨(ad757.add ((x5_1).toNat * 5)).block, (ad757.add ((x5_1).toNat * 5)).off + 2, none⟩ = some (.int .i64 ((rd_T29 l0 x5_1).f2)) ∧ w'.cell? ⟨(ad757.add ((x5_1).toNat * 5)).block, (ad757.add ((x5_1).toNat * 5)).off + 3, none⟩ = some (.slice A757_3 ((rd_T29 l0 x5_1).f3).length c757_3) ∧ w'.cell? ⟨(ad757.add ((x5_1).toNat * 5)).block, (ad757.add ((x5_1).toNat * 5)).off + 4, none⟩ = some (.slice A757_4 ((rd_T29 l0 x5_1).f4).length c757_4) ∧ w'.cell? (ad758.add ((x5_1).toNat * 5)) = some (.int .i64 ((rd_T29 l1 x5_1).f0)) ∧ w'.cell? ⟨(ad758.add ((x5_1).toNat * 5)).block, (ad758.add ((x5_1).toNat * 5)).off + 1, none⟩ = some (.int .i64 ((rd_T29 l1 x5_1).f1)) ∧ w'.cell? ⟨(ad758.add ((x5_1).toNat * 5)).block, (ad758.add ((x5_1).toNat * 5)).off + 2, none⟩ = some (.int .i64 ((rd_T29 l1 x5_1).f2)) ∧ w'.cell? ⟨(ad758.add ((x5_1).toNat * 5)).block, (ad758.add ((x5_1).toNat * 5)).off + 3, none⟩ = some (.slice A758_3 ((rd_T29 l1 x5_1).f3).length c758_3) ∧ w'.cell? ⟨(ad758.add ((x5_1).toNat * 5)).block, (ad758.add ((x5_1).toNat * 5)).off + 4, none⟩ = some (.slice A758_4 ((rd_T29 l1 x5_1).f4).length c758_4)) (ds := []) #[false, false, false, false, false, false, false, false, false, false] (by kernel_rfl) rfl rfl ⟨((HB.out.cell (World.block_lt_of_cell? w _ hw757_0)).trans hw757_0), ((HB.out.cell (World.block_lt_of_cell? w _ hw757_1)).trans hw757_1), ((HB.out.cell (World.block_lt_of_cell? w _ hw757_2)).trans hw757_2), ((HB.out.cell (World.block_lt_of_cell? w _ hw757_3)).trans hw757_3), ((HB.out.cell (World.block_lt_of_cell? w _ hw757_4)).trans hw757_4), ((HB.out.cell (World.block_lt_of_cell? w _ hw758_0)).trans hw758_0), ((HB.out.cell (World.block_lt_of_cell? w _ hw758_1)).trans hw758_1), ((HB.out.cell (World.block_lt_of_cell? w _ hw758_2)).trans hw758_2), ((HB.out.cell (World.block_lt_of_cell? w _ hw758_3)).trans hw758_3), ((HB.out.cell (World.block_lt_of_cell? w _ hw758_4)).trans hw758_4)⟩ (fun hHeld => ?_); refine with_tabW storagebarterref35_SameList.tab6 storagebarterref35_SameList.bits6 (fun HT_ HW_ => ?_)
                generalize wr.drew = w11 at HB HR757_3 HR757_4 HR758_3 HR758_4 hx757_0 hx757_1 hx757_2 hx757_3 hx757_4 hx758_0 hx758_1 hx758_2 hx758_3 hx758_4 hHeld ⊢
                refine pure_ (i := 0) (N := some 17) (v := ?_) (a' := ?_) #[true, false, false, false, false, false, false, false, false, false] rfl rfl (any_of HT_.out (by kernel_rfl)) (fun _ _ _ h => h) (Or.inl ⟨by rfl, ?_⟩) ?_ ?_
                rotate_left
                · intro w'
                  go_simp
                  with_reducible rfl
                rotate_left
                · simp only [Act.put, List.setIfInBounds_toArray, List.set_cons_zero, List.set_cons_succ, i64_w, i32_w]
                  rfl
                refine pure_ (i := 1) (N := some 18) (v := ?_) (a' := ?_) #[true, true, false, false, false, false, false, false, false, false] rfl rfl (any_of HT_.out (by kernel_rfl)) (fun _ _ _ h => h) (Or.inl ⟨by rfl, ?_⟩) ?_ ?_
                rotate_left
                · intro w'
                  go_simp
                  with_reducible rfl
                rotate_left
                · simp only [Act.put, List.setIfInBounds_toArray, List.set_cons_zero, List.set_cons_succ, i64_w, i32_w]
                  rfl
                refine pure_ (i := 2) (N := some 19) (v := ?_) (a' := ?_) #[true, true, true, false, false, false, false, false, false, false] rfl rfl (any_of HT_.out (by kernel_rfl)) (fun _ _ _ h => h) (Or.inl ⟨by rfl, ?_⟩) ?_ ?_
                rotate_left
                · intro w'
                  go_simp
                  with_reducible rfl
                rotate_left
                · simp only [Act.put, List.setIfInBounds_toArray, List.set_cons_zero, List.set_cons_succ, i64_w, i32_w]
                  rfl
                refine pure_ (i := 4) (N := some 21) (v := ?_) (a' := ?_) #[true, true, true, false, true, false, false, false, false, false] rfl rfl (any_of HT_.out (by kernel_rfl)) (fun _ _ _ h => h) (Or.inl ⟨by rfl, ?_⟩) ?_ ?_
                rotate_left
                · intro w'
                  go_simp
                  with_reducible rfl
                rotate_left
                · simp only [Act.put, List.setIfInBounds_toArray, List.set_cons_zero, List.set_cons_succ, i64_w, i32_w]
                  rfl
                refine pure_ (i := 5) (N := some 22) (v := ?_) (a' := ?_) #[true, true, true, false, true, true, false, false, false, false] rfl rfl (any_of HT_.out (by kernel_rfl)) (fun _ _ _ h => h) (Or.inl ⟨by rfl, ?_⟩) ?_ ?_
                rotate_left
                · intro w'
                  go_simp
                  with_reducible rfl
                rotate_left
                · simp only [Act.put, List.setIfInBounds_toArray, List.set_cons_zero, List.set_cons_succ, i64_w, i32_w]
                  rfl
                refine pure_ (i := 6) (N := some 23) (v := ?_) (a' := ?_) #[true, true, true, false, true, true, true, false, false, false] rfl rfl (any_of HT_.out (by kernel_rfl)) (fun _ _ _ h => h) (Or.inl ⟨by rfl, ?_⟩) ?_ ?_
                rotate_left
                · intro w'
                  go_simp
                  with_reducible rfl
                rotate_left
                · simp only [Act.put, List.setIfInBounds_toArray, List.set_cons_zero, List.set_cons_succ, i64_w, i32_w]
                  rfl
                refine take_ (i := 3) (N := some 20) (v := ?_) (a' := ?_) #[true, true, true, true, true, true, true, false, false, false] rfl rfl (take_ofW HT_.out HW_.out (by kernel_rfl)) (fun _ _ _ h => h) (Or.inl ⟨by rfl, ?_⟩) hHeld ?_ ?_
                rotate_left
                · rintro w' ⟨s0, s1, s2, s3, s4, s5, s6, s7, s8, s9⟩
                  go_simp
                  with_reducible rfl
                rotate_left
                · simp only [Act.put, List.setIfInBounds_toArray, List.set_cons_zero, List.set_cons_succ, i64_w, i32_w]
                  rfl
                refine take_ (i := 7) (N := some 24) (v := ?_) (a' := ?_) #[true, true, true, true, true, true, true, true, false, false] rfl rfl (take_ofW HT_.out HW_.out (by kernel_rfl)) (fun _ _ _ h => h) (Or.inl ⟨by rfl, ?_⟩) hHeld ?_ ?_
                rotate_left
                · rintro w' ⟨s0, s1, s2, s3, s4, s5, s6, s7, s8, s9⟩
                  go_simp
                  with_reducible rfl
                rotate_left
                · simp only [Act.put, List.setIfInBounds_toArray, List.set_cons_zero, List.set_cons_succ, i64_w, i32_w]
                  rfl
                refine one_ (i := 8) (N := some 25) #[true, true, true, true, true, true, true, true, true, false] rfl rfl (one_of HT_.out (by kernel_rfl)) (by decide) (fun K hK => ?_)
                refine goes_ Try.func64 (by kernel_rfl) rfl #[.agg #[.int .i64 ((rd_T29 l0 x5_1).f0), .int .i64 ((rd_T29 l0 x5_1).f1), .int .i64 ((rd_T29 l0 x5_1).f2), .slice A757_3 ((rd_T29 l0 x5_1).f3).length c757_3, .slice A757_4 ((rd_T29 l0 x5_1).f4).length c757_4], .agg #[.int .i64 ((rd_T29 l1 x5_1).f0), .int .i64 ((rd_T29 l1 x5_1).f1), .int .i64 ((rd_T29 l1 x5_1).f2), .slice A758_3 ((rd_T29 l1 x5_1).f3).length c758_3, .slice A758_4 ((rd_T29 l1 x5_1).f4).length c758_4]] (by rfl) rfl rfl (by (try simp only [List.map_toArray, List.map_cons, List.map_nil]); first | done | rfl | (simp only [List.length_drop, List.length_take]; rfl)) ?_
                with_reducible refine (storagebarterref35_Same.calls k1 ((rd_T29 l0 x5_1).f0) ((rd_T29 l0 x5_1).f1) ((rd_T29 l0 x5_1).f2) _ _ ((rd_T29 l0 x5_1).f3) _ _ ((rd_T29 l0 x5_1).f4) ((rd_T29 l1 x5_1).f0) ((rd_T29 l1 x5_1).f1) ((rd_T29 l1 x5_1).f2) _ _ ((rd_T29 l1 x5_1).f3) _ _ ((rd_T29 l1 x5_1).f4) false _ ?side1 ?side2 ?side3 ?side4 ?side5 ?side6 ?side7 ?side8 A7.out).mono ?_
                (case side1 => repeat (first | exact (Kd.C_below HR757_3.out HB.out) | (with_reducible refine Kd.C_alloc ?_ _) | (with_reducible refine Kd.C_drewN ?_ _) | (with_reducible refine Kd.C_drew ?_)))
                (case side2 => exact HC757_3.out)
                (case side3 => repeat (first | exact (Kd.C_below HR757_4.out HB.out) | (with_reducible refine Kd.C_alloc ?_ _) | (with_reducible refine Kd.C_drewN ?_ _) | (with_reducible refine Kd.C_drew ?_)))
                (case side4 => exact HC757_4.out)
                (case side5 => repeat (first | exact (Kd.C_below HR758_3.out HB.out) | (with_reducible refine Kd.C_alloc ?_ _) | (with_reducible refine Kd.C_drewN ?_ _) | (with_reducible refine Kd.C_drew ?_)))
                (case side6 => exact HC758_3.out)
                (case side7 => repeat (first | exact (Kd.C_below HR758_4.out HB.out) | (with_reducible refine Kd.C_alloc ?_ _) | (with_reducible refine Kd.C_drewN ?_ _) | (with_reducible refine Kd.C_drew ?_)))
                (case side8 => exact HC758_4.out)
                rintro e w12 ⟨rfl, hb⟩
                refine ⟨_, rfl, ?_⟩
                have n0_ := Aside0.mk (below_step (by repeat (first | (with_reducible first | exact HB.out | apply below_alloc | apply pw_below_drewN | apply below_drew1) | exact HB.out)) hb)
                clear HB
                have HB := n0_
                clear n0_
                (try clear hb)
                (try clear hb2)
                (try clear hk)
                (try clear hi)
                refine hK.out _ _ ⟨((HB.out.cell (World.block_lt_of_cell? w _ hw757_0)).trans hw757_0), ((HB.out.cell (World.block_lt_of_cell? w _ hw757_1)).trans hw757_1), ((HB.out.cell (World.block_lt_of_cell? w _ hw757_2)).trans hw757_2), ((HB.out.cell (World.block_lt_of_cell? w _ hw757_3)).trans hw757_3), ((HB.out.cell (World.block_lt_of_cell? w _ hw757_4)).trans hw757_4), ((HB.out.cell (World.block_lt_of_cell? w _ hw758_0)).trans hw758_0), ((HB.out.cell (World.block_lt_of_cell? w _ hw758_1)).trans hw758_1), ((HB.out.cell (World.block_lt_of_cell? w _ hw758_2)).trans hw758_2), ((HB.out.cell (World.block_lt_of_cell? w _ hw758_3)).trans hw758_3), ((HB.out.cell (World.block_lt_of_cell? w _ hw758_4)).trans hw758_4)⟩ (fun hHeld => ?_)
                clear hK K
                refine norm_ (a' := ?_) ?_ ?_
                rotate_left
                · show Act.put _ (some 25) _ = _
                  simp only [Act.put, List.setIfInBounds_toArray, List.set_cons_zero, List.set_cons_succ, i64_w, i32_w]
                  rfl
                refine pure_ (i := 9) (N := some 26) (v := ?_) (a' := ?_) #[true, true, true, true, true, true, true, true, true, true] rfl rfl (any_of HT_.out (by kernel_rfl)) (fun _ _ _ h => h) (Or.inl ⟨by rfl, ?_⟩) ?_ ?_
                rotate_left
                · intro w'
                  go_simp
                  with_reducible rfl
                rotate_left
                · simp only [Act.put, List.setIfInBounds_toArray, List.set_cons_zero, List.set_cons_succ, i64_w, i32_w]
                  rfl
                refine done_ (done_of HT_.out (by kernel_rfl)) ?_
                try go_wp2
                go_ret
                exact ⟨by first | rfl | (simp [errW_none, errW_some] <;> rfl) | (simp [*, errW_none, errW_some] <;> rfl), by repeat (first | (with_reducible first | exact HB.out | apply below_alloc | apply pw_below_drewN | apply below_drew1) | exact HB.out)⟩
            · rw [if_neg c6] at H
              exact absurd H (by simp)
          · rw [if_neg c5] at H
            exact absurd H (by simp)
        · rw [if_neg c4] at H
          have c4b0 : decide (x5_1 < (l0.length : Int)) = false := decide_eq_false c4
          clear c4
          obtain rfl := Option.some.inj H
          go_wp2
          go_ret
          exact ⟨by first | rfl | (simp [errW_none, errW_some] <;> rfl) | (simp [*, errW_none, errW_some] <;> rfl), by repeat (first | (with_reducible first | exact HB.out | apply below_alloc | apply pw_below_drewN | apply below_drew1) | exact HB.out)⟩
  · rw [if_neg c3] at H
    have c3b0 : ((l0.length : Int) == (l1.length : Int)) = false := beq_eq_false_iff_ne.mpr c3
    have c3b1 : ((l0.length : Int) != (l1.length : Int)) = true := bne_iff_ne.mpr c3
    have c3b2 : (l0.length == l1.length) = false := by first | simpa using c3 | (simp at c3 ⊢; omega)
    obtain rfl := Option.some.inj H
    go_enter Try.func29, Try.ntmps29
    go_wp2
    go_ret
    exact ⟨by first | rfl | (simp [errW_none, errW_some] <;> rfl) | (simp [*, errW_none, errW_some] <;> rfl), by repeat (first | (with_reducible first | exact HB.out | apply below_alloc | apply pw_below_drewN | apply below_drew1) | exact HB.out)⟩

end Go.Proofs.Ytlkgmfhgnfgmiaa.Q

namespace Go.Proofs.Ytlkgmfhgnfgmiaa.Q
open Go.RowKit Go.Proofs.YtlkgmfhgnfgmiaaW.PrintWords Go.Proofs.YtlkgmfhgnfgmiaaW.PrintLast Go.Proofs.YtlkgmfhgnfgmiaaW.PrintMore
attribute [local go_sem] max2_int min2_int max_two min_two max_three min_three max_four min_four   -- for this text's walks alone
set_option linter.unusedVariables false
set_option linter.unusedSimpArgs false

/-! ### storagebarterlaw39_PruneTwice: function 7 -/
def storagebarterlaw39_PruneTwice.f (k : Nat) (l0 : List Int) (a1 : Int) : Option (Bool) := (storagebarterlaw39_sane.f k).bind fun t760 => (if t760 = true then ((storagebarterplay_New.f l0).bind fun bt761 => ((storagebarterlaw39_made.f k bt761.1 bt761.2).bind fun bt764 => ((storagebarterplay_Dice_Pick.f bt761.1 bt764.2.2 3).bind fun bt771 => ((prune_Drop.f k bt764.1 (wrap64 (1 + bt771.1)) (wrap64 (1 + (Int.tmod (wrap64 (a1)) 4)))).bind fun bt773 => ((prune_Drop.f k bt773.1 (wrap64 (1 + bt771.1)) (wrap64 (1 + (Int.tmod (wrap64 (a1)) 4)))).bind fun bt779 => ((prune_Drop.f k bt764.1 (wrap64 (1 + bt771.1)) (wrap64 ((wrap64 (1 + (Int.tmod (wrap64 (a1)) 4))) - 1))).bind fun bt785 => ((storagebarterref35_SameList.f k bt773.1 bt779.1).bind fun t791 => (if t791 = true then (if (bt779.2.length : Int) = 0 then (some (decide ((bt785.2.length : Int) ≥ (bt773.2.length : Int)))) else (some false)) else (some false))))))))) else (some false))
theorem storagebarterlaw39_PruneTwice.mono : ∀ a0 a1 k, LeO (storagebarterlaw39_PruneTwice.f k a0 a1) (storagebarterlaw39_PruneTwice.f (k + 1) a0 a1) := by
  intro a0 a1 k
  unfold storagebarterlaw39_PruneTwice.f
  repeat' first
      | (with_reducible exact prune_Drop.mono _ _ _ _)
      | (with_reducible exact storagebarterlaw39_made.mono _ _ _)
      | (with_reducible exact storagebarterlaw39_sane.mono _)
      | (with_reducible exact storagebarterref35_SameList.mono _ _ _)
      | (with_reducible exact LeO.refl _)
      | (with_reducible exact LeO.none _)
      | (with_reducible refine LeO.ite ?_ ?_)
      | (with_reducible refine LeO.bind ?_ (fun _ => ?_))
      | exact prune_Drop.mono _ _ _ _
      | exact storagebarterlaw39_made.mono _ _ _
      | exact storagebarterlaw39_sane.mono _
      | exact storagebarterref35_SameList.mono _ _ _
      | exact LeO.none _
      | refine LeO.ite ?_ ?_
      | refine LeO.bind ?_ (fun _ => ?_)
set_option maxHeartbeats 8000000 in
set_option maxRecDepth 100000 in
theorem storagebarterlaw39_PruneTwice.calls (k : Nat) (A0 : Option Addr) (c0 : Nat) (l0 : List Int) (a1 : Int) (r : Bool) (w : World) (hr0 : Kd.C (Kd.int .u8) w A0 l0.length l0) (hc0 : l0.length ≤ c0) (h : storagebarterlaw39_PruneTwice.f k l0 a1 = some r) (hrt : r = true) :
    Calls Try.prog 7 #[.slice A0 l0.length c0, .int .u8 a1] w fun e w' => e = .returned (.bool r) ∧ Below w.heap.size w w' := by
  have HR0 := Aside0.mk hr0
  have HC0 := Aside0.mk hc0
  clear hr0 hc0
  have HB := Aside0.mk (Below.refl w.heap.size w)
  have H : ((storagebarterlaw39_sane.f k).bind fun t760 => (if t760 = true then ((storagebarterplay_New.f l0).bind fun bt761 => ((storagebarterlaw39_made.f k bt761.1 bt761.2).bind fun bt764 => ((storagebarterplay_Dice_Pick.f bt761.1 bt764.2.2 3).bind fun bt771 => ((prune_Drop.f k bt764.1 (wrap64 (1 + bt771.1)) (wrap64 (1 + (Int.tmod (wrap64 (a1)) 4)))).bind fun bt773 => ((prune_Drop.f k bt773.1 (wrap64 (1 + bt771.1)) (wrap64 (1 + (Int.tmod (wrap64 (a1)) 4)))).bind fun bt779 => ((prune_Drop.f k bt764.1 (wrap64 (1 + bt771.1)) (wrap64 ((wrap64 (1 + (Int.tmod (wrap64 (a1)) 4))) - 1))).bind fun bt785 => ((storagebarterref35_SameList.f k bt773.1 bt779.1).bind fun t791 => (if t791 = true then (if (bt779.2.length : Int) = 0 then (some (decide ((bt785.2.length : Int) ≥ (bt773.2.length : Int)))) else (some false)) else (some false))))))))) else (some false))) = some r := h
  clear h
  have RT_ := Aside0.mk hrt
  clear hrt
  replace H := Option.bind_eq_some_iff.mp H
  obtain ⟨t760, A30, H⟩ := H
  replace H : (if t760 = true then ((storagebarterplay_New.f l0).bind fun bt761 => ((storagebarterlaw39_made.f k bt761.1 bt761.2).bind fun bt764 => ((storagebarterplay_Dice_Pick.f bt761.1 bt764.2.2 3).bind fun bt771 => ((prune_Drop.f k bt764.1 (wrap64 (1 + bt771.1)) (wrap64 (1 + (Int.tmod (wrap64 (a1)) 4)))).bind fun bt773 => ((prune_Drop.f k bt773.1 (wrap64 (1 + bt771.1)) (wrap64 (1 + (Int.tmod (wrap64 (a1)) 4)))).bind fun bt779 => ((prune_Drop.f k bt764.1 (wrap64 (1 + bt771.1)) (wrap64 ((wrap64 (1 + (Int.tmod (wrap64 (a1)) 4))) - 1))).bind fun bt785 => ((storagebarterref35_SameList.f k bt773.1 bt779.1).bind fun t791 => (if t791 = true then (if (bt779.2.length : Int) = 0 then (some (decide ((bt785.2.length : Int) ≥ (bt773.2.length : Int)))) else (some false)) else (some false))))))))) else (some false)) = some r := H
  have A3 := Aside0.mk A30
  clear A30
  by_cases c4 : t760 = true
  · subst c4
    have H1 : ((storagebarterplay_New.f l0).bind fun bt761 => ((storagebarterlaw39_made.f k bt761.1 bt761.2).bind fun bt764 => ((storagebarterplay_Dice_Pick.f bt761.1 bt764.2.2 3).bind fun bt771 => ((prune_Drop.f k bt764.1 (wrap64 (1 + bt771.1)) (wrap64 (1 + (Int.tmod (wrap64 (a1)) 4)))).bind fun bt773 => ((prune_Drop.f k bt773.1 (wrap64 (1 + bt771.1)) (wrap64 (1 + (Int.tmod (wrap64 (a1)) 4)))).bind fun bt779 => ((prune_Drop.f k bt764.1 (wrap64 (1 + bt771.1)) (wrap64 ((wrap64 (1 + (Int.tmod (wrap64 (a1)) 4))) - 1))).bind fun bt785 => ((storagebarterref35_SameList.f k bt773.1 bt779.1).bind fun t791 => (if t791 = true then (if (bt779.2.length : Int) = 0 then (some (decide ((bt785.2.length : Int) ≥ (bt773.2.length : Int)))) else (some false)) else (some false))))))))) = some r := by rw [if_pos rfl] at H; exact H
    clear H
    have H := H1
    clear H1
    replace H := Option.bind_eq_some_iff.mp H
    obtain ⟨⟨t761, t762⟩, A50, H⟩ := H
    replace H : ((storagebarterlaw39_made.f k t761 t762).bind fun bt764 => ((storagebarterplay_Dice_Pick.f t761 bt764.2.2 3).bind fun bt771 => ((prune_Drop.f k bt764.1 (wrap64 (1 + bt771.1)) (wrap64 (1 + (Int.tmod (wrap64 (a1)) 4)))).bind fun bt773 => ((prune_Drop.f k bt773.1 (wrap64 (1 + bt771.1)) (wrap64 (1 + (Int.tmod (wrap64 (a1)) 4)))).bind fun bt779 => ((prune_Drop.f k bt764.1 (wrap64 (1 + bt771.1)) (wrap64 ((wrap64 (1 + (Int.tmod (wrap64 (a1)) 4))) - 1))).bind fun bt785 => ((storagebarterref35_SameList.f k bt773.1 bt779.1).bind fun t791 => (if t791 = true then (if (bt779.2.length : Int) = 0 then (some (decide ((bt785.2.length : Int) ≥ (bt773.2.length : Int)))) else (some false)) else (some false)))))))) = some r := H
    have A5 := Aside0.mk A50
    clear A50
    replace H := Option.bind_eq_some_iff.mp H
    obtain ⟨⟨t764, t767, t770⟩, A60, H⟩ := H
    replace H : ((storagebarterplay_Dice_Pick.f t761 t770 3).bind fun bt771 => ((prune_Drop.f k t764 (wrap64 (1 + bt771.1)) (wrap64 (1 + (Int.tmod (wrap64 (a1)) 4)))).bind fun bt773 => ((prune_Drop.f k bt773.1 (wrap64 (1 + bt771.1)) (wrap64 (1 + (Int.tmod (wrap64 (a1)) 4)))).bind fun bt779 => ((prune_Drop.f k t764 (wrap64 (1 + bt771.1)) (wrap64 ((wrap64 (1 + (Int.tmod (wrap64 (a1)) 4))) - 1))).bind fun bt785 => ((storagebarterref35_SameList.f k bt773.1 bt779.1).bind fun t791 => (if t791 = true then (if (bt779.2.length : Int) = 0 then (some (decide ((bt785.2.length : Int) ≥ (bt773.2.length : Int)))) else (some false)) else (some false))))))) = some r := H
    have A6 := Aside0.mk A60
    clear A60
    replace H := Option.bind_eq_some_iff.mp H
    obtain ⟨⟨t771, t772⟩, A70, H⟩ := H
    replace H : ((prune_Drop.f k t764 (wrap64 (1 + t771)) (wrap64 (1 + (Int.tmod (wrap64 (a1)) 4)))).bind fun bt773 => ((prune_Drop.f k bt773.1 (wrap64 (1 + t771)) (wrap64 (1 + (Int.tmod (wrap64 (a1)) 4)))).bind fun bt779 => ((prune_Drop.f k t764 (wrap64 (1 + t771)) (wrap64 ((wrap64 (1 + (Int.tmod (wrap64 (a1)) 4))) - 1))).bind fun bt785 => ((storagebarterref35_SameList.f k bt773.1 bt779.1).bind fun t791 => (if t791 = true then (if (bt779.2.length : Int) = 0 then (some (decide ((bt785.2.length : Int) ≥ (bt773.2.length : Int)))) else (some false)) else (some false)))))) = some r := H
    have A7 := Aside0.mk A70
    clear A70
    replace H := Option.bind_eq_some_iff.mp H
    obtain ⟨⟨t773, t774⟩, A80, H⟩ := H
    replace H : ((prune_Drop.f k t773 (wrap64 (1 + t771)) (wrap64 (1 + (Int.tmod (wrap64 (a1)) 4)))).bind fun bt779 => ((prune_Drop.f k t764 (wrap64 (1 + t771)) (wrap64 ((wrap64 (1 + (Int.tmod (wrap64 (a1)) 4))) - 1))).bind fun bt785 => ((storagebarterref35_SameList.f k t773 bt779.1).bind fun t791 => (if t791 = true then (if (bt779.2.length : Int) = 0 then (some (decide ((bt785.2.length : Int) ≥ (t774.length : Int)))) else (some false)) else (some false))))) = some r := H
    have A8 := Aside0.mk A80
    clear A80
    replace H := Option.bind_eq_some_iff.mp H
    obtain ⟨⟨t779, t780⟩, A90, H⟩ := H
    replace H : ((prune_Drop.f k t764 (wrap64 (1 + t771)) (wrap64 ((wrap64 (1 + (Int.tmod (wrap64 (a1)) 4))) - 1))).bind fun bt785 => ((storagebarterref35_SameList.f k t773 t779).bind fun t791 => (if t791 = true then (if (t780.length : Int) = 0 then (some (decide ((bt785.2.length : Int) ≥ (t774.length : Int)))) else (some false)) else (some false)))) = some r := H
    have A9 := Aside0.mk A90
    clear A90
    replace H := Option.bind_eq_some_iff.mp H
    obtain ⟨⟨t785, t786⟩, A100, H⟩ := H
    replace H : ((storagebarterref35_SameList.f k t773 t779).bind fun t791 => (if t791 = true then (if (t780.length : Int) = 0 then (some (decide ((t786.length : Int) ≥ (t774.length : Int)))) else (some false)) else (some false))) = some r := H
    have A10 := Aside0.mk A100
    clear A100
    replace H := Option.bind_eq_some_iff.mp H
    obtain ⟨t791, A110, H⟩ := H
    replace H : (if t791 = true then (if (t780.length : Int) = 0 then (some (decide ((t786.length : Int) ≥ (t774.length : Int)))) else (some false)) else (some false)) = some r := H
    have A11 := Aside0.mk A110
    clear A110
    by_cases c12 : t791 = true
    · subst c12
      have H1 : (if (t780.length : Int) = 0 then (some (decide ((t786.length : Int) ≥ (t774.length : Int)))) else (some false)) = some r := by rw [if_pos rfl] at H; exact H
      clear H
      have H := H1
      clear H1
      by_cases c13 : (t780.length : Int) = 0
      · rw [if_pos c13] at H
        have c13b0 : ((t780.length : Int) == 0) = true := beq_iff_eq.mpr c13
        have c13b1 : ((t780.length : Int) != 0) = false := bne_eq_false_iff_eq.mpr c13
        clear c13
        obtain rfl := Option.some.inj H
        go_enter Try.func7, Try.ntmps7
        go_wp2_with (first | ((with_reducible refine gate_callee (f := 23) rfl ?_); refine goesL_ (some 16) rfl rfl Try.func23 (by kernel_rfl) rfl #[] rfl (by (try simp only [List.map_toArray, List.map_cons, List.map_nil]); first | done | rfl | (simp only [List.length_drop, List.length_take]; rfl)) ?_; (with_reducible refine (storagebarterlaw39_sane.calls k  true _ A3.out).mono ?_); rintro e w14 ⟨rfl, hb⟩; refine ⟨_, rfl, ?_⟩; have n0_ := Aside0.mk (below_step (by repeat (first | (with_reducible first | exact HB.out | apply below_alloc | apply pw_below_drewN | apply below_drew1) | exact HB.out)) hb); clear HB; have HB := n0_; clear n0_; (try clear hb); (try clear hb2); (try clear hk); (try clear hi)) | ((with_reducible refine gate_callee (f := 12) rfl ?_); refine goesL_ (some 19) rfl rfl Try.func12 (by kernel_rfl) rfl #[.slice A0 l0.length c0] rfl (by (try simp only [List.map_toArray, List.map_cons, List.map_nil]); first | done | rfl | (simp only [List.length_drop, List.length_take]; rfl)) ?_; (with_reducible refine (storagebarterplay_New.calls _ _ l0 t761 t762 w _ ?side1 ?side2 ?side3 A5.out).mono ?_); (case side1 => repeat (first | (with_reducible first | exact HB.out | apply below_alloc | apply pw_below_drewN | apply below_drew1) | exact HB.out)); (case side2 => exact HR0.out); (case side3 => exact HC0.out); rintro e w15 ⟨g763, rfl, hi, hb, hb2⟩; refine ⟨_, rfl, ?_⟩; have n0_ := Aside0.mk (hb); have n1_ := Aside0.mk (hi); clear HB; have HB := n0_; have HI763 := n1_; clear n0_ n1_; (try clear hb); (try clear hb2); (try clear hk); (try clear hi)) | ((with_reducible refine gate_callee (f := 24) rfl ?_); refine goesL_ (some 22) rfl rfl Try.func24 (by kernel_rfl) rfl #[.pointer (some ⟨g763, 0, none⟩)] rfl (by (try simp only [List.map_toArray, List.map_cons, List.map_nil]); first | done | rfl | (simp only [List.length_drop, List.length_take]; rfl)) ?_; (with_reducible refine (storagebarterlaw39_made.calls k g763 t761 t762 t764 t767 t770 w _ ?side1 ?side2 A6.out).mono ?_); (case side1 => repeat (first | (with_reducible first | exact HI763.out | apply IsS86.alloc | apply IsS86.drewN | apply IsS86.drew | apply IsS86.set_1) | exact HI763.out)); (case side2 => repeat (first | (with_reducible first | exact HB.out | apply below_alloc | apply pw_below_drewN | apply below_drew1 | refine below_set ?_ (IsS86.ge HI763.out)) | exact HB.out)); rintro e w16 ⟨v765, v768, rfl, ho0, ho1, hi, hb, hk⟩; refine ⟨_, rfl, ?_⟩; have n0_ := Aside0.mk (Kd.R_lower ho0 (below_size (by repeat (first | (with_reducible first | exact HB.out | apply below_alloc | apply pw_below_drewN | apply below_drew1 | refine below_set ?_ (IsS86.ge HI763.out)) | exact HB.out)))); have n1_ := Aside0.mk (Kd.R_lower ho1 (below_size (by repeat (first | (with_reducible first | exact HB.out | apply below_alloc | apply pw_below_drewN | apply below_drew1 | refine below_set ?_ (IsS86.ge HI763.out)) | exact HB.out)))); have n2_ := Aside0.mk (hb); have n3_ := Aside0.mk (hi); clear HB; clear HI763; have HO766 := n0_; have HO769 := n1_; have HB := n2_; have HI763 := n3_; clear n0_ n1_ n2_ n3_; (try clear hb); (try clear hb2); (try clear hk); (try clear hi); (try clear ho0); (try clear ho1)) | ((with_reducible refine gate_callee (f := 14) rfl ?_); refine goesL_ (some 26) rfl rfl Try.func14 (by kernel_rfl) rfl #[.pointer (some ⟨g763, 0, none⟩), .int .i64 3] rfl (by (try simp only [List.map_toArray, List.map_cons, List.map_nil]); first | done | rfl | (simp only [List.length_drop, List.length_take]; rfl)) ?_; (with_reducible refine (storagebarterplay_Dice_Pick.calls g763 t761 t770 3 t771 t772 w _ ?side1 ?side2 A7.out).mono ?_); (case side1 => repeat (first | (with_reducible first | exact HI763.out | apply IsS86.alloc | apply IsS86.drewN | apply IsS86.drew | apply IsS86.set_1) | exact HI763.out)); (case side2 => repeat (first | (with_reducible first | exact HB.out | apply below_alloc | apply pw_below_drewN | apply below_drew1 | refine below_set ?_ (IsS86.ge HI763.out)) | exact HB.out)); rintro e w17 ⟨rfl, hi, hb, hk⟩; refine ⟨_, rfl, ?_⟩; have n0_ := Aside0.mk (Kd.R_mono (Kd.R_keep (IsS86.apart (show IsS86 w _ g763 t761 t770 from by repeat (first | (with_reducible first | exact HI763.out | apply IsS86.alloc | apply IsS86.drewN | apply IsS86.drew | apply IsS86.set_1) | exact HI763.out)) (by (with_reducible repeat (first | apply Kd.R_alloc | apply Kd.R_drewN | apply Kd.R_drew)); exact HO766.out) (by decide)) hk (fun _ h => h.2)) (fun _ h => h.1)); have n1_ := Aside0.mk (Kd.R_mono (Kd.R_keep (IsS86.apart (show IsS86 w _ g763 t761 t770 from by repeat (first | (with_reducible first | exact HI763.out | apply IsS86.alloc | apply IsS86.drewN | apply IsS86.drew | apply IsS86.set_1) | exact HI763.out)) (by (with_reducible repeat (first | apply Kd.R_alloc | apply Kd.R_drewN | apply Kd.R_drew)); exact HO769.out) (by decide)) hk (fun _ h => h.2)) (fun _ h => h.1)); have n2_ := Aside0.mk (hb); have n3_ := Aside0.mk (hi); clear HO766; clear HO769; clear HB; clear HI763; have HO766 := n0_; have HO769 := n1_; have HB := n2_; have HI763 := n3_; clear n0_ n1_ n2_ n3_; (try clear hb); (try clear hb2); (try clear hk); (try clear hi); obtain ⟨Ao18, co18, eo18⟩ := Kd.R_slice HO766.out; subst eo18) | ((with_reducible refine gate_callee (f := 25) rfl ?_); refine goesL_ (some 36) rfl rfl Try.func25 (by kernel_rfl) rfl #[.slice Ao18 t764.length co18, .int .i64 (wrap64 (1 + t771)), .int .i64 (wrap64 (1 + (Int.tmod (wrap64 (a1)) 4)))] rfl (by (try simp only [List.map_toArray, List.map_cons, List.map_nil]); first | done | rfl | (simp only [List.length_drop, List.length_take]; rfl)) ?_; (with_reducible refine (prune_Drop.calls k _ _ t764 (wrap64 (1 + t771)) (wrap64 (1 + (Int.tmod (wrap64 (a1)) 4))) t773 t774 _ ?side1 ?side2 A8.out).mono ?_); (case side1 => repeat (first | exact (Kd.R_reads' HO766.out).2.2 | (with_reducible refine Kd.C_alloc ?_ _) | (with_reducible refine Kd.C_drewN ?_ _) | (with_reducible refine Kd.C_drew ?_))); (case side2 => exact (Kd.R_reads' HO766.out).2.1); rintro e w19 ⟨v775, v777, rfl, ho0, ho1, hb⟩; refine ⟨_, rfl, ?_⟩; have n0_ := Aside0.mk (Kd.R_mono (Kd.R_told (Kd.R_told (Kd.R_old (by (with_reducible repeat (first | apply Kd.R_alloc | apply Kd.R_drewN | apply Kd.R_drew)); exact HO766.out) hb) (Kd.R_base ho0)) (Kd.R_base ho1)) (fun _ h_ => h_.1)); have n1_ := Aside0.mk (Kd.R_below (by (with_reducible repeat (first | apply Kd.R_alloc | apply Kd.R_drewN | apply Kd.R_drew)); exact HO769.out) hb); have n2_ := Aside0.mk (Kd.R_lower (Kd.R_new' ho0 (Kd.R_lt (by (with_reducible repeat (first | apply Kd.R_alloc | apply Kd.R_drewN | apply Kd.R_drew)); exact HO766.out))) (below_size (by repeat (first | (with_reducible first | exact HB.out | apply below_alloc | apply pw_below_drewN | apply below_drew1 | refine below_set ?_ (IsS86.ge HI763.out)) | exact HB.out)))); have n3_ := Aside0.mk (Kd.R_lower (Kd.R_new' ho1 (Kd.R_lt (by (with_reducible repeat (first | apply Kd.R_alloc | apply Kd.R_drewN | apply Kd.R_drew)); exact HO766.out))) (below_size (by repeat (first | (with_reducible first | exact HB.out | apply below_alloc | apply pw_below_drewN | apply below_drew1 | refine below_set ?_ (IsS86.ge HI763.out)) | exact HB.out)))); have n4_ := Aside0.mk (IsS86.below (by repeat (first | (with_reducible first | exact HI763.out | apply IsS86.alloc | apply IsS86.drewN | apply IsS86.drew | apply IsS86.set_1) | exact HI763.out)) hb); have n5_ := Aside0.mk (below_step (by repeat (first | (with_reducible first | exact HB.out | apply below_alloc | apply pw_below_drewN | apply below_drew1 | refine below_set ?_ (IsS86.ge HI763.out)) | exact HB.out)) hb); clear HO766; clear HO769; clear HI763; clear HB; have HO766 := n0_; have HO769 := n1_; have HO776 := n2_; have HO778 := n3_; have HI763 := n4_; have HB := n5_; clear n0_ n1_ n2_ n3_ n4_ n5_; (try clear hb); (try clear hb2); (try clear hk); (try clear hi); (try clear ho0); (try clear ho1); obtain ⟨Ao20, co20, eo20⟩ := Kd.R_slice HO776.out; subst eo20) | ((with_reducible refine gate_callee (f := 25) rfl ?_); refine goesL_ (some 43) rfl rfl Try.func25 (by kernel_rfl) rfl #[.slice Ao20 t773.length co20, .int .i64 (wrap64 (1 + t771)), .int .i64 (wrap64 (1 + (Int.tmod (wrap64 (a1)) 4)))] rfl (by (try simp only [List.map_toArray, List.map_cons, List.map_nil]); first | done | rfl | (simp only [List.length_drop, List.length_take]; rfl)) ?_; (with_reducible refine (prune_Drop.calls k _ _ t773 (wrap64 (1 + t771)) (wrap64 (1 + (Int.tmod (wrap64 (a1)) 4))) t779 t780 _ ?side1 ?side2 A9.out).mono ?_); (case side1 => repeat (first | exact (Kd.R_reads' HO776.out).2.2 | (with_reducible refine Kd.C_alloc ?_ _) | (with_reducible refine Kd.C_drewN ?_ _) | (with_reducible refine Kd.C_drew ?_))); (case side2 => exact (Kd.R_reads' HO776.out).2.1); rintro e w21 ⟨v781, v783, rfl, ho0, ho1, hb⟩; refine ⟨_, rfl, ?_⟩; have n0_ := Aside0.mk (Kd.R_mono (Kd.R_told (Kd.R_told (Kd.R_old (by (with_reducible repeat (first | apply Kd.R_alloc | apply Kd.R_drewN | apply Kd.R_drew)); exact HO766.out) hb) (Kd.R_base ho0)) (Kd.R_base ho1)) (fun _ h_ => h_.1)); have n1_ := Aside0.mk (Kd.R_below (by (with_reducible repeat (first | apply Kd.R_alloc | apply Kd.R_drewN | apply Kd.R_drew)); exact HO769.out) hb); have n2_ := Aside0.mk (Kd.R_mono (Kd.R_told (Kd.R_told (Kd.R_old (by (with_reducible repeat (first | apply Kd.R_alloc | apply Kd.R_drewN | apply Kd.R_drew)); exact HO776.out) hb) (Kd.R_base ho0)) (Kd.R_base ho1)) (fun _ h_ => h_.1)); have n3_ := Aside0.mk (Kd.R_mono (Kd.R_told (Kd.R_told (Kd.R_old (by (with_reducible repeat (first | apply Kd.R_alloc | apply Kd.R_drewN | apply Kd.R_drew)); exact HO778.out) hb) (Kd.R_base ho0)) (Kd.R_base ho1)) (fun _ h_ => h_.1)); have n4_ := Aside0.mk (Kd.R_lower (Kd.R_new' (Kd.R_new' (Kd.R_new' ho0 (Kd.R_lt (by (with_reducible repeat (first | apply Kd.R_alloc | apply Kd.R_drewN | apply Kd.R_drew)); exact HO766.out))) (Kd.R_lt (by (with_reducible repeat (first | apply Kd.R_alloc | apply Kd.R_drewN | apply Kd.R_drew)); exact HO776.out))) (Kd.R_lt (by (with_reducible repeat (first | apply Kd.R_alloc | apply Kd.R_drewN | apply Kd.R_drew)); exact HO778.out))) (below_size (by repeat (first | (with_reducible first | exact HB.out | apply below_alloc | apply pw_below_drewN | apply below_drew1 | refine below_set ?_ (IsS86.ge HI763.out)) | exact HB.out)))); have n5_ := Aside0.mk (Kd.R_lower (Kd.R_new' (Kd.R_new' (Kd.R_new' ho1 (Kd.R_lt (by (with_reducible repeat (first | apply Kd.R_alloc | apply Kd.R_drewN | apply Kd.R_drew)); exact HO766.out))) (Kd.R_lt (by (with_reducible repeat (first | apply Kd.R_alloc | apply Kd.R_drewN | apply Kd.R_drew)); exact HO776.out))) (Kd.R_lt (by (with_reducible repeat (first | apply Kd.R_alloc | apply Kd.R_drewN | apply Kd.R_drew)); exact HO778.out))) (below_size (by repeat (first | (with_reducible first | exact HB.out | apply below_alloc | apply pw_below_drewN | apply below_drew1 | refine below_set ?_ (IsS86.ge HI763.out)) | exact HB.out)))); have n6_ := Aside0.mk (IsS86.below (by repeat (first | (with_reducible first | exact HI763.out | apply IsS86.alloc | apply IsS86.drewN | apply IsS86.drew | apply IsS86.set_1) | exact HI763.out)) hb); have n7_ := Aside0.mk (below_step (by repeat (first | (with_reducible first | exact HB.out | apply below_alloc | apply pw_below_drewN | apply below_drew1 | refine below_set ?_ (IsS86.ge HI763.out)) | exact HB.out)) hb); clear HO766; clear HO769; clear HO776; clear HO778; clear HI763; clear HB; have HO766 := n0_; have HO769 := n1_; have HO776 := n2_; have HO778 := n3_; have HO782 := n4_; have HO784 := n5_; have HI763 := n6_; have HB := n7_; clear n0_ n1_ n2_ n3_ n4_ n5_ n6_ n7_; (try clear hb); (try clear hb2); (try clear hk); (try clear hi); (try clear ho0); (try clear ho1)) | ((with_reducible refine gate_callee (f := 25) rfl ?_); refine goesL_ (some 51) rfl rfl Try.func25 (by kernel_rfl) rfl #[.slice Ao18 t764.length co18, .int .i64 (wrap64 (1 + t771)), .int .i64 (wrap64 ((wrap64 (1 + (Int.tmod (wrap64 (a1)) 4))) - 1))] rfl (by (try simp only [List.map_toArray, List.map_cons, List.map_nil]); first | done | rfl | (simp only [List.length_drop, List.length_take]; rfl)) ?_; (with_reducible refine (prune_Drop.calls k _ _ t764 (wrap64 (1 + t771)) (wrap64 ((wrap64 (1 + (Int.tmod (wrap64 (a1)) 4))) - 1)) t785 t786 _ ?side1 ?side2 A10.out).mono ?_); (case side1 => repeat (first | exact (Kd.R_reads' HO766.out).2.2 | (with_reducible refine Kd.C_alloc ?_ _) | (with_reducible refine Kd.C_drewN ?_ _) | (with_reducible refine Kd.C_drew ?_))); (case side2 => exact (Kd.R_reads' HO766.out).2.1); rintro e w22 ⟨v787, v789, rfl, ho0, ho1, hb⟩; refine ⟨_, rfl, ?_⟩; have n0_ := Aside0.mk (Kd.R_mono (Kd.R_told (Kd.R_told (Kd.R_old (by (with_reducible repeat (first | apply Kd.R_alloc | apply Kd.R_drewN | apply Kd.R_drew)); exact HO766.out) hb) (Kd.R_base ho0)) (Kd.R_base ho1)) (fun _ h_ => h_.1)); have n1_ := Aside0.mk (Kd.R_below (by (with_reducible repeat (first | apply Kd.R_alloc | apply Kd.R_drewN | apply Kd.R_drew)); exact HO769.out) hb); have n2_ := Aside0.mk (Kd.R_mono (Kd.R_told (Kd.R_told (Kd.R_old (by (with_reducible repeat (first | apply Kd.R_alloc | apply Kd.R_drewN | apply Kd.R_drew)); exact HO776.out) hb) (Kd.R_base ho0)) (Kd.R_base ho1)) (fun _ h_ => h_.1)); have n3_ := Aside0.mk (Kd.R_mono (Kd.R_told (Kd.R_told (Kd.R_old (by (with_reducible repeat (first | apply Kd.R_alloc | apply Kd.R_drewN | apply Kd.R_drew)); exact HO778.out) hb) (Kd.R_base ho0)) (Kd.R_base ho1)) (fun _ h_ => h_.1)); have n4_ := Aside0.mk (Kd.R_mono (Kd.R_told (Kd.R_told (Kd.R_old (by (with_reducible repeat (first | apply Kd.R_alloc | apply Kd.R_drewN | apply Kd.R_drew)); exact HO782.out) hb) (Kd.R_base ho0)) (Kd.R_base ho1)) (fun _ h_ => h_.1)); have n5_ := Aside0.mk (Kd.R_mono (Kd.R_told (Kd.R_told (Kd.R_old (by (with_reducible repeat (first | apply Kd.R_alloc | apply Kd.R_drewN | apply Kd.R_drew)); exact HO784.out) hb) (Kd.R_base ho0)) (Kd.R_base ho1)) (fun _ h_ => h_.1)); have n6_ := Aside0.mk (Kd.R_lower (Kd.R_new' (Kd.R_new' (Kd.R_new' (Kd.R_new' (Kd.R_new' ho0 (Kd.R_lt (by (with_reducible repeat (first | apply Kd.R_alloc | apply Kd.R_drewN | apply Kd.R_drew)); exact HO766.out))) (Kd.R_lt (by (with_reducible repeat (first | apply Kd.R_alloc | apply Kd.R_drewN | apply Kd.R_drew)); exact HO776.out))) (Kd.R_lt (by (with_reducible repeat (first | apply Kd.R_alloc | apply Kd.R_drewN | apply Kd.R_drew)); exact HO778.out))) (Kd.R_lt (by (with_reducible repeat (first | apply Kd.R_alloc | apply Kd.R_drewN | apply Kd.R_drew)); exact HO782.out))) (Kd.R_lt (by (with_reducible repeat (first | apply Kd.R_alloc | apply Kd.R_drewN | apply Kd.R_drew)); exact HO784.out))) (below_size (by repeat (first | (with_reducible first | exact HB.out | apply below_alloc | apply pw_below_drewN | apply below_drew1 | refine below_set ?_ (IsS86.ge HI763.out)) | exact HB.out)))); have n7_ := Aside0.mk (Kd.R_lower (Kd.R_new' (Kd.R_new' (Kd.R_new' (Kd.R_new' (Kd.R_new' ho1 (Kd.R_lt (by (with_reducible repeat (first | apply Kd.R_alloc | apply Kd.R_drewN | apply Kd.R_drew)); exact HO766.out))) (Kd.R_lt (by (with_reducible repeat (first | apply Kd.R_alloc | apply Kd.R_drewN | apply Kd.R_drew)); exact HO776.out))) (Kd.R_lt (by (with_reducible repeat (first | apply Kd.R_alloc | apply Kd.R_drewN | apply Kd.R_drew)); exact HO778.out))) (Kd.R_lt (by (with_reducible repeat (first | apply Kd.R_alloc | apply Kd.R_drewN | apply Kd.R_drew)); exact HO782.out))) (Kd.R_lt (by (with_reducible repeat (first | apply Kd.R_alloc | apply Kd.R_drewN | apply Kd.R_drew)); exact HO784.out))) (below_size (by repeat (first | (with_reducible first | exact HB.out | apply below_alloc | apply pw_below_drewN | apply below_drew1 | refine below_set ?_ (IsS86.ge HI763.out)) | exact HB.out)))); have n8_ := Aside0.mk (IsS86.below (by repeat (first | (with_reducible first | exact HI763.out | apply IsS86.alloc | apply IsS86.drewN | apply IsS86.drew | apply IsS86.set_1) | exact HI763.out)) hb); have n9_ := Aside0.mk (below_step (by repeat (first | (with_reducible first | exact HB.out | apply below_alloc | apply pw_below_drewN | apply below_drew1 | refine below_set ?_ (IsS86.ge HI763.out)) | exact HB.out)) hb); clear HO766; clear HO769; clear HO776; clear HO778; clear HO782; clear HO784; clear HI763; clear HB; have HO766 := n0_; have HO769 := n1_; have HO776 := n2_; have HO778 := n3_; have HO782 := n4_; have HO784 := n5_; have HO788 := n6_; have HO790 := n7_; have HI763 := n8_; have HB := n9_; clear n0_ n1_ n2_ n3_ n4_ n5_ n6_ n7_ n8_ n9_; (try clear hb); (try clear hb2); (try clear hk); (try clear hi); (try clear ho0); (try clear ho1); obtain ⟨Ao23, co23, eo23⟩ := Kd.R_slice HO782.out; subst eo23) | ((with_reducible refine gate_callee (f := 29) rfl ?_); refine goesL_ (some 56) rfl rfl Try.func29 (by kernel_rfl) rfl #[.slice Ao20 t773.length co20, .slice Ao23 t779.length co23] rfl (by (try simp only [List.map_toArray, List.map_cons, List.map_nil]); first | done | rfl | (simp only [List.length_drop, List.length_take]; rfl)) ?_; (with_reducible refine (storagebarterref35_SameList.calls k _ _ t773 _ _ t779 true _ ?side1 ?side2 ?side3 ?side4 A11.out).mono ?_); (case side1 => repeat (first | exact (Kd.R_reads' HO776.out).2.2 | (with_reducible refine Kd.C_alloc ?_ _) | (with_reducible refine Kd.C_drewN ?_ _) | (with_reducible refine Kd.C_drew ?_))); (case side2 => exact (Kd.R_reads' HO776.out).2.1); (case side3 => repeat (first | exact (Kd.R_reads' HO782.out).2.2 | (with_reducible refine Kd.C_alloc ?_ _) | (with_reducible refine Kd.C_drewN ?_ _) | (with_reducible refine Kd.C_drew ?_))); (case side4 => exact (Kd.R_reads' HO782.out).2.1); rintro e w24 ⟨rfl, hb⟩; refine ⟨_, rfl, ?_⟩; have n0_ := Aside0.mk (Kd.R_below (by (with_reducible repeat (first | apply Kd.R_alloc | apply Kd.R_drewN | apply Kd.R_drew)); exact HO766.out) hb); have n1_ := Aside0.mk (Kd.R_below (by (with_reducible repeat (first | apply Kd.R_alloc | apply Kd.R_drewN | apply Kd.R_drew)); exact HO769.out) hb); have n2_ := Aside0.mk (Kd.R_below (by (with_reducible repeat (first | apply Kd.R_alloc | apply Kd.R_drewN | apply Kd.R_drew)); exact HO776.out) hb); have n3_ := Aside0.mk (Kd.R_below (by (with_reducible repeat (first | apply Kd.R_alloc | apply Kd.R_drewN | apply Kd.R_drew)); exact HO778.out) hb); have n4_ := Aside0.mk (Kd.R_below (by (with_reducible repeat (first | apply Kd.R_alloc | apply Kd.R_drewN | apply Kd.R_drew)); exact HO782.out) hb); have n5_ := Aside0.mk (Kd.R_below (by (with_reducible repeat (first | apply Kd.R_alloc | apply Kd.R_drewN | apply Kd.R_drew)); exact HO784.out) hb); have n6_ := Aside0.mk (Kd.R_below (by (with_reducible repeat (first | apply Kd.R_alloc | apply Kd.R_drewN | apply Kd.R_drew)); exact HO788.out) hb); have n7_ := Aside0.mk (Kd.R_below (by (with_reducible repeat (first | apply Kd.R_alloc | apply Kd.R_drewN | apply Kd.R_drew)); exact HO790.out) hb); have n8_ := Aside0.mk (IsS86.below (by repeat (first | (with_reducible first | exact HI763.out | apply IsS86.alloc | apply IsS86.drewN | apply IsS86.drew | apply IsS86.set_1) | exact HI763.out)) hb); have n9_ := Aside0.mk (below_step (by repeat (first | (with_reducible first | exact HB.out | apply below_alloc | apply pw_below_drewN | apply below_drew1 | refine below_set ?_ (IsS86.ge HI763.out)) | exact HB.out)) hb); clear HO766; clear HO769; clear HO776; clear HO778; clear HO782; clear HO784; clear HO788; clear HO790; clear HI763; clear HB; have HO766 := n0_; have HO769 := n1_; have HO776 := n2_; have HO778 := n3_; have HO782 := n4_; have HO784 := n5_; have HO788 := n6_; have HO790 := n7_; have HI763 := n8_; have HB := n9_; clear n0_ n1_ n2_ n3_ n4_ n5_ n6_ n7_ n8_ n9_; (try clear hb); (try clear hb2); (try clear hk); (try clear hi); obtain ⟨Ao25, co25, eo25⟩ := Kd.R_slice HO784.out; subst eo25; obtain ⟨Ao26, co26, eo26⟩ := Kd.R_slice HO790.out; subst eo26; obtain ⟨Ao27, co27, eo27⟩ := Kd.R_slice HO778.out; subst eo27))
        go_ret
        exact ⟨by first | rfl | (simp [errW_none, errW_some] <;> rfl) | (simp [*, errW_none, errW_some] <;> rfl), by repeat (first | (with_reducible first | exact HB.out | apply below_alloc | apply pw_below_drewN | apply below_drew1 | refine below_set ?_ (IsS86.ge HI763.out)) | exact HB.out)⟩
      · rw [if_neg c13] at H
        exact absurd (H.trans (congrArg some RT_.out)) (by simp)
    · replace c12 := Bool.eq_false_iff.mpr c12
      subst c12
      have H1 : (some false) = some r := by rw [if_neg (show ¬ (false = true) by decide)] at H; exact H
      clear H
      have H := H1
      clear H1
      exact absurd (H.trans (congrArg some RT_.out)) (by simp)
  · replace c4 := Bool.eq_false_iff.mpr c4
    subst c4
    have H1 : (some false) = some r := by rw [if_neg (show ¬ (false = true) by decide)] at H; exact H
    clear H
    have H := H1
    clear H1
    exact absurd (H.trans (congrArg some RT_.out)) (by simp)

/-- THE ONE PURE STATEMENT of storagebarterlaw39_PruneTwice: yours. -/
def storagebarterlaw39_PruneTwice.Pure : Prop := ∀ (l0 : List Int) (a1 : Int), l0.length ≤ maxLen → l0.length * 1 ≤ 140737488351232 → (∀ x ∈ l0, (Lit.int .u8 x).wf = true) → (Lit.int .u8 a1).wf = true → ∃ k, storagebarterlaw39_PruneTwice.f k l0 a1 = some true
theorem storagebarterlaw39_PruneTwice.walk (P : storagebarterlaw39_PruneTwice.Pure) (a0 : Option Addr) (len0 cap0 : Nat) (z0 : List Int) (a1 : Int) (w : World) (w0 : (a0 = none ∧ len0 = 0 ∧ cap0 = 0 ∧ z0 = []) ∨ ∃ x, a0 = some x ∧ len0 ≤ cap0 ∧ cap0 ≤ maxLen ∧ z0.length = cap0 ∧ (∀ i, i < z0.length → w.cell? (x.add i) = some (.int .u8 (z0.getD i 0))) ∧ ∀ n ∈ z0, (Lit.int .u8 n).wf = true) (y0 : len0 * 1 ≤ 140737488351232) (w1 : (Lit.int .u8 a1).wf = true) :
    Calls Try.prog 7 #[.slice a0 len0 cap0, .int .u8 a1] w fun e w' => e = .returned (.bool true) ∧ Below w.heap.size w w' := by
  obtain ⟨l0, rfl, hr0, hm0, hw0, hc0⟩ := ReadsInt.ofRowC w0
  obtain ⟨k, h⟩ := P l0 a1 hm0 y0 hw0 w1
  refine (storagebarterlaw39_PruneTwice.calls k _ _ l0 a1 true w (Kd.C_of_reads (d := (0 : Int)) (h1 := fun _ => rfl) hr0) hc0 h rfl).mono ?_
  rintro e w' ⟨rfl, hd⟩
  exact ⟨rfl, hd⟩

end Go.Proofs.Ytlkgmfhgnfgmiaa.Q
