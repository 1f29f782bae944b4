/- A shelf is divided in what belongs to places and in what does not, and what stays needs nothing of the garbage. -/
import Derived.Test.YtlkgmfhgnfgmiaaCPruneGarbage1
import Derived.Test.YtlkgmfhgnfgmiaaCPruneGarbage2
import Derived.OpenShut
import Derived.Test.YtlkgmfhgnfgmiaaRows
import Derived.WalkKit
import Derived.ProofKit
import Derived.ShutString
import Derived.ChangeOld
import Derived.Below
import Derived.SizedLaws
import Derived.Test.YtlkgmfhgnfgmiaaWSized
namespace Go.Proofs.Ytlkgmfhgnfgmiaa.Q
open Go.RowKit Go.Proofs.YtlkgmfhgnfgmiaaW.PrintWords Go.Proofs.YtlkgmfhgnfgmiaaW.PrintLast Go.Proofs.YtlkgmfhgnfgmiaaW.PrintMore
attribute [local go_sem] max2_int min2_int max_two min_two max_three min_three max_four min_four   -- for this text's walks alone
set_option linter.unusedVariables false
set_option linter.unusedSimpArgs false

attribute [local go_sem high] eqA74
/-! ### storagebarterlaw39_PruneGarbage: function 9 -/
mutual
def storagebarterlaw39_PruneGarbage.j0 : Nat → List (S29) → List (S72) → List (S72) → Bool → Option (Bool)
  | 0, _, _, _, _ => none
  | k + 1, x9, x11, x12, x65 => if x65 = true then (some false) else (storagebarterlaw39_PruneGarbage.l0 k x9 x11 x12 (x12.length : Int) 0)
def storagebarterlaw39_PruneGarbage.l0 : Nat → List (S29) → List (S72) → List (S72) → Int → Int → Option (Bool)
  | 0, _, _, _, _, _ => none
  | k + 1, x9, x11, x66, x67, x68 => if x68 < x67 then (if 0 ≤ x68 then (if x68 < (x66.length : Int) then (storagebarterlaw39_PruneGarbage.l1 k x9 x11 x66 x67 x68 x9 (x9.length : Int) 0 ((rd_T72 x66 x68).f0) ((rd_T72 x66 x68).f1) ((rd_T72 x66 x68).f2) ((rd_T72 x66 x68).f3) ((rd_T72 x66 x68).f4)) else (none)) else (none)) else ((prune_Garbage.f x11 4 x9).bind fun bt925 => ((prune_Same.f k bt925.1 x11).bind fun t931 => (if t931 = true then (some ((bt925.2.length : Int) == 0)) else (some false))))
def storagebarterlaw39_PruneGarbage.l1 : Nat → List (S29) → List (S72) → List (S72) → Int → Int → List (S29) → Int → Int → Int → Int → Int → Int → ByteArray → Option (Bool)
  | 0, _, _, _, _, _, _, _, _, _, _, _, _, _ => none
  | k + 1, x9, x11, x66, x67, x68, x72, x73, x74, x934000, x934001, x934002, x934003, x934004 => if x74 < x73 then (if 0 ≤ x74 then (if x74 < (x72.length : Int) then (storagebarterlaw39_PruneGarbage.l2 k x9 x11 x66 x67 x68 x72 x73 x74 ((rd_T29 x72 x74).f4) (((rd_T29 x72 x74).f4).length : Int) 0 x934000 x934001 x934002 x934003 x934004 ((rd_T29 x72 x74).f0) ((rd_T29 x72 x74).f1) ((rd_T29 x72 x74).f2) ((rd_T29 x72 x74).f3) ((rd_T29 x72 x74).f4)) else (none)) else (none)) else (storagebarterlaw39_PruneGarbage.l0 k x9 x11 x66 x67 (wrap64 (x68 + 1)))
def storagebarterlaw39_PruneGarbage.l2 : Nat → List (S29) → List (S72) → List (S72) → Int → Int → List (S29) → Int → Int → List (S74) → Int → Int → Int → Int → Int → Int → ByteArray → Int → Int → Int → List (S48) → List (S74) → Option (Bool)
  | 0, _, _, _, _, _, _, _, _, _, _, _, _, _, _, _, _, _, _, _, _, _ => none
  | k + 1, x9, x11, x66, x67, x68, x72, x73, x74, x79, x80, x81, x934000, x934001, x934002, x934003, x934004, x936000, x936001, x936002, x936003, x936004 => if x81 < x80 then (if 0 ≤ x81 then (if x81 < (x79.length : Int) then (if x936000 = x934000 then (if x936001 = x934001 then (if (((rd_T74 x79 x81).f0) == x934002 && (((rd_T74 x79 x81).f1) == x934003 && (((rd_T74 x79 x81).f2) == 4))) = true then (some false) else (storagebarterlaw39_PruneGarbage.l2 k x9 x11 x66 x67 x68 x72 x73 x74 x79 x80 (wrap64 (x81 + 1)) x934000 x934001 x934002 x934003 x934004 x936000 x936001 x936002 x936003 x936004)) else (storagebarterlaw39_PruneGarbage.l2 k x9 x11 x66 x67 x68 x72 x73 x74 x79 x80 (wrap64 (x81 + 1)) x934000 x934001 x934002 x934003 x934004 x936000 x936001 x936002 x936003 x936004)) else (storagebarterlaw39_PruneGarbage.l2 k x9 x11 x66 x67 x68 x72 x73 x74 x79 x80 (wrap64 (x81 + 1)) x934000 x934001 x934002 x934003 x934004 x936000 x936001 x936002 x936003 x936004)) else (none)) else (none)) else (storagebarterlaw39_PruneGarbage.l1 k x9 x11 x66 x67 x68 x72 x73 (wrap64 (x74 + 1)) x934000 x934001 x934002 x934003 x934004)
end
def storagebarterlaw39_PruneGarbage.f (k : Nat) (l0 : List Int) (a1 : Int) : Option (Bool) := (storagebarterlaw39_sane.f k).bind fun t890 => (if t890 = true then ((storagebarterplay_New.f l0).bind fun bt891 => ((storagebarterlaw39_made.f k bt891.1 bt891.2).bind fun bt894 => ((storagebarterplay_Dice_Pick.f bt891.1 bt894.2.2 3).bind fun bt901 => ((prune_Drop.f k bt894.1 (wrap64 (1 + bt901.1)) (Int.tmod (wrap64 (a1)) 4)).bind fun bt903 => ((prune_Garbage.f bt894.2.1 4 bt903.1).bind fun bt909 => (if (wrap64 ((bt909.1.length : Int) + (bt909.2.length : Int))) = (bt894.2.1.length : Int) then ((prune_Bytes.f k bt909.1).bind fun t922 => ((prune_Bytes.f k bt909.2).bind fun t923 => ((prune_Bytes.f k bt894.2.1).bind fun t924 => (storagebarterlaw39_PruneGarbage.j0 k bt903.1 bt909.1 bt909.2 ((wrap64 (t922 + t923)) != t924))))) else (storagebarterlaw39_PruneGarbage.j0 k bt903.1 bt909.1 bt909.2 true))))))) else (some false))
theorem storagebarterlaw39_PruneGarbage.mono_l : ∀ k, (∀ y0 y1 y2 y3, LeO (storagebarterlaw39_PruneGarbage.j0 k y0 y1 y2 y3) (storagebarterlaw39_PruneGarbage.j0 (k + 1) y0 y1 y2 y3)) ∧ (∀ y0 y1 y2 y3 y4, LeO (storagebarterlaw39_PruneGarbage.l0 k y0 y1 y2 y3 y4) (storagebarterlaw39_PruneGarbage.l0 (k + 1) y0 y1 y2 y3 y4)) ∧ (∀ y0 y1 y2 y3 y4 y5 y6 y7 y8 y9 y10 y11 y12, LeO (storagebarterlaw39_PruneGarbage.l1 k y0 y1 y2 y3 y4 y5 y6 y7 y8 y9 y10 y11 y12) (storagebarterlaw39_PruneGarbage.l1 (k + 1) y0 y1 y2 y3 y4 y5 y6 y7 y8 y9 y10 y11 y12)) ∧ (∀ y0 y1 y2 y3 y4 y5 y6 y7 y8 y9 y10 y11 y12 y13 y14 y15 y16 y17 y18 y19 y20, LeO (storagebarterlaw39_PruneGarbage.l2 k y0 y1 y2 y3 y4 y5 y6 y7 y8 y9 y10 y11 y12 y13 y14 y15 y16 y17 y18 y19 y20) (storagebarterlaw39_PruneGarbage.l2 (k + 1) y0 y1 y2 y3 y4 y5 y6 y7 y8 y9 y10 y11 y12 y13 y14 y15 y16 y17 y18 y19 y20))
  | 0 => ⟨fun _ _ _ _ r h => by simp [storagebarterlaw39_PruneGarbage.j0] at h, fun _ _ _ _ _ r h => by simp [storagebarterlaw39_PruneGarbage.l0] at h, fun _ _ _ _ _ _ _ _ _ _ _ _ _ r h => by simp [storagebarterlaw39_PruneGarbage.l1] at h, fun _ _ _ _ _ _ _ _ _ _ _ _ _ _ _ _ _ _ _ _ _ r h => by simp [storagebarterlaw39_PruneGarbage.l2] at h⟩
  | k + 1 => by
    obtain ⟨ih0, ih1, ih2, ih3⟩ := storagebarterlaw39_PruneGarbage.mono_l k
    refine ⟨?_, ?_, ?_, ?_⟩
    · intro y0 y1 y2 y3
      unfold storagebarterlaw39_PruneGarbage.j0
      repeat' first
      | (with_reducible exact ih0 _ _ _ _)
      | (with_reducible exact ih1 _ _ _ _ _)
      | (with_reducible exact ih2 _ _ _ _ _ _ _ _ _ _ _ _ _)
      | (with_reducible exact ih3 _ _ _ _ _ _ _ _ _ _ _ _ _ _ _ _ _ _ _ _ _)
      | (with_reducible exact prune_Bytes.mono _ _)
      | (with_reducible exact prune_Drop.mono _ _ _ _)
      | (with_reducible exact prune_Same.mono _ _ _)
      | (with_reducible exact storagebarterlaw39_made.mono _ _ _)
      | (with_reducible exact storagebarterlaw39_sane.mono _)
      | (with_reducible exact LeO.refl _)
      | (with_reducible exact LeO.none _)
      | (with_reducible refine LeO.ite ?_ ?_)
      | (with_reducible refine LeO.bind ?_ (fun _ => ?_))
      | exact ih0 _ _ _ _
      | exact ih1 _ _ _ _ _
      | exact ih2 _ _ _ _ _ _ _ _ _ _ _ _ _
      | exact ih3 _ _ _ _ _ _ _ _ _ _ _ _ _ _ _ _ _ _ _ _ _
      | exact prune_Bytes.mono _ _
      | exact prune_Drop.mono _ _ _ _
      | exact prune_Same.mono _ _ _
      | exact storagebarterlaw39_made.mono _ _ _
      | exact storagebarterlaw39_sane.mono _
      | exact LeO.none _
      | refine LeO.ite ?_ ?_
      | refine LeO.bind ?_ (fun _ => ?_)
    · intro y0 y1 y2 y3 y4
      unfold storagebarterlaw39_PruneGarbage.l0
      repeat' first
      | (with_reducible exact ih0 _ _ _ _)
      | (with_reducible exact ih1 _ _ _ _ _)
      | (with_reducible exact ih2 _ _ _ _ _ _ _ _ _ _ _ _ _)
      | (with_reducible exact ih3 _ _ _ _ _ _ _ _ _ _ _ _ _ _ _ _ _ _ _ _ _)
      | (with_reducible exact prune_Bytes.mono _ _)
      | (with_reducible exact prune_Drop.mono _ _ _ _)
      | (with_reducible exact prune_Same.mono _ _ _)
      | (with_reducible exact storagebarterlaw39_made.mono _ _ _)
      | (with_reducible exact storagebarterlaw39_sane.mono _)
      | (with_reducible exact LeO.refl _)
      | (with_reducible exact LeO.none _)
      | (with_reducible refine LeO.ite ?_ ?_)
      | (with_reducible refine LeO.bind ?_ (fun _ => ?_))
      | exact ih0 _ _ _ _
      | exact ih1 _ _ _ _ _
      | exact ih2 _ _ _ _ _ _ _ _ _ _ _ _ _
      | exact ih3 _ _ _ _ _ _ _ _ _ _ _ _ _ _ _ _ _ _ _ _ _
      | exact prune_Bytes.mono _ _
      | exact prune_Drop.mono _ _ _ _
      | exact prune_Same.mono _ _ _
      | exact storagebarterlaw39_made.mono _ _ _
      | exact storagebarterlaw39_sane.mono _
      | exact LeO.none _
      | refine LeO.ite ?_ ?_
      | refine LeO.bind ?_ (fun _ => ?_)
    · intro y0 y1 y2 y3 y4 y5 y6 y7 y8 y9 y10 y11 y12
      unfold storagebarterlaw39_PruneGarbage.l1
      repeat' first
      | (with_reducible exact ih0 _ _ _ _)
      | (with_reducible exact ih1 _ _ _ _ _)
      | (with_reducible exact ih2 _ _ _ _ _ _ _ _ _ _ _ _ _)
      | (with_reducible exact ih3 _ _ _ _ _ _ _ _ _ _ _ _ _ _ _ _ _ _ _ _ _)
      | (with_reducible exact prune_Bytes.mono _ _)
      | (with_reducible exact prune_Drop.mono _ _ _ _)
      | (with_reducible exact prune_Same.mono _ _ _)
      | (with_reducible exact storagebarterlaw39_made.mono _ _ _)
      | (with_reducible exact storagebarterlaw39_sane.mono _)
      | (with_reducible exact LeO.refl _)
      | (with_reducible exact LeO.none _)
      | (with_reducible refine LeO.ite ?_ ?_)
      | (with_reducible refine LeO.bind ?_ (fun _ => ?_))
      | exact ih0 _ _ _ _
      | exact ih1 _ _ _ _ _
      | exact ih2 _ _ _ _ _ _ _ _ _ _ _ _ _
      | exact ih3 _ _ _ _ _ _ _ _ _ _ _ _ _ _ _ _ _ _ _ _ _
      | exact prune_Bytes.mono _ _
      | exact prune_Drop.mono _ _ _ _
      | exact prune_Same.mono _ _ _
      | exact storagebarterlaw39_made.mono _ _ _
      | exact storagebarterlaw39_sane.mono _
      | exact LeO.none _
      | refine LeO.ite ?_ ?_
      | refine LeO.bind ?_ (fun _ => ?_)
    · intro y0 y1 y2 y3 y4 y5 y6 y7 y8 y9 y10 y11 y12 y13 y14 y15 y16 y17 y18 y19 y20
      unfold storagebarterlaw39_PruneGarbage.l2
      repeat' first
      | (with_reducible exact ih0 _ _ _ _)
      | (with_reducible exact ih1 _ _ _ _ _)
      | (with_reducible exact ih2 _ _ _ _ _ _ _ _ _ _ _ _ _)
      | (with_reducible exact ih3 _ _ _ _ _ _ _ _ _ _ _ _ _ _ _ _ _ _ _ _ _)
      | (with_reducible exact prune_Bytes.mono _ _)
      | (with_reducible exact prune_Drop.mono _ _ _ _)
      | (with_reducible exact prune_Same.mono _ _ _)
      | (with_reducible exact storagebarterlaw39_made.mono _ _ _)
      | (with_reducible exact storagebarterlaw39_sane.mono _)
      | (with_reducible exact LeO.refl _)
      | (with_reducible exact LeO.none _)
      | (with_reducible refine LeO.ite ?_ ?_)
      | (with_reducible refine LeO.bind ?_ (fun _ => ?_))
      | exact ih0 _ _ _ _
      | exact ih1 _ _ _ _ _
      | exact ih2 _ _ _ _ _ _ _ _ _ _ _ _ _
      | exact ih3 _ _ _ _ _ _ _ _ _ _ _ _ _ _ _ _ _ _ _ _ _
      | exact prune_Bytes.mono _ _
      | exact prune_Drop.mono _ _ _ _
      | exact prune_Same.mono _ _ _
      | exact storagebarterlaw39_made.mono _ _ _
      | exact storagebarterlaw39_sane.mono _
      | exact LeO.none _
      | refine LeO.ite ?_ ?_
      | refine LeO.bind ?_ (fun _ => ?_)
theorem storagebarterlaw39_PruneGarbage.mono : ∀ a0 a1 k, LeO (storagebarterlaw39_PruneGarbage.f k a0 a1) (storagebarterlaw39_PruneGarbage.f (k + 1) a0 a1) := by
  intro a0 a1 k
  obtain ⟨ih0, ih1, ih2, ih3⟩ := storagebarterlaw39_PruneGarbage.mono_l k
  unfold storagebarterlaw39_PruneGarbage.f
  repeat' first
      | (with_reducible exact ih0 _ _ _ _)
      | (with_reducible exact ih1 _ _ _ _ _)
      | (with_reducible exact ih2 _ _ _ _ _ _ _ _ _ _ _ _ _)
      | (with_reducible exact ih3 _ _ _ _ _ _ _ _ _ _ _ _ _ _ _ _ _ _ _ _ _)
      | (with_reducible exact prune_Bytes.mono _ _)
      | (with_reducible exact prune_Drop.mono _ _ _ _)
      | (with_reducible exact prune_Same.mono _ _ _)
      | (with_reducible exact storagebarterlaw39_made.mono _ _ _)
      | (with_reducible exact storagebarterlaw39_sane.mono _)
      | (with_reducible exact LeO.refl _)
      | (with_reducible exact LeO.none _)
      | (with_reducible refine LeO.ite ?_ ?_)
      | (with_reducible refine LeO.bind ?_ (fun _ => ?_))
      | exact ih0 _ _ _ _
      | exact ih1 _ _ _ _ _
      | exact ih2 _ _ _ _ _ _ _ _ _ _ _ _ _
      | exact ih3 _ _ _ _ _ _ _ _ _ _ _ _ _ _ _ _ _ _ _ _ _
      | exact prune_Bytes.mono _ _
      | exact prune_Drop.mono _ _ _ _
      | exact prune_Same.mono _ _ _
      | exact storagebarterlaw39_made.mono _ _ _
      | exact storagebarterlaw39_sane.mono _
      | exact LeO.none _
      | refine LeO.ite ?_ ?_
      | refine LeO.bind ?_ (fun _ => ?_)
set_option maxHeartbeats 8000000 in
set_option maxRecDepth 100000 in
theorem storagebarterlaw39_PruneGarbage.calls (k : Nat) (A0 : Option Addr) (c0 : Nat) (l0 : List Int) (a1 : Int) (r : Bool) (w : World) (hr0 : Kd.C (Kd.int .u8) w A0 l0.length l0) (hc0 : l0.length ≤ c0) (h : storagebarterlaw39_PruneGarbage.f k l0 a1 = some r) (hrt : r = true) :
    Calls Try.prog 9 #[.slice A0 l0.length c0, .int .u8 a1] w fun e w' => e = .returned (.bool r) ∧ Below w.heap.size w w' := by
  have hu72 := Try.underlying72
  have hu29 := Try.underlying29
  have hu74 := Try.underlying74
  have HR0 := Aside0.mk hr0
  have HC0 := Aside0.mk hc0
  clear hr0 hc0
  have HB := Aside0.mk (Below.refl w.heap.size w)
  have H : ((storagebarterlaw39_sane.f k).bind fun t890 => (if t890 = true then ((storagebarterplay_New.f l0).bind fun bt891 => ((storagebarterlaw39_made.f k bt891.1 bt891.2).bind fun bt894 => ((storagebarterplay_Dice_Pick.f bt891.1 bt894.2.2 3).bind fun bt901 => ((prune_Drop.f k bt894.1 (wrap64 (1 + bt901.1)) (Int.tmod (wrap64 (a1)) 4)).bind fun bt903 => ((prune_Garbage.f bt894.2.1 4 bt903.1).bind fun bt909 => (if (wrap64 ((bt909.1.length : Int) + (bt909.2.length : Int))) = (bt894.2.1.length : Int) then ((prune_Bytes.f k bt909.1).bind fun t922 => ((prune_Bytes.f k bt909.2).bind fun t923 => ((prune_Bytes.f k bt894.2.1).bind fun t924 => (storagebarterlaw39_PruneGarbage.j0 k bt903.1 bt909.1 bt909.2 ((wrap64 (t922 + t923)) != t924))))) else (storagebarterlaw39_PruneGarbage.j0 k bt903.1 bt909.1 bt909.2 true))))))) else (some false))) = some r := h
  clear h
  have RT_ := Aside0.mk hrt
  clear hrt
  replace H := Option.bind_eq_some_iff.mp H
  obtain ⟨t890, A30, H⟩ := H
  try dsimp only at H
  have A3 := Aside0.mk A30
  clear A30
  by_cases c4 : t890 = true
  · subst c4
    rw [if_pos rfl] at H
    replace H := Option.bind_eq_some_iff.mp H
    obtain ⟨⟨t891, t892⟩, A50, H⟩ := H
    try dsimp only at H
    have A5 := Aside0.mk A50
    clear A50
    replace H := Option.bind_eq_some_iff.mp H
    obtain ⟨⟨t894, t897, t900⟩, A60, H⟩ := H
    try dsimp only at H
    have A6 := Aside0.mk A60
    clear A60
    replace H := Option.bind_eq_some_iff.mp H
    obtain ⟨⟨t901, t902⟩, A70, H⟩ := H
    try dsimp only at H
    have A7 := Aside0.mk A70
    clear A70
    replace H := Option.bind_eq_some_iff.mp H
    obtain ⟨⟨t903, t904⟩, A80, H⟩ := H
    try dsimp only at H
    have A8 := Aside0.mk A80
    clear A80
    replace H := Option.bind_eq_some_iff.mp H
    obtain ⟨⟨t909, t910⟩, A90, H⟩ := H
    try dsimp only at H
    have A9 := Aside0.mk A90
    clear A90
    obtain ⟨y921, hy921⟩ : ∃ y_ : Bool, y_ = (true) := ⟨_, rfl⟩
    replace H : (if (wrap64 ((t909.length : Int) + (t910.length : Int))) = (t897.length : Int) then ((prune_Bytes.f k t909).bind fun t922 => ((prune_Bytes.f k t910).bind fun t923 => ((prune_Bytes.f k t897).bind fun t924 => (storagebarterlaw39_PruneGarbage.j0 k t903 t909 t910 ((wrap64 (t922 + t923)) != t924))))) else (storagebarterlaw39_PruneGarbage.j0 k t903 t909 t910 true)) = some r := by first | (rw [hy921]; with_reducible exact H) | (have H2_ := (Option.bind_some _ _).symm.trans H; rw [hy921]; with_reducible exact H2_) | (have H2_ := (Option.bind_some _ _).symm.trans H; with_reducible exact H2_) | with_reducible exact H | (rw [hy921]; exact H) | exact H
    have Ny921 := Aside0.mk hy921
    clear hy921
    have HC10 := Aside0.mk H
    clear H
    go_enter Try.func9, Try.ntmps9
    go_upto_region 8 with (first | ((with_reducible refine gate_callee (f := 23) rfl ?_); refine goesL_ (some 21) rfl rfl Try.func23 (by kernel_rfl) rfl #[] rfl (by (try simp only [List.map_toArray, List.map_cons, List.map_nil]); first | done | rfl | (simp only [List.length_drop, List.length_take]; rfl)) ?_; (with_reducible refine (storagebarterlaw39_sane.calls k  true _ A3.out).mono ?_); rintro e w11 ⟨rfl, hb⟩; refine ⟨_, rfl, ?_⟩; have n0_ := Aside0.mk (below_step (by repeat (first | (with_reducible first | exact HB.out | apply below_alloc | apply pw_below_drewN | apply below_drew1) | exact HB.out)) hb); clear HB; have HB := n0_; clear n0_; (try clear hb); (try clear hb2); (try clear hk); (try clear hi)) | ((with_reducible refine gate_callee (f := 12) rfl ?_); refine goesL_ (some 24) rfl rfl Try.func12 (by kernel_rfl) rfl #[.slice A0 l0.length c0] rfl (by (try simp only [List.map_toArray, List.map_cons, List.map_nil]); first | done | rfl | (simp only [List.length_drop, List.length_take]; rfl)) ?_; (with_reducible refine (storagebarterplay_New.calls _ _ l0 t891 t892 w _ ?side1 ?side2 ?side3 A5.out).mono ?_); (case side1 => repeat (first | (with_reducible first | exact HB.out | apply below_alloc | apply pw_below_drewN | apply below_drew1) | exact HB.out)); (case side2 => exact HR0.out); (case side3 => exact HC0.out); rintro e w12 ⟨g893, rfl, hi, hb, hb2⟩; refine ⟨_, rfl, ?_⟩; have n0_ := Aside0.mk (hb); have n1_ := Aside0.mk (hi); clear HB; have HB := n0_; have HI893 := n1_; clear n0_ n1_; (try clear hb); (try clear hb2); (try clear hk); (try clear hi)) | ((with_reducible refine gate_callee (f := 24) rfl ?_); refine goesL_ (some 27) rfl rfl Try.func24 (by kernel_rfl) rfl #[.pointer (some ⟨g893, 0, none⟩)] rfl (by (try simp only [List.map_toArray, List.map_cons, List.map_nil]); first | done | rfl | (simp only [List.length_drop, List.length_take]; rfl)) ?_; (with_reducible refine (storagebarterlaw39_made.calls k g893 t891 t892 t894 t897 t900 w _ ?side1 ?side2 A6.out).mono ?_); (case side1 => repeat (first | (with_reducible first | exact HI893.out | apply IsS86.alloc | apply IsS86.drewN | apply IsS86.drew | apply IsS86.set_1) | exact HI893.out)); (case side2 => repeat (first | (with_reducible first | exact HB.out | apply below_alloc | apply pw_below_drewN | apply below_drew1 | refine below_set ?_ (IsS86.ge HI893.out)) | exact HB.out)); rintro e w13 ⟨v895, v898, rfl, ho0, ho1, hi, hb, hk⟩; refine ⟨_, rfl, ?_⟩; have n0_ := Aside0.mk (Kd.R_lower ho0 (below_size (by repeat (first | (with_reducible first | exact HB.out | apply below_alloc | apply pw_below_drewN | apply below_drew1 | refine below_set ?_ (IsS86.ge HI893.out)) | exact HB.out)))); have n1_ := Aside0.mk (Kd.R_lower ho1 (below_size (by repeat (first | (with_reducible first | exact HB.out | apply below_alloc | apply pw_below_drewN | apply below_drew1 | refine below_set ?_ (IsS86.ge HI893.out)) | exact HB.out)))); have n2_ := Aside0.mk (hb); have n3_ := Aside0.mk (hi); clear HB; clear HI893; have HO896 := n0_; have HO899 := n1_; have HB := n2_; have HI893 := n3_; clear n0_ n1_ n2_ n3_; (try clear hb); (try clear hb2); (try clear hk); (try clear hi); (try clear ho0); (try clear ho1)) | ((with_reducible refine gate_callee (f := 14) rfl ?_); refine goesL_ (some 31) rfl rfl Try.func14 (by kernel_rfl) rfl #[.pointer (some ⟨g893, 0, none⟩), .int .i64 3] rfl (by (try simp only [List.map_toArray, List.map_cons, List.map_nil]); first | done | rfl | (simp only [List.length_drop, List.length_take]; rfl)) ?_; (with_reducible refine (storagebarterplay_Dice_Pick.calls g893 t891 t900 3 t901 t902 w _ ?side1 ?side2 A7.out).mono ?_); (case side1 => repeat (first | (with_reducible first | exact HI893.out | apply IsS86.alloc | apply IsS86.drewN | apply IsS86.drew | apply IsS86.set_1) | exact HI893.out)); (case side2 => repeat (first | (with_reducible first | exact HB.out | apply below_alloc | apply pw_below_drewN | apply below_drew1 | refine below_set ?_ (IsS86.ge HI893.out)) | exact HB.out)); rintro e w14 ⟨rfl, hi, hb, hk⟩; refine ⟨_, rfl, ?_⟩; have n0_ := Aside0.mk (Kd.R_mono (Kd.R_keep (IsS86.apart (show IsS86 w _ g893 t891 t900 from by repeat (first | (with_reducible first | exact HI893.out | apply IsS86.alloc | apply IsS86.drewN | apply IsS86.drew | apply IsS86.set_1) | exact HI893.out)) (by (with_reducible repeat (first | apply Kd.R_alloc | apply Kd.R_drewN | apply Kd.R_drew)); exact HO896.out) (by decide)) hk (fun _ h => h.2)) (fun _ h => h.1)); have n1_ := Aside0.mk (Kd.R_mono (Kd.R_keep (IsS86.apart (show IsS86 w _ g893 t891 t900 from by repeat (first | (with_reducible first | exact HI893.out | apply IsS86.alloc | apply IsS86.drewN | apply IsS86.drew | apply IsS86.set_1) | exact HI893.out)) (by (with_reducible repeat (first | apply Kd.R_alloc | apply Kd.R_drewN | apply Kd.R_drew)); exact HO899.out) (by decide)) hk (fun _ h => h.2)) (fun _ h => h.1)); have n2_ := Aside0.mk (hb); have n3_ := Aside0.mk (hi); clear HO896; clear HO899; clear HB; clear HI893; have HO896 := n0_; have HO899 := n1_; have HB := n2_; have HI893 := n3_; clear n0_ n1_ n2_ n3_; (try clear hb); (try clear hb2); (try clear hk); (try clear hi); obtain ⟨Ao15, co15, eo15⟩ := Kd.R_slice HO896.out; subst eo15) | ((with_reducible refine gate_callee (f := 25) rfl ?_); refine goesL_ (some 39) rfl rfl Try.func25 (by kernel_rfl) rfl #[.slice Ao15 t894.length co15, .int .i64 (wrap64 (1 + t901)), .int .i64 (Int.tmod (wrap64 (a1)) 4)] rfl (by (try simp only [List.map_toArray, List.map_cons, List.map_nil]); first | done | rfl | (simp only [List.length_drop, List.length_take]; rfl)) ?_; (with_reducible refine (prune_Drop.calls k _ _ t894 (wrap64 (1 + t901)) (Int.tmod (wrap64 (a1)) 4) t903 t904 _ ?side1 ?side2 A8.out).mono ?_); (case side1 => repeat (first | exact (Kd.R_reads' HO896.out).2.2 | (with_reducible refine Kd.C_alloc ?_ _) | (with_reducible refine Kd.C_drewN ?_ _) | (with_reducible refine Kd.C_drew ?_))); (case side2 => exact (Kd.R_reads' HO896.out).2.1); rintro e w16 ⟨v905, v907, rfl, ho0, ho1, hb⟩; refine ⟨_, rfl, ?_⟩; have n0_ := Aside0.mk (Kd.R_mono (Kd.R_told (Kd.R_told (Kd.R_old (by (with_reducible repeat (first | apply Kd.R_alloc | apply Kd.R_drewN | apply Kd.R_drew)); exact HO896.out) hb) (Kd.R_base ho0)) (Kd.R_base ho1)) (fun _ h_ => h_.1)); have n1_ := Aside0.mk (Kd.R_below (by (with_reducible repeat (first | apply Kd.R_alloc | apply Kd.R_drewN | apply Kd.R_drew)); exact HO899.out) hb); have n2_ := Aside0.mk (Kd.R_lower (Kd.R_new' ho0 (Kd.R_lt (by (with_reducible repeat (first | apply Kd.R_alloc | apply Kd.R_drewN | apply Kd.R_drew)); exact HO896.out))) (below_size (by repeat (first | (with_reducible first | exact HB.out | apply below_alloc | apply pw_below_drewN | apply below_drew1 | refine below_set ?_ (IsS86.ge HI893.out)) | exact HB.out)))); have n3_ := Aside0.mk (Kd.R_lower (Kd.R_new' ho1 (Kd.R_lt (by (with_reducible repeat (first | apply Kd.R_alloc | apply Kd.R_drewN | apply Kd.R_drew)); exact HO896.out))) (below_size (by repeat (first | (with_reducible first | exact HB.out | apply below_alloc | apply pw_below_drewN | apply below_drew1 | refine below_set ?_ (IsS86.ge HI893.out)) | exact HB.out)))); have n4_ := Aside0.mk (IsS86.below (by repeat (first | (with_reducible first | exact HI893.out | apply IsS86.alloc | apply IsS86.drewN | apply IsS86.drew | apply IsS86.set_1) | exact HI893.out)) hb); have n5_ := Aside0.mk (below_step (by repeat (first | (with_reducible first | exact HB.out | apply below_alloc | apply pw_below_drewN | apply below_drew1 | refine below_set ?_ (IsS86.ge HI893.out)) | exact HB.out)) hb); clear HO896; clear HO899; clear HI893; clear HB; have HO896 := n0_; have HO899 := n1_; have HO906 := n2_; have HO908 := n3_; have HI893 := n4_; have HB := n5_; clear n0_ n1_ n2_ n3_ n4_ n5_; (try clear hb); (try clear hb2); (try clear hk); (try clear hi); (try clear ho0); (try clear ho1); obtain ⟨Ao17, co17, eo17⟩ := Kd.R_slice HO899.out; subst eo17; obtain ⟨Ao18, co18, eo18⟩ := Kd.R_slice HO906.out; subst eo18) | ((with_reducible refine gate_callee (f := 33) rfl ?_); refine goesL_ (some 45) rfl rfl Try.func33 (by kernel_rfl) rfl #[.slice Ao17 t897.length co17, .int .i64 4, .slice Ao18 t903.length co18] rfl (by (try simp only [List.map_toArray, List.map_cons, List.map_nil]); first | done | rfl | (simp only [List.length_drop, List.length_take]; rfl)) ?_; (with_reducible refine (prune_Garbage.calls _ _ t897 4 _ _ t903 t909 t910 _ ?side1 ?side2 ?side3 ?side4 A9.out).mono ?_); (case side1 => repeat (first | exact (Kd.R_reads' HO899.out).2.2 | (with_reducible refine Kd.C_alloc ?_ _) | (with_reducible refine Kd.C_drewN ?_ _) | (with_reducible refine Kd.C_drew ?_))); (case side2 => exact (Kd.R_reads' HO899.out).2.1); (case side3 => repeat (first | exact (Kd.R_reads' HO906.out).2.2 | (with_reducible refine Kd.C_alloc ?_ _) | (with_reducible refine Kd.C_drewN ?_ _) | (with_reducible refine Kd.C_drew ?_))); (case side4 => exact (Kd.R_reads' HO906.out).2.1); rintro e w19 ⟨v911, v913, rfl, ho0, ho1, hb⟩; refine ⟨_, rfl, ?_⟩; have n0_ := Aside0.mk (Kd.R_below (by (with_reducible repeat (first | apply Kd.R_alloc | apply Kd.R_drewN | apply Kd.R_drew)); exact HO896.out) hb); have n1_ := Aside0.mk (Kd.R_mono (Kd.R_told (Kd.R_told (Kd.R_old (by (with_reducible repeat (first | apply Kd.R_alloc | apply Kd.R_drewN | apply Kd.R_drew)); exact HO899.out) hb) (Kd.R_base ho0)) (Kd.R_base ho1)) (fun _ h_ => h_.1)); have n2_ := Aside0.mk (Kd.R_below (by (with_reducible repeat (first | apply Kd.R_alloc | apply Kd.R_drewN | apply Kd.R_drew)); exact HO906.out) hb); have n3_ := Aside0.mk (Kd.R_below (by (with_reducible repeat (first | apply Kd.R_alloc | apply Kd.R_drewN | apply Kd.R_drew)); exact HO908.out) hb); have n4_ := Aside0.mk (Kd.R_lower (Kd.R_new' ho0 (Kd.R_lt (by (with_reducible repeat (first | apply Kd.R_alloc | apply Kd.R_drewN | apply Kd.R_drew)); exact HO899.out))) (below_size (by repeat (first | (with_reducible first | exact HB.out | apply below_alloc | apply pw_below_drewN | apply below_drew1 | refine below_set ?_ (IsS86.ge HI893.out)) | exact HB.out)))); have n5_ := Aside0.mk (Kd.R_lower (Kd.R_new' ho1 (Kd.R_lt (by (with_reducible repeat (first | apply Kd.R_alloc | apply Kd.R_drewN | apply Kd.R_drew)); exact HO899.out))) (below_size (by repeat (first | (with_reducible first | exact HB.out | apply below_alloc | apply pw_below_drewN | apply below_drew1 | refine below_set ?_ (IsS86.ge HI893.out)) | exact HB.out)))); have n6_ := Aside0.mk (IsS86.below (by repeat (first | (with_reducible first | exact HI893.out | apply IsS86.alloc | apply IsS86.drewN | apply IsS86.drew | apply IsS86.set_1) | exact HI893.out)) hb); have n7_ := Aside0.mk (below_step (by repeat (first | (with_reducible first | exact HB.out | apply below_alloc | apply pw_below_drewN | apply below_drew1 | refine below_set ?_ (IsS86.ge HI893.out)) | exact HB.out)) hb); clear HO896; clear HO899; clear HO906; clear HO908; clear HI893; clear HB; have HO896 := n0_; have HO899 := n1_; have HO906 := n2_; have HO908 := n3_; have HO912 := n4_; have HO914 := n5_; have HI893 := n6_; have HB := n7_; clear n0_ n1_ n2_ n3_ n4_ n5_ n6_ n7_; (try clear hb); (try clear hb2); (try clear hk); (try clear hi); (try clear ho0); (try clear ho1); obtain ⟨Ab915, hA_⟩ : ∃ A_ : Option Addr, A_ = Ao15 := ⟨_, rfl⟩; obtain ⟨cb915, hc_⟩ : ∃ c_ : Nat, c_ = co15 := ⟨_, rfl⟩; have HRb915 := Aside0.mk (Kd.R_reads' (HO896.out)).2.2; have HCb915 := Aside0.mk (Kd.R_reads' (HO896.out)).2.1; subst hA_; subst hc_; obtain ⟨Ab916, hA_⟩ : ∃ A_ : Option Addr, A_ = Ao17 := ⟨_, rfl⟩; obtain ⟨cb916, hc_⟩ : ∃ c_ : Nat, c_ = co17 := ⟨_, rfl⟩; have HRb916 := Aside0.mk (Kd.R_reads' (HO899.out)).2.2; have HCb916 := Aside0.mk (Kd.R_reads' (HO899.out)).2.1; subst hA_; subst hc_; obtain ⟨Ab917, hA_⟩ : ∃ A_ : Option Addr, A_ = Ao18 := ⟨_, rfl⟩; obtain ⟨cb917, hc_⟩ : ∃ c_ : Nat, c_ = co18 := ⟨_, rfl⟩; have HRb917 := Aside0.mk (Kd.R_reads' (HO906.out)).2.2; have HCb917 := Aside0.mk (Kd.R_reads' (HO906.out)).2.1; subst hA_; subst hc_; obtain ⟨Ao20, co20, eo20⟩ := Kd.R_slice HO908.out; subst eo20; obtain ⟨Ab918, hA_⟩ : ∃ A_ : Option Addr, A_ = Ao20 := ⟨_, rfl⟩; obtain ⟨cb918, hc_⟩ : ∃ c_ : Nat, c_ = co20 := ⟨_, rfl⟩; have HRb918 := Aside0.mk (Kd.R_reads' (HO908.out)).2.2; have HCb918 := Aside0.mk (Kd.R_reads' (HO908.out)).2.1; subst hA_; subst hc_; obtain ⟨Ao21, co21, eo21⟩ := Kd.R_slice HO912.out; subst eo21; obtain ⟨Ab919, hA_⟩ : ∃ A_ : Option Addr, A_ = Ao21 := ⟨_, rfl⟩; obtain ⟨cb919, hc_⟩ : ∃ c_ : Nat, c_ = co21 := ⟨_, rfl⟩; have HRb919 := Aside0.mk (Kd.R_reads' (HO912.out)).2.2; have HCb919 := Aside0.mk (Kd.R_reads' (HO912.out)).2.1; subst hA_; subst hc_; obtain ⟨Ao22, co22, eo22⟩ := Kd.R_slice HO914.out; subst eo22; obtain ⟨Ab920, hA_⟩ : ∃ A_ : Option Addr, A_ = Ao22 := ⟨_, rfl⟩; obtain ⟨cb920, hc_⟩ : ∃ c_ : Nat, c_ = co22 := ⟨_, rfl⟩; have HRb920 := Aside0.mk (Kd.R_reads' (HO914.out)).2.2; have HCb920 := Aside0.mk (Kd.R_reads' (HO914.out)).2.1; subst hA_; subst hc_; have HB0_ := HB; clear HB HI893 HO896 HO899 HO906 HO908 HO912 HO914; (try replace HR0 := Aside0.mk (Kd.C_below HR0.out HB0_.out)); obtain ⟨w, hw_⟩ : ∃ w_ : World, w_ = w19 := ⟨_, rfl⟩; subst hw_; have HB := Aside0.mk (Below.refl w.heap.size w)))
    (try simp only [Act.put, List.setIfInBounds_toArray, List.set_cons_zero, List.set_cons_succ])
    go_cut [65] (fun v65 wc => ∃ (kq : Nat) (x65_9 : Bool), v65 = .bool x65_9 ∧ Aside0 (storagebarterlaw39_PruneGarbage.j0 kq t903 t909 t910 x65_9 = some r) ∧ Aside0 (kq ≤ k) ∧ Aside0 (Below w.heap.size w wc))
    case first =>
      have H := HC10.out
      clear HC10
      by_cases c23 : (wrap64 ((t909.length : Int) + (t910.length : Int))) = (t897.length : Int)
      focus
        rw [if_pos c23] at H
        have c23b0 : ((wrap64 ((t909.length : Int) + (t910.length : Int))) == (t897.length : Int)) = true := beq_iff_eq.mpr c23
        have c23b1 : ((wrap64 ((t909.length : Int) + (t910.length : Int))) != (t897.length : Int)) = false := bne_eq_false_iff_eq.mpr c23
        clear c23
        (first | rw [c23b0] | (simp only [i64_w, i32_w]; rw [c23b0]) | skip)
        replace H := Option.bind_eq_some_iff.mp H
        obtain ⟨t922, A240, H⟩ := H
        try dsimp only at H
        have A24 := Aside0.mk A240
        clear A240
        replace H := Option.bind_eq_some_iff.mp H
        obtain ⟨t923, A250, H⟩ := H
        try dsimp only at H
        have A25 := Aside0.mk A250
        clear A250
        replace H := Option.bind_eq_some_iff.mp H
        obtain ⟨t924, A260, H⟩ := H
        try dsimp only at H
        have A26 := Aside0.mk A260
        clear A260
        have H' := Aside0.mk H
        clear H
      rotate_left 1
      focus
        rw [if_neg c23] at H
        have c23b0 : ((wrap64 ((t909.length : Int) + (t910.length : Int))) == (t897.length : Int)) = false := beq_eq_false_iff_ne.mpr c23
        have c23b1 : ((wrap64 ((t909.length : Int) + (t910.length : Int))) != (t897.length : Int)) = true := bne_iff_ne.mpr c23
        (first | rw [c23b0] | (simp only [i64_w, i32_w]; rw [c23b0]) | skip)
        have H' := Aside0.mk H
        clear H
      rotate_left 1
      all_goals (go_wp2_with (first | (go_at_call 36; (with_reducible refine (prune_Bytes.calls k _ _ t909 t922 _ ?side1 ?side2 A24.out).mono ?_); (case side1 => repeat (first | exact (Kd.C_below HRb919.out HB.out) | (with_reducible refine Kd.C_alloc ?_ _) | (with_reducible refine Kd.C_drewN ?_ _) | (with_reducible refine Kd.C_drew ?_))); (case side2 => exact HCb919.out); rintro e wz0 ⟨rfl, hb⟩; have n0_ := Aside0.mk (below_step (by repeat (first | (with_reducible first | exact HB.out | apply below_alloc | apply pw_below_drewN | apply below_drew1) | exact HB.out)) hb); clear HB; have HB := n0_; clear n0_; (try clear hb); (try clear hb2); (try clear hk); (try clear hi)) | (go_at_call 36; (with_reducible refine (prune_Bytes.calls k _ _ t910 t923 _ ?side1 ?side2 A25.out).mono ?_); (case side1 => repeat (first | exact (Kd.C_below HRb920.out HB.out) | (with_reducible refine Kd.C_alloc ?_ _) | (with_reducible refine Kd.C_drewN ?_ _) | (with_reducible refine Kd.C_drew ?_))); (case side2 => exact HCb920.out); rintro e wz1 ⟨rfl, hb⟩; have n0_ := Aside0.mk (below_step (by repeat (first | (with_reducible first | exact HB.out | apply below_alloc | apply pw_below_drewN | apply below_drew1) | exact HB.out)) hb); clear HB; have HB := n0_; clear n0_; (try clear hb); (try clear hb2); (try clear hk); (try clear hi)) | (go_at_call 36; (with_reducible refine (prune_Bytes.calls k _ _ t897 t924 _ ?side1 ?side2 A26.out).mono ?_); (case side1 => repeat (first | exact (Kd.C_below HRb916.out HB.out) | (with_reducible refine Kd.C_alloc ?_ _) | (with_reducible refine Kd.C_drewN ?_ _) | (with_reducible refine Kd.C_drew ?_))); (case side2 => exact HCb916.out); rintro e wz2 ⟨rfl, hb⟩; have n0_ := Aside0.mk (below_step (by repeat (first | (with_reducible first | exact HB.out | apply below_alloc | apply pw_below_drewN | apply below_drew1) | exact HB.out)) hb); clear HB; have HB := n0_; clear n0_; (try clear hb); (try clear hb2); (try clear hk); (try clear hi))))
      · go_meet
        case rel => exact ⟨_, (((wrap64 (t922 + t923)) != t924)), (by first | rfl | (simp; done) | (simp [*]; done)), H', ⟨by first | omega | exact Nat.le_refl _⟩, ⟨by repeat (first | (with_reducible first | exact HB.out | apply below_alloc | apply pw_below_drewN | apply below_drew1) | exact HB.out)⟩⟩
      · go_meet
        case rel => exact ⟨_, (true), (by first | rfl | (simp; done) | (simp [*]; done)), H', ⟨by first | omega | exact Nat.le_refl _⟩, ⟨by repeat (first | (with_reducible first | exact HB.out | apply below_alloc | apply pw_below_drewN | apply below_drew1) | exact HB.out)⟩⟩
    case rest =>
      clear HC10
      try clear c1
      try clear c2
      try clear p2
      try clear c3
      try clear c4
      try clear p6
      try clear c9
      try clear c12
      try clear c14
      try clear c23
      try clear c23b0
      try clear c23b1
      try clear c24
      try clear c25
      obtain ⟨kq, x65_9, rfl, HA, HJ9, HB⟩ := hcut
      cases kq with
      | zero => exact absurd HA.out (by simp [storagebarterlaw39_PruneGarbage.j0])
      | succ kj9 =>
        have H := HA.out
        clear HA
        simp only [storagebarterlaw39_PruneGarbage.j0] at H
        by_cases c30 : x65_9 = true
        · subst c30
          rw [if_pos rfl] at H
          exact absurd (H.trans (congrArg some RT_.out)) (by simp)
        · replace c30 := Bool.eq_false_iff.mpr c30
          subst c30
          rw [if_neg (show ¬ (false = true) by decide)] at H
          have H' := Aside0.mk H
          clear H
          go_wp2
          go_loopg [68] kj9 (fun kq v68 w' => ∃ (x68_2 : Int), v68 = .int .i64 x68_2 ∧ Aside0 (storagebarterlaw39_PruneGarbage.l0 kq t903 t909 t910 (t910.length : Int) x68_2 = some r) ∧ Aside0 (kq ≤ kj9) ∧ Aside0 (Below w.heap.size w w'))
          case atStart => exact ⟨(0), (by first | rfl | (simp; done) | (simp [*]; done)), H', ⟨Nat.le_refl _⟩, ⟨by repeat (first | (with_reducible first | exact HB.out | apply below_alloc | apply pw_below_drewN | apply below_drew1) | exact HB.out)⟩⟩
          case round =>
            clear H'
            try clear c1
            try clear c2
            try clear p2
            try clear c3
            try clear c4
            try clear p6
            try clear c9
            try clear c12
            try clear c14
            try clear c23
            try clear c23b0
            try clear c23b1
            try clear c24
            try clear c25
            try clear c30
            try clear p2
            try clear p6
            obtain ⟨x68_2, rfl, HA, HK2, HB⟩ := hrel
            cases gk with
            | zero => exact absurd HA.out (by simp [storagebarterlaw39_PruneGarbage.l0])
            | succ k2 =>
              have H := HA.out
              clear HA
              simp only [storagebarterlaw39_PruneGarbage.l0] at H
              by_cases c31 : x68_2 < (t910.length : Int)
              · rw [if_pos c31] at H
                have c31b0 : decide (x68_2 < (t910.length : Int)) = true := decide_eq_true c31
                clear c31
                by_cases c32 : 0 ≤ x68_2
                · rw [if_pos c32] at H
                  have c32b0 : decide (0 ≤ x68_2) = true := decide_eq_true c32
                  clear c32
                  by_cases c33 : x68_2 < (t910.length : Int)
                  · rw [if_pos c33] at H
                    have c33b0 : decide (x68_2 < (t910.length : Int)) = true := decide_eq_true c33
                    clear c33
                    have H' := Aside0.mk H
                    clear H
                    have p932 : 0 ≤ (x68_2 : Int) := of_decide_eq_true (by first | (with_reducible assumption) | assumption)
                    have q932 : x68_2 < (t910.length : Int) := of_decide_eq_true (by first | (with_reducible assumption) | assumption)
                    obtain ⟨ad932, e932, hx932_0, hx932_1, hx932_2, hx932_3, hx932_4⟩ := at_T72 HRb920.out x68_2 p932 q932
                    cases e932
                    replace hx932_0 := (HB.out.cell (World.block_lt_of_cell? w _ hx932_0)).trans hx932_0
                    replace hx932_1 := (HB.out.cell (World.block_lt_of_cell? w _ hx932_1)).trans hx932_1
                    replace hx932_2 := (HB.out.cell (World.block_lt_of_cell? w _ hx932_2)).trans hx932_2
                    replace hx932_3 := (HB.out.cell (World.block_lt_of_cell? w _ hx932_3)).trans hx932_3
                    replace hx932_4 := (HB.out.cell (World.block_lt_of_cell? w _ hx932_4)).trans hx932_4
                    replace p932 := eq_true p932
                    replace q932 := eq_true q932
                    go_wp2_with (first | ((with_reducible refine gate_dst (N := 14) rfl ?_); (try (refine gate_guard (by rfl) ?_; dsimp only)); refine box_event ?hg (N := 14) ?hd (cs := #[.int .i64 0, .int .i64 0, .int .i64 0, .int .i64 0, .string (⟨#[]⟩ : ByteArray)]) (t := 72) ?hr ?_; (case hd => rfl); (case hg => rfl); (case hr => first | (go_simp; done) | (go_simp; rfl)); intro gb933 hg w34 hbox hb; have n0_ := Aside0.mk (below_step (by repeat (first | (with_reducible first | exact HB.out | apply below_alloc | apply pw_below_drewN | apply below_drew1) | exact HB.out)) hb); have n1_ := Aside0.mk (hbox); have n2_ := Aside0.mk ((by rw [hg]; exact (below_size (by repeat (first | (with_reducible first | exact HB.out | apply below_alloc | apply pw_below_drewN | apply below_drew1) | exact HB.out))) : w.heap.size ≤ gb933)); have n3_ := Aside0.mk ((by rw [hg]; exact (below_size (by repeat (first | (with_reducible first | exact HB.out | apply below_alloc | apply pw_below_drewN | apply below_drew1) | exact HB.out))) : w.heap.size ≤ gb933)); clear HB; have HB := n0_; have BK933 := n1_; have GW933 := n2_; have GE933 := n3_; clear n0_ n1_ n2_ n3_; clear hb hbox hg; have hcz35_0 : w34.cell? ⟨gb933, 0, none⟩ = some (.int .i64 0) := (blk_cell BK933.out 0).trans rfl; have hcz35_1 : w34.cell? ⟨gb933, 1, none⟩ = some (.int .i64 0) := (blk_cell BK933.out 1).trans rfl; have hcz35_2 : w34.cell? ⟨gb933, 2, none⟩ = some (.int .i64 0) := (blk_cell BK933.out 2).trans rfl; have hcz35_3 : w34.cell? ⟨gb933, 3, none⟩ = some (.int .i64 0) := (blk_cell BK933.out 3).trans rfl; have hcz35_4 : w34.cell? ⟨gb933, 4, none⟩ = some (.string (⟨#[]⟩ : ByteArray)) := (blk_cell BK933.out 4).trans rfl; have hfz35_0 := blk_frozen BK933.out 0; have hfz35_1 := blk_frozen BK933.out 1; have hfz35_2 := blk_frozen BK933.out 2; have hfz35_3 := blk_frozen BK933.out 3; have hfz35_4 := blk_frozen BK933.out 4))
                    go_loopg [74] k2 (fun kq v74 w' => ∃ (x74_3 : Int), v74 = .int .i64 x74_3 ∧ Aside0 (storagebarterlaw39_PruneGarbage.l1 kq t903 t909 t910 (t910.length : Int) x68_2 t903 (t903.length : Int) x74_3 ((rd_T72 t910 x68_2).f0) ((rd_T72 t910 x68_2).f1) ((rd_T72 t910 x68_2).f2) ((rd_T72 t910 x68_2).f3) ((rd_T72 t910 x68_2).f4) = some r) ∧ Aside0 (kq ≤ k2) ∧ Aside0 (w'.heap[gb933]? = some (.cells #[.int .i64 ((rd_T72 t910 x68_2).f0), .int .i64 ((rd_T72 t910 x68_2).f1), .int .i64 ((rd_T72 t910 x68_2).f2), .int .i64 ((rd_T72 t910 x68_2).f3), .string ((rd_T72 t910 x68_2).f4)] 72 (0, 0))) ∧ Aside0 (Below w.heap.size w w'))
                    case atStart => exact ⟨(0), (by first | rfl | (simp; done) | (simp [*]; done)), H', ⟨Nat.le_refl _⟩, ⟨by (with_reducible repeat (first | refine blk_drewN ?_ _ | refine blk_drew ?_ | refine blk_alloc ?_ _)); refine blk_put (cs := #[.int .i64 ((rd_T72 t910 x68_2).f0), .int .i64 ((rd_T72 t910 x68_2).f1), .int .i64 ((rd_T72 t910 x68_2).f2), .int .i64 ((rd_T72 t910 x68_2).f3), .string (⟨#[]⟩ : ByteArray)]) ?_ 4 _ rfl; (with_reducible repeat (first | refine blk_drewN ?_ _ | refine blk_drew ?_ | refine blk_alloc ?_ _)); refine blk_put (cs := #[.int .i64 ((rd_T72 t910 x68_2).f0), .int .i64 ((rd_T72 t910 x68_2).f1), .int .i64 ((rd_T72 t910 x68_2).f2), .int .i64 0, .string (⟨#[]⟩ : ByteArray)]) ?_ 3 _ rfl; (with_reducible repeat (first | refine blk_drewN ?_ _ | refine blk_drew ?_ | refine blk_alloc ?_ _)); refine blk_put (cs := #[.int .i64 ((rd_T72 t910 x68_2).f0), .int .i64 ((rd_T72 t910 x68_2).f1), .int .i64 0, .int .i64 0, .string (⟨#[]⟩ : ByteArray)]) ?_ 2 _ rfl; (with_reducible repeat (first | refine blk_drewN ?_ _ | refine blk_drew ?_ | refine blk_alloc ?_ _)); refine blk_put (cs := #[.int .i64 ((rd_T72 t910 x68_2).f0), .int .i64 0, .int .i64 0, .int .i64 0, .string (⟨#[]⟩ : ByteArray)]) ?_ 1 _ rfl; (with_reducible repeat (first | refine blk_drewN ?_ _ | refine blk_drew ?_ | refine blk_alloc ?_ _)); refine blk_put (cs := #[.int .i64 0, .int .i64 0, .int .i64 0, .int .i64 0, .string (⟨#[]⟩ : ByteArray)]) ?_ 0 _ rfl; (with_reducible repeat (first | refine blk_drewN ?_ _ | refine blk_drew ?_ | refine blk_alloc ?_ _)); exact BK933.out⟩, ⟨by repeat (first | (with_reducible first | exact HB.out | apply below_alloc | apply pw_below_drewN | apply below_drew1 | refine below_set ?_ GE933.out) | exact HB.out)⟩⟩
                    case round =>
                      clear H'
                      try clear c1
                      try clear c2
                      try clear p2
                      try clear c3
                      try clear c4
                      try clear p6
                      try clear c9
                      try clear p9
                      try clear q9
                      try clear hx9
                      try clear c12
                      try clear c14
                      try clear c23
                      try clear c23b0
                      try clear c23b1
                      try clear c24
                      try clear c25
                      try clear c30
                      try clear c31
                      try clear c31b0
                      try clear c32
                      try clear c32b0
                      try clear c33
                      try clear c33b0
                      try clear hcz35_0
                      try clear hcz35_1
                      try clear hcz35_2
                      try clear hcz35_3
                      try clear hcz35_4
                      try clear hfz35_0
                      try clear hfz35_1
                      try clear hfz35_2
                      try clear hfz35_3
                      try clear hfz35_4
                      try clear hx932_0
                      try clear hx932_1
                      try clear hx932_2
                      try clear hx932_3
                      try clear hx932_4
                      try clear p2
                      try clear p6
                      try clear p932
                      try clear q932
                      obtain ⟨x74_3, rfl, HA, HK3, BK933, HB⟩ := hrel
                      cases gk with
                      | zero => exact absurd HA.out (by simp [storagebarterlaw39_PruneGarbage.l1])
                      | succ k3 =>
                        have H := HA.out
                        clear HA
                        simp only [storagebarterlaw39_PruneGarbage.l1] at H
                        by_cases c36 : x74_3 < (t903.length : Int)
                        · rw [if_pos c36] at H
                          have c36b0 : decide (x74_3 < (t903.length : Int)) = true := decide_eq_true c36
                          clear c36
                          by_cases c37 : 0 ≤ x74_3
                          · rw [if_pos c37] at H
                            have c37b0 : decide (0 ≤ x74_3) = true := decide_eq_true c37
                            clear c37
                            by_cases c38 : x74_3 < (t903.length : Int)
                            · rw [if_pos c38] at H
                              have c38b0 : decide (x74_3 < (t903.length : Int)) = true := decide_eq_true c38
                              clear c38
                              have H' := Aside0.mk H
                              clear H
                              have p934 : 0 ≤ (x74_3 : Int) := of_decide_eq_true (by first | (with_reducible assumption) | assumption)
                              have q934 : x74_3 < (t903.length : Int) := of_decide_eq_true (by first | (with_reducible assumption) | assumption)
                              obtain ⟨ad934, A934_3, c934_3, A934_4, c934_4, e934, hx934_0, hx934_1, hx934_2, hx934_3, hx934_4, hl934_3, hi934_3, hl934_4, hi934_4⟩ := at_T29 HRb917.out x74_3 p934 q934
                              cases e934
                              replace hx934_0 := (HB.out.cell (World.block_lt_of_cell? w _ hx934_0)).trans hx934_0
                              replace hx934_1 := (HB.out.cell (World.block_lt_of_cell? w _ hx934_1)).trans hx934_1
                              replace hx934_2 := (HB.out.cell (World.block_lt_of_cell? w _ hx934_2)).trans hx934_2
                              replace hx934_3 := (HB.out.cell (World.block_lt_of_cell? w _ hx934_3)).trans hx934_3
                              replace hx934_4 := (HB.out.cell (World.block_lt_of_cell? w _ hx934_4)).trans hx934_4
                              have HR934_3 := Aside0.mk hi934_3
                              have HC934_3 := Aside0.mk hl934_3
                              clear hi934_3 hl934_3
                              have HR934_4 := Aside0.mk hi934_4
                              have HC934_4 := Aside0.mk hl934_4
                              clear hi934_4 hl934_4
                              replace p934 := eq_true p934
                              replace q934 := eq_true q934
                              go_wp2_with (first | ((with_reducible refine gate_dst (N := 16) rfl ?_); (try (refine gate_guard (by rfl) ?_; dsimp only)); refine box_event ?hg (N := 16) ?hd (cs := #[.int .i64 0, .int .i64 0, .int .i64 0, .slice none 0 0, .slice none 0 0]) (t := 29) ?hr ?_; (case hd => rfl); (case hg => rfl); (case hr => first | (go_simp; done) | (go_simp; rfl)); intro gb935 hg w39 hbox hb; have n0_ := Aside0.mk (blk_below (g := gb933) (o := .cells #[.int .i64 ((rd_T72 t910 x68_2).f0), .int .i64 ((rd_T72 t910 x68_2).f1), .int .i64 ((rd_T72 t910 x68_2).f2), .int .i64 ((rd_T72 t910 x68_2).f3), .string ((rd_T72 t910 x68_2).f4)] 72 (0, 0)) (by (with_reducible repeat (first | refine blk_drewN ?_ _ | refine blk_drew ?_ | refine blk_alloc ?_ _)); exact BK933.out) hb); have n1_ := Aside0.mk (below_step (by repeat (first | (with_reducible first | exact HB.out | apply below_alloc | apply pw_below_drewN | apply below_drew1 | refine below_set ?_ GE933.out) | exact HB.out)) hb); have n2_ := Aside0.mk (hbox); have n3_ := Aside0.mk ((by rw [hg]; exact (below_size (by repeat (first | (with_reducible first | exact HB.out | apply below_alloc | apply pw_below_drewN | apply below_drew1 | refine below_set ?_ GE933.out) | exact HB.out))) : w.heap.size ≤ gb935)); have n4_ := Aside0.mk ((by rw [hg]; exact (below_size (by repeat (first | (with_reducible first | exact HB.out | apply below_alloc | apply pw_below_drewN | apply below_drew1 | refine below_set ?_ GE933.out) | exact HB.out))) : w.heap.size ≤ gb935)); have n5_ := Aside0.mk ((by rw [hg]; exact Nat.ne_of_lt (blk_lt (g := gb933) (o := .cells #[.int .i64 ((rd_T72 t910 x68_2).f0), .int .i64 ((rd_T72 t910 x68_2).f1), .int .i64 ((rd_T72 t910 x68_2).f2), .int .i64 ((rd_T72 t910 x68_2).f3), .string ((rd_T72 t910 x68_2).f4)] 72 (0, 0)) (by (with_reducible repeat (first | refine blk_drewN ?_ _ | refine blk_drew ?_ | refine blk_alloc ?_ _)); exact BK933.out)) : gb933 ≠ gb935)); have n6_ := Aside0.mk ((by rw [hg]; exact Nat.ne_of_gt (blk_lt (g := gb933) (o := .cells #[.int .i64 ((rd_T72 t910 x68_2).f0), .int .i64 ((rd_T72 t910 x68_2).f1), .int .i64 ((rd_T72 t910 x68_2).f2), .int .i64 ((rd_T72 t910 x68_2).f3), .string ((rd_T72 t910 x68_2).f4)] 72 (0, 0)) (by (with_reducible repeat (first | refine blk_drewN ?_ _ | refine blk_drew ?_ | refine blk_alloc ?_ _)); exact BK933.out)) : gb935 ≠ gb933)); clear BK933; clear HB; have BK933 := n0_; have HB := n1_; have BK935 := n2_; have GW935 := n3_; have GE935 := n4_; have NB933_935 := n5_; have NB935_933 := n6_; clear n0_ n1_ n2_ n3_ n4_ n5_ n6_; clear hb hbox hg; have hnb40 := NB935_933.out; have hnc40 := NB933_935.out; have hcz41_0 : w39.cell? ⟨gb935, 0, none⟩ = some (.int .i64 0) := (blk_cell BK935.out 0).trans rfl; have hcz41_1 : w39.cell? ⟨gb935, 1, none⟩ = some (.int .i64 0) := (blk_cell BK935.out 1).trans rfl; have hcz41_2 : w39.cell? ⟨gb935, 2, none⟩ = some (.int .i64 0) := (blk_cell BK935.out 2).trans rfl; have hcz41_3 : w39.cell? ⟨gb935, 3, none⟩ = some (.slice none 0 0) := (blk_cell BK935.out 3).trans rfl; have hcz41_4 : w39.cell? ⟨gb935, 4, none⟩ = some (.slice none 0 0) := (blk_cell BK935.out 4).trans rfl; have hfz41_0 := blk_frozen BK935.out 0; have hfz41_1 := blk_frozen BK935.out 1; have hfz41_2 := blk_frozen BK935.out 2; have hfz41_3 := blk_frozen BK935.out 3; have hfz41_4 := blk_frozen BK935.out 4))
                              go_loopg [81] k3 (fun kq v81 w' => ∃ (x81_4 : Int), v81 = .int .i64 x81_4 ∧ Aside0 (storagebarterlaw39_PruneGarbage.l2 kq t903 t909 t910 (t910.length : Int) x68_2 t903 (t903.length : Int) x74_3 ((rd_T29 t903 x74_3).f4) (((rd_T29 t903 x74_3).f4).length : Int) x81_4 ((rd_T72 t910 x68_2).f0) ((rd_T72 t910 x68_2).f1) ((rd_T72 t910 x68_2).f2) ((rd_T72 t910 x68_2).f3) ((rd_T72 t910 x68_2).f4) ((rd_T29 t903 x74_3).f0) ((rd_T29 t903 x74_3).f1) ((rd_T29 t903 x74_3).f2) ((rd_T29 t903 x74_3).f3) ((rd_T29 t903 x74_3).f4) = some r) ∧ Aside0 (kq ≤ k3) ∧ Aside0 (w'.heap[gb933]? = some (.cells #[.int .i64 ((rd_T72 t910 x68_2).f0), .int .i64 ((rd_T72 t910 x68_2).f1), .int .i64 ((rd_T72 t910 x68_2).f2), .int .i64 ((rd_T72 t910 x68_2).f3), .string ((rd_T72 t910 x68_2).f4)] 72 (0, 0))) ∧ Aside0 (w'.heap[gb935]? = some (.cells #[.int .i64 ((rd_T29 t903 x74_3).f0), .int .i64 ((rd_T29 t903 x74_3).f1), .int .i64 ((rd_T29 t903 x74_3).f2), (.slice A934_3 ((rd_T29 t903 x74_3).f3).length c934_3), (.slice A934_4 ((rd_T29 t903 x74_3).f4).length c934_4)] 29 (0, 0))) ∧ Aside0 (Below w.heap.size w w'))
                              case atStart => exact ⟨(0), (by first | rfl | (simp; done) | (simp [*]; done)), H', ⟨Nat.le_refl _⟩, ⟨by (with_reducible repeat (first | refine blk_drewN ?_ _ | refine blk_drew ?_ | refine blk_alloc ?_ _)); refine blk_far ?_ NB933_935.out _; (with_reducible repeat (first | refine blk_drewN ?_ _ | refine blk_drew ?_ | refine blk_alloc ?_ _)); refine blk_far ?_ NB933_935.out _; (with_reducible repeat (first | refine blk_drewN ?_ _ | refine blk_drew ?_ | refine blk_alloc ?_ _)); refine blk_far ?_ NB933_935.out _; (with_reducible repeat (first | refine blk_drewN ?_ _ | refine blk_drew ?_ | refine blk_alloc ?_ _)); refine blk_far ?_ NB933_935.out _; (with_reducible repeat (first | refine blk_drewN ?_ _ | refine blk_drew ?_ | refine blk_alloc ?_ _)); refine blk_far ?_ NB933_935.out _; (with_reducible repeat (first | refine blk_drewN ?_ _ | refine blk_drew ?_ | refine blk_alloc ?_ _)); exact BK933.out⟩, ⟨by (with_reducible repeat (first | refine blk_drewN ?_ _ | refine blk_drew ?_ | refine blk_alloc ?_ _)); refine blk_put (cs := #[.int .i64 ((rd_T29 t903 x74_3).f0), .int .i64 ((rd_T29 t903 x74_3).f1), .int .i64 ((rd_T29 t903 x74_3).f2), .slice A934_3 ((rd_T29 t903 x74_3).f3).length c934_3, .slice none 0 0]) ?_ 4 _ rfl; (with_reducible repeat (first | refine blk_drewN ?_ _ | refine blk_drew ?_ | refine blk_alloc ?_ _)); refine blk_put (cs := #[.int .i64 ((rd_T29 t903 x74_3).f0), .int .i64 ((rd_T29 t903 x74_3).f1), .int .i64 ((rd_T29 t903 x74_3).f2), .slice none 0 0, .slice none 0 0]) ?_ 3 _ rfl; (with_reducible repeat (first | refine blk_drewN ?_ _ | refine blk_drew ?_ | refine blk_alloc ?_ _)); refine blk_put (cs := #[.int .i64 ((rd_T29 t903 x74_3).f0), .int .i64 ((rd_T29 t903 x74_3).f1), .int .i64 0, .slice none 0 0, .slice none 0 0]) ?_ 2 _ rfl; (with_reducible repeat (first | refine blk_drewN ?_ _ | refine blk_drew ?_ | refine blk_alloc ?_ _)); refine blk_put (cs := #[.int .i64 ((rd_T29 t903 x74_3).f0), .int .i64 0, .int .i64 0, .slice none 0 0, .slice none 0 0]) ?_ 1 _ rfl; (with_reducible repeat (first | refine blk_drewN ?_ _ | refine blk_drew ?_ | refine blk_alloc ?_ _)); refine blk_put (cs := #[.int .i64 0, .int .i64 0, .int .i64 0, .slice none 0 0, .slice none 0 0]) ?_ 0 _ rfl; (with_reducible repeat (first | refine blk_drewN ?_ _ | refine blk_drew ?_ | refine blk_alloc ?_ _)); exact BK935.out⟩, ⟨by repeat (first | (with_reducible first | exact HB.out | apply below_alloc | apply pw_below_drewN | apply below_drew1 | refine below_set ?_ GE933.out | refine below_set ?_ GE935.out) | exact HB.out)⟩⟩
                              case round =>
                                clear H'
                                try clear c1
                                try clear c2
                                try clear p2
                                try clear c3
                                try clear c4
                                try clear p6
                                try clear c9
                                try clear p9
                                try clear q9
                                try clear hx9
                                try clear c12
                                try clear c14
                                try clear c23
                                try clear c23b0
                                try clear c23b1
                                try clear c24
                                try clear c25
                                try clear c30
                                try clear c31
                                try clear c31b0
                                try clear c32
                                try clear c32b0
                                try clear c33
                                try clear c33b0
                                try clear c36
                                try clear c36b0
                                try clear c37
                                try clear c37b0
                                try clear c38
                                try clear c38b0
                                try clear c40
                                try clear hcz35_0
                                try clear hcz35_1
                                try clear hcz35_2
                                try clear hcz35_3
                                try clear hcz35_4
                                try clear hcz41_0
                                try clear hcz41_1
                                try clear hcz41_2
                                try clear hcz41_3
                                try clear hcz41_4
                                try clear hfz35_0
                                try clear hfz35_1
                                try clear hfz35_2
                                try clear hfz35_3
                                try clear hfz35_4
                                try clear hfz41_0
                                try clear hfz41_1
                                try clear hfz41_2
                                try clear hfz41_3
                                try clear hfz41_4
                                try clear hx932_0
                                try clear hx932_1
                                try clear hx932_2
                                try clear hx932_3
                                try clear hx932_4
                                try clear hx934_0
                                try clear hx934_1
                                try clear hx934_2
                                try clear hx934_3
                                try clear hx934_4
                                try clear p2
                                try clear p6
                                try clear p9
                                try clear p932
                                try clear p934
                                try clear q9
                                try clear q932
                                try clear q934
                                obtain ⟨x81_4, rfl, HA, HK4, BK933, BK935, HB⟩ := hrel
                                cases gk with
                                | zero => exact absurd HA.out (by simp [storagebarterlaw39_PruneGarbage.l2])
                                | succ k4 =>
                                  have H := HA.out
                                  clear HA
                                  simp only [storagebarterlaw39_PruneGarbage.l2] at H
                                  by_cases c42 : x81_4 < (((rd_T29 t903 x74_3).f4).length : Int)
                                  · rw [if_pos c42] at H
                                    have c42b0 : decide (x81_4 < (((rd_T29 t903 x74_3).f4).length : Int)) = true := decide_eq_true c42
                                    clear c42
                                    by_cases c43 : 0 ≤ x81_4
                                    · rw [if_pos c43] at H
                                      have c43b0 : decide (0 ≤ x81_4) = true := decide_eq_true c43
                                      clear c43
                                      by_cases c44 : x81_4 < (((rd_T29 t903 x74_3).f4).length : Int)
                                      · rw [if_pos c44] at H
                                        have c44b0 : decide (x81_4 < (((rd_T29 t903 x74_3).f4).length : Int)) = true := decide_eq_true c44
                                        clear c44
                                        by_cases c45 : ((rd_T29 t903 x74_3).f0) = ((rd_T72 t910 x68_2).f0)
                                        · rw [if_pos c45] at H
                                          have c45b0 : (((rd_T29 t903 x74_3).f0) == ((rd_T72 t910 x68_2).f0)) = true := beq_iff_eq.mpr c45
                                          have c45b1 : (((rd_T29 t903 x74_3).f0) != ((rd_T72 t910 x68_2).f0)) = false := bne_eq_false_iff_eq.mpr c45
                                          clear c45
                                          by_cases c46 : ((rd_T29 t903 x74_3).f1) = ((rd_T72 t910 x68_2).f1)
                                          · rw [if_pos c46] at H
                                            have c46b0 : (((rd_T29 t903 x74_3).f1) == ((rd_T72 t910 x68_2).f1)) = true := beq_iff_eq.mpr c46
                                            have c46b1 : (((rd_T29 t903 x74_3).f1) != ((rd_T72 t910 x68_2).f1)) = false := bne_eq_false_iff_eq.mpr c46
                                            clear c46
                                            by_cases c47 : (((rd_T74 ((rd_T29 t903 x74_3).f4) x81_4).f0) == ((rd_T72 t910 x68_2).f2) && (((rd_T74 ((rd_T29 t903 x74_3).f4) x81_4).f1) == ((rd_T72 t910 x68_2).f3) && (((rd_T74 ((rd_T29 t903 x74_3).f4) x81_4).f2) == 4))) = true
                                            · rw [if_pos c47] at H
                                              exact absurd (H.trans (congrArg some RT_.out)) (by simp)
                                            · rw [if_neg c47] at H
                                              have c47b0 : (((rd_T74 ((rd_T29 t903 x74_3).f4) x81_4).f0) == ((rd_T72 t910 x68_2).f2) && (((rd_T74 ((rd_T29 t903 x74_3).f4) x81_4).f1) == ((rd_T72 t910 x68_2).f3) && (((rd_T74 ((rd_T29 t903 x74_3).f4) x81_4).f2) == 4))) = false := by simpa using c47
                                              (try (have c47b1 : decide (((rd_T74 ((rd_T29 t903 x74_3).f4) x81_4).f0) = ((rd_T72 t910 x68_2).f2) && (((rd_T74 ((rd_T29 t903 x74_3).f4) x81_4).f1) == ((rd_T72 t910 x68_2).f3) && (((rd_T74 ((rd_T29 t903 x74_3).f4) x81_4).f2) == 4))) = false := by simpa using c47))
                                              (try (have c47b2 : (((rd_T74 ((rd_T29 t903 x74_3).f4) x81_4).f0) == ((rd_T72 t910 x68_2).f2) && (((rd_T74 ((rd_T29 t903 x74_3).f4) x81_4).f1) == ((rd_T72 t910 x68_2).f3) && (((rd_T74 ((rd_T29 t903 x74_3).f4) x81_4).f2) == 4))) = false := by simpa using c47))
                                              (try (have c47b3 : ¬ (((rd_T74 ((rd_T29 t903 x74_3).f4) x81_4).f0) = ((rd_T72 t910 x68_2).f2) && (((rd_T74 ((rd_T29 t903 x74_3).f4) x81_4).f1) == ((rd_T72 t910 x68_2).f3) && (((rd_T74 ((rd_T29 t903 x74_3).f4) x81_4).f2) == 4))) := by simpa using c47))
                                              clear c47
                                              have H' := Aside0.mk H
                                              clear H
                                              have p936 : 0 ≤ (x81_4 : Int) := of_decide_eq_true (by first | (with_reducible assumption) | assumption)
                                              have q936 : x81_4 < (((rd_T29 t903 x74_3).f4).length : Int) := of_decide_eq_true (by first | (with_reducible assumption) | assumption)
                                              obtain ⟨ad936, e936, hx936_0, hx936_1, hx936_2⟩ := at_T74 HR934_4.out x81_4 p936 q936
                                              cases e936
                                              replace hx936_0 := (HB.out.cell (World.block_lt_of_cell? w _ hx936_0)).trans hx936_0
                                              replace hx936_1 := (HB.out.cell (World.block_lt_of_cell? w _ hx936_1)).trans hx936_1
                                              replace hx936_2 := (HB.out.cell (World.block_lt_of_cell? w _ hx936_2)).trans hx936_2
                                              replace p936 := eq_true p936
                                              replace q936 := eq_true q936
                                              go_wp2_with (first | ((with_reducible refine gate_dst (N := 18) rfl ?_); (try (refine gate_guard (by rfl) ?_; dsimp only)); refine box_event ?hg (N := 18) ?hd (cs := #[.int .i64 0, .int .i64 0, .int .i64 0]) (t := 74) ?hr ?_; (case hd => rfl); (case hg => rfl); (case hr => first | (go_simp; done) | (go_simp; rfl)); intro gb937 hg w48 hbox hb; have n0_ := Aside0.mk (blk_below (g := gb933) (o := .cells #[.int .i64 ((rd_T72 t910 x68_2).f0), .int .i64 ((rd_T72 t910 x68_2).f1), .int .i64 ((rd_T72 t910 x68_2).f2), .int .i64 ((rd_T72 t910 x68_2).f3), .string ((rd_T72 t910 x68_2).f4)] 72 (0, 0)) (by (with_reducible repeat (first | refine blk_drewN ?_ _ | refine blk_drew ?_ | refine blk_alloc ?_ _)); exact BK933.out) hb); have n1_ := Aside0.mk (blk_below (g := gb935) (o := .cells #[.int .i64 ((rd_T29 t903 x74_3).f0), .int .i64 ((rd_T29 t903 x74_3).f1), .int .i64 ((rd_T29 t903 x74_3).f2), .slice A934_3 ((rd_T29 t903 x74_3).f3).length c934_3, .slice (some ad936) ((rd_T29 t903 x74_3).f4).length c934_4] 29 (0, 0)) (by (with_reducible repeat (first | refine blk_drewN ?_ _ | refine blk_drew ?_ | refine blk_alloc ?_ _)); exact BK935.out) hb); have n2_ := Aside0.mk (below_step (by repeat (first | (with_reducible first | exact HB.out | apply below_alloc | apply pw_below_drewN | apply below_drew1 | refine below_set ?_ GE933.out | refine below_set ?_ GE935.out) | exact HB.out)) hb); have n3_ := Aside0.mk (hbox); have n4_ := Aside0.mk ((by rw [hg]; exact (below_size (by repeat (first | (with_reducible first | exact HB.out | apply below_alloc | apply pw_below_drewN | apply below_drew1 | refine below_set ?_ GE933.out | refine below_set ?_ GE935.out) | exact HB.out))) : w.heap.size ≤ gb937)); have n5_ := Aside0.mk ((by rw [hg]; exact (below_size (by repeat (first | (with_reducible first | exact HB.out | apply below_alloc | apply pw_below_drewN | apply below_drew1 | refine below_set ?_ GE933.out | refine below_set ?_ GE935.out) | exact HB.out))) : w.heap.size ≤ gb937)); have n6_ := Aside0.mk ((by rw [hg]; exact Nat.ne_of_lt (blk_lt (g := gb933) (o := .cells #[.int .i64 ((rd_T72 t910 x68_2).f0), .int .i64 ((rd_T72 t910 x68_2).f1), .int .i64 ((rd_T72 t910 x68_2).f2), .int .i64 ((rd_T72 t910 x68_2).f3), .string ((rd_T72 t910 x68_2).f4)] 72 (0, 0)) (by (with_reducible repeat (first | refine blk_drewN ?_ _ | refine blk_drew ?_ | refine blk_alloc ?_ _)); exact BK933.out)) : gb933 ≠ gb937)); have n7_ := Aside0.mk ((by rw [hg]; exact Nat.ne_of_gt (blk_lt (g := gb933) (o := .cells #[.int .i64 ((rd_T72 t910 x68_2).f0), .int .i64 ((rd_T72 t910 x68_2).f1), .int .i64 ((rd_T72 t910 x68_2).f2), .int .i64 ((rd_T72 t910 x68_2).f3), .string ((rd_T72 t910 x68_2).f4)] 72 (0, 0)) (by (with_reducible repeat (first | refine blk_drewN ?_ _ | refine blk_drew ?_ | refine blk_alloc ?_ _)); exact BK933.out)) : gb937 ≠ gb933)); have n8_ := Aside0.mk ((by rw [hg]; exact Nat.ne_of_lt (blk_lt (g := gb935) (o := .cells #[.int .i64 ((rd_T29 t903 x74_3).f0), .int .i64 ((rd_T29 t903 x74_3).f1), .int .i64 ((rd_T29 t903 x74_3).f2), .slice A934_3 ((rd_T29 t903 x74_3).f3).length c934_3, .slice (some ad936) ((rd_T29 t903 x74_3).f4).length c934_4] 29 (0, 0)) (by (with_reducible repeat (first | refine blk_drewN ?_ _ | refine blk_drew ?_ | refine blk_alloc ?_ _)); exact BK935.out)) : gb935 ≠ gb937)); have n9_ := Aside0.mk ((by rw [hg]; exact Nat.ne_of_gt (blk_lt (g := gb935) (o := .cells #[.int .i64 ((rd_T29 t903 x74_3).f0), .int .i64 ((rd_T29 t903 x74_3).f1), .int .i64 ((rd_T29 t903 x74_3).f2), .slice A934_3 ((rd_T29 t903 x74_3).f3).length c934_3, .slice (some ad936) ((rd_T29 t903 x74_3).f4).length c934_4] 29 (0, 0)) (by (with_reducible repeat (first | refine blk_drewN ?_ _ | refine blk_drew ?_ | refine blk_alloc ?_ _)); exact BK935.out)) : gb937 ≠ gb935)); clear BK933; clear BK935; clear HB; have BK933 := n0_; have BK935 := n1_; have HB := n2_; have BK937 := n3_; have GW937 := n4_; have GE937 := n5_; have NB933_937 := n6_; have NB937_933 := n7_; have NB935_937 := n8_; have NB937_935 := n9_; clear n0_ n1_ n2_ n3_ n4_ n5_ n6_ n7_ n8_ n9_; clear hb hbox hg; have hnb49 := NB937_933.out; have hnc49 := NB933_937.out; have hnb50 := NB937_935.out; have hnc50 := NB935_937.out; have hcz51_0 : w48.cell? ⟨gb937, 0, none⟩ = some (.int .i64 0) := (blk_cell BK937.out 0).trans rfl; have hcz51_1 : w48.cell? ⟨gb937, 1, none⟩ = some (.int .i64 0) := (blk_cell BK937.out 1).trans rfl; have hcz51_2 : w48.cell? ⟨gb937, 2, none⟩ = some (.int .i64 0) := (blk_cell BK937.out 2).trans rfl; have hfz51_0 := blk_frozen BK937.out 0; have hfz51_1 := blk_frozen BK937.out 1; have hfz51_2 := blk_frozen BK937.out 2; have hnb52 := NB935_933.out; have hnc52 := NB933_935.out; have hcz53_0 : w48.cell? ⟨gb935, 0, none⟩ = some (.int .i64 ((rd_T29 t903 x74_3).f0)) := (blk_cell BK935.out 0).trans rfl; have hcz53_1 : w48.cell? ⟨gb935, 1, none⟩ = some (.int .i64 ((rd_T29 t903 x74_3).f1)) := (blk_cell BK935.out 1).trans rfl; have hcz53_2 : w48.cell? ⟨gb935, 2, none⟩ = some (.int .i64 ((rd_T29 t903 x74_3).f2)) := (blk_cell BK935.out 2).trans rfl; have hcz53_3 : w48.cell? ⟨gb935, 3, none⟩ = some (.slice A934_3 ((rd_T29 t903 x74_3).f3).length c934_3) := (blk_cell BK935.out 3).trans rfl; have hcz53_4 : w48.cell? ⟨gb935, 4, none⟩ = some (.slice (some ad936) ((rd_T29 t903 x74_3).f4).length c934_4) := (blk_cell BK935.out 4).trans rfl; have hfz53_0 := blk_frozen BK935.out 0; have hfz53_1 := blk_frozen BK935.out 1; have hfz53_2 := blk_frozen BK935.out 2; have hfz53_3 := blk_frozen BK935.out 3; have hfz53_4 := blk_frozen BK935.out 4; have hcz54_0 : w48.cell? ⟨gb933, 0, none⟩ = some (.int .i64 ((rd_T72 t910 x68_2).f0)) := (blk_cell BK933.out 0).trans rfl; have hcz54_1 : w48.cell? ⟨gb933, 1, none⟩ = some (.int .i64 ((rd_T72 t910 x68_2).f1)) := (blk_cell BK933.out 1).trans rfl; have hcz54_2 : w48.cell? ⟨gb933, 2, none⟩ = some (.int .i64 ((rd_T72 t910 x68_2).f2)) := (blk_cell BK933.out 2).trans rfl; have hcz54_3 : w48.cell? ⟨gb933, 3, none⟩ = some (.int .i64 ((rd_T72 t910 x68_2).f3)) := (blk_cell BK933.out 3).trans rfl; have hcz54_4 : w48.cell? ⟨gb933, 4, none⟩ = some (.string ((rd_T72 t910 x68_2).f4)) := (blk_cell BK933.out 4).trans rfl; have hfz54_0 := blk_frozen BK933.out 0; have hfz54_1 := blk_frozen BK933.out 1; have hfz54_2 := blk_frozen BK933.out 2; have hfz54_3 := blk_frozen BK933.out 3; have hfz54_4 := blk_frozen BK933.out 4))
                                              go_roundg k4
                                              case measure => have := HJ9.out; have := HK2.out; have := HK3.out; have := HK4.out; omega
                                              case rel => exact ⟨(wrap64 (x81_4 + 1)), (by first | rfl | (simp; done) | (simp [*]; done)), H', ⟨by have := HJ9.out; have := HK2.out; have := HK3.out; have := HK4.out; omega⟩, ⟨by (with_reducible repeat (first | refine blk_drewN ?_ _ | refine blk_drew ?_ | refine blk_alloc ?_ _)); refine blk_far ?_ NB933_937.out _; (with_reducible repeat (first | refine blk_drewN ?_ _ | refine blk_drew ?_ | refine blk_alloc ?_ _)); refine blk_far ?_ NB933_937.out _; (with_reducible repeat (first | refine blk_drewN ?_ _ | refine blk_drew ?_ | refine blk_alloc ?_ _)); refine blk_far ?_ NB933_937.out _; (with_reducible repeat (first | refine blk_drewN ?_ _ | refine blk_drew ?_ | refine blk_alloc ?_ _)); exact BK933.out⟩, ⟨by (with_reducible repeat (first | refine blk_drewN ?_ _ | refine blk_drew ?_ | refine blk_alloc ?_ _)); refine blk_far ?_ NB935_937.out _; (with_reducible repeat (first | refine blk_drewN ?_ _ | refine blk_drew ?_ | refine blk_alloc ?_ _)); refine blk_far ?_ NB935_937.out _; (with_reducible repeat (first | refine blk_drewN ?_ _ | refine blk_drew ?_ | refine blk_alloc ?_ _)); refine blk_far ?_ NB935_937.out _; (with_reducible repeat (first | refine blk_drewN ?_ _ | refine blk_drew ?_ | refine blk_alloc ?_ _)); exact BK935.out⟩, ⟨by repeat (first | (with_reducible first | exact HB.out | apply below_alloc | apply pw_below_drewN | apply below_drew1 | refine below_set ?_ GE933.out | refine below_set ?_ GE935.out | refine below_set ?_ GE937.out) | exact HB.out)⟩⟩
                                          · rw [if_neg c46] at H
                                            have c46b0 : (((rd_T29 t903 x74_3).f1) == ((rd_T72 t910 x68_2).f1)) = false := beq_eq_false_iff_ne.mpr c46
                                            have c46b1 : (((rd_T29 t903 x74_3).f1) != ((rd_T72 t910 x68_2).f1)) = true := bne_iff_ne.mpr c46
                                            have H' := Aside0.mk H
                                            clear H
                                            have p936 : 0 ≤ (x81_4 : Int) := of_decide_eq_true (by first | (with_reducible assumption) | assumption)
                                            have q936 : x81_4 < (((rd_T29 t903 x74_3).f4).length : Int) := of_decide_eq_true (by first | (with_reducible assumption) | assumption)
                                            obtain ⟨ad936, e936, hx936_0, hx936_1, hx936_2⟩ := at_T74 HR934_4.out x81_4 p936 q936
                                            cases e936
                                            replace hx936_0 := (HB.out.cell (World.block_lt_of_cell? w _ hx936_0)).trans hx936_0
                                            replace hx936_1 := (HB.out.cell (World.block_lt_of_cell? w _ hx936_1)).trans hx936_1
                                            replace hx936_2 := (HB.out.cell (World.block_lt_of_cell? w _ hx936_2)).trans hx936_2
                                            replace p936 := eq_true p936
                                            replace q936 := eq_true q936
                                            go_wp2_with (first | ((with_reducible refine gate_dst (N := 18) rfl ?_); (try (refine gate_guard (by rfl) ?_; dsimp only)); refine box_event ?hg (N := 18) ?hd (cs := #[.int .i64 0, .int .i64 0, .int .i64 0]) (t := 74) ?hr ?_; (case hd => rfl); (case hg => rfl); (case hr => first | (go_simp; done) | (go_simp; rfl)); intro gb937 hg w55 hbox hb; have n0_ := Aside0.mk (blk_below (g := gb933) (o := .cells #[.int .i64 ((rd_T72 t910 x68_2).f0), .int .i64 ((rd_T72 t910 x68_2).f1), .int .i64 ((rd_T72 t910 x68_2).f2), .int .i64 ((rd_T72 t910 x68_2).f3), .string ((rd_T72 t910 x68_2).f4)] 72 (0, 0)) (by (with_reducible repeat (first | refine blk_drewN ?_ _ | refine blk_drew ?_ | refine blk_alloc ?_ _)); exact BK933.out) hb); have n1_ := Aside0.mk (blk_below (g := gb935) (o := .cells #[.int .i64 ((rd_T29 t903 x74_3).f0), .int .i64 ((rd_T29 t903 x74_3).f1), .int .i64 ((rd_T29 t903 x74_3).f2), .slice A934_3 ((rd_T29 t903 x74_3).f3).length c934_3, .slice (some ad936) ((rd_T29 t903 x74_3).f4).length c934_4] 29 (0, 0)) (by (with_reducible repeat (first | refine blk_drewN ?_ _ | refine blk_drew ?_ | refine blk_alloc ?_ _)); exact BK935.out) hb); have n2_ := Aside0.mk (below_step (by repeat (first | (with_reducible first | exact HB.out | apply below_alloc | apply pw_below_drewN | apply below_drew1 | refine below_set ?_ GE933.out | refine below_set ?_ GE935.out) | exact HB.out)) hb); have n3_ := Aside0.mk (hbox); have n4_ := Aside0.mk ((by rw [hg]; exact (below_size (by repeat (first | (with_reducible first | exact HB.out | apply below_alloc | apply pw_below_drewN | apply below_drew1 | refine below_set ?_ GE933.out | refine below_set ?_ GE935.out) | exact HB.out))) : w.heap.size ≤ gb937)); have n5_ := Aside0.mk ((by rw [hg]; exact (below_size (by repeat (first | (with_reducible first | exact HB.out | apply below_alloc | apply pw_below_drewN | apply below_drew1 | refine below_set ?_ GE933.out | refine below_set ?_ GE935.out) | exact HB.out))) : w.heap.size ≤ gb937)); have n6_ := Aside0.mk ((by rw [hg]; exact Nat.ne_of_lt (blk_lt (g := gb933) (o := .cells #[.int .i64 ((rd_T72 t910 x68_2).f0), .int .i64 ((rd_T72 t910 x68_2).f1), .int .i64 ((rd_T72 t910 x68_2).f2), .int .i64 ((rd_T72 t910 x68_2).f3), .string ((rd_T72 t910 x68_2).f4)] 72 (0, 0)) (by (with_reducible repeat (first | refine blk_drewN ?_ _ | refine blk_drew ?_ | refine blk_alloc ?_ _)); exact BK933.out)) : gb933 ≠ gb937)); have n7_ := Aside0.mk ((by rw [hg]; exact Nat.ne_of_gt (blk_lt (g := gb933) (o := .cells #[.int .i64 ((rd_T72 t910 x68_2).f0), .int .i64 ((rd_T72 t910 x68_2).f1), .int .i64 ((rd_T72 t910 x68_2).f2), .int .i64 ((rd_T72 t910 x68_2).f3), .string ((rd_T72 t910 x68_2).f4)] 72 (0, 0)) (by (with_reducible repeat (first | refine blk_drewN ?_ _ | refine blk_drew ?_ | refine blk_alloc ?_ _)); exact BK933.out)) : gb937 ≠ gb933)); have n8_ := Aside0.mk ((by rw [hg]; exact Nat.ne_of_lt (blk_lt (g := gb935) (o := .cells #[.int .i64 ((rd_T29 t903 x74_3).f0), .int .i64 ((rd_T29 t903 x74_3).f1), .int .i64 ((rd_T29 t903 x74_3).f2), .slice A934_3 ((rd_T29 t903 x74_3).f3).length c934_3, .slice (some ad936) ((rd_T29 t903 x74_3).f4).length c934_4] 29 (0, 0)) (by (with_reducible repeat (first | refine blk_drewN ?_ _ | refine blk_drew ?_ | refine blk_alloc ?_ _)); exact BK935.out)) : gb935 ≠ gb937)); have n9_ := Aside0.mk ((by rw [hg]; exact Nat.ne_of_gt (blk_lt (g := gb935) (o := .cells #[.int .i64 ((rd_T29 t903 x74_3).f0), .int .i64 ((rd_T29 t903 x74_3).f1), .int .i64 ((rd_T29 t903 x74_3).f2), .slice A934_3 ((rd_T29 t903 x74_3).f3).length c934_3, .slice (some ad936) ((rd_T29 t903 x74_3).f4).length c934_4] 29 (0, 0)) (by (with_reducible repeat (first | refine blk_drewN ?_ _ | refine blk_drew ?_ | refine blk_alloc ?_ _)); exact BK935.out)) : gb937 ≠ gb935)); clear BK933; clear BK935; clear HB; have BK933 := n0_; have BK935 := n1_; have HB := n2_; have BK937 := n3_; have GW937 := n4_; have GE937 := n5_; have NB933_937 := n6_; have NB937_933 := n7_; have NB935_937 := n8_; have NB937_935 := n9_; clear n0_ n1_ n2_ n3_ n4_ n5_ n6_ n7_ n8_ n9_; clear hb hbox hg; have hnb56 := NB937_933.out; have hnc56 := NB933_937.out; have hnb57 := NB937_935.out; have hnc57 := NB935_937.out; have hcz58_0 : w55.cell? ⟨gb937, 0, none⟩ = some (.int .i64 0) := (blk_cell BK937.out 0).trans rfl; have hcz58_1 : w55.cell? ⟨gb937, 1, none⟩ = some (.int .i64 0) := (blk_cell BK937.out 1).trans rfl; have hcz58_2 : w55.cell? ⟨gb937, 2, none⟩ = some (.int .i64 0) := (blk_cell BK937.out 2).trans rfl; have hfz58_0 := blk_frozen BK937.out 0; have hfz58_1 := blk_frozen BK937.out 1; have hfz58_2 := blk_frozen BK937.out 2; have hnb59 := NB935_933.out; have hnc59 := NB933_935.out; have hcz60_0 : w55.cell? ⟨gb935, 0, none⟩ = some (.int .i64 ((rd_T29 t903 x74_3).f0)) := (blk_cell BK935.out 0).trans rfl; have hcz60_1 : w55.cell? ⟨gb935, 1, none⟩ = some (.int .i64 ((rd_T29 t903 x74_3).f1)) := (blk_cell BK935.out 1).trans rfl; have hcz60_2 : w55.cell? ⟨gb935, 2, none⟩ = some (.int .i64 ((rd_T29 t903 x74_3).f2)) := (blk_cell BK935.out 2).trans rfl; have hcz60_3 : w55.cell? ⟨gb935, 3, none⟩ = some (.slice A934_3 ((rd_T29 t903 x74_3).f3).length c934_3) := (blk_cell BK935.out 3).trans rfl; have hcz60_4 : w55.cell? ⟨gb935, 4, none⟩ = some (.slice (some ad936) ((rd_T29 t903 x74_3).f4).length c934_4) := (blk_cell BK935.out 4).trans rfl; have hfz60_0 := blk_frozen BK935.out 0; have hfz60_1 := blk_frozen BK935.out 1; have hfz60_2 := blk_frozen BK935.out 2; have hfz60_3 := blk_frozen BK935.out 3; have hfz60_4 := blk_frozen BK935.out 4; have hcz61_0 : w55.cell? ⟨gb933, 0, none⟩ = some (.int .i64 ((rd_T72 t910 x68_2).f0)) := (blk_cell BK933.out 0).trans rfl; have hcz61_1 : w55.cell? ⟨gb933, 1, none⟩ = some (.int .i64 ((rd_T72 t910 x68_2).f1)) := (blk_cell BK933.out 1).trans rfl; have hcz61_2 : w55.cell? ⟨gb933, 2, none⟩ = some (.int .i64 ((rd_T72 t910 x68_2).f2)) := (blk_cell BK933.out 2).trans rfl; have hcz61_3 : w55.cell? ⟨gb933, 3, none⟩ = some (.int .i64 ((rd_T72 t910 x68_2).f3)) := (blk_cell BK933.out 3).trans rfl; have hcz61_4 : w55.cell? ⟨gb933, 4, none⟩ = some (.string ((rd_T72 t910 x68_2).f4)) := (blk_cell BK933.out 4).trans rfl; have hfz61_0 := blk_frozen BK933.out 0; have hfz61_1 := blk_frozen BK933.out 1; have hfz61_2 := blk_frozen BK933.out 2; have hfz61_3 := blk_frozen BK933.out 3; have hfz61_4 := blk_frozen BK933.out 4))
                                            go_roundg k4
                                            case measure => have := HJ9.out; have := HK2.out; have := HK3.out; have := HK4.out; omega
                                            case rel => exact ⟨(wrap64 (x81_4 + 1)), (by first | rfl | (simp; done) | (simp [*]; done)), H', ⟨by have := HJ9.out; have := HK2.out; have := HK3.out; have := HK4.out; omega⟩, ⟨by (with_reducible repeat (first | refine blk_drewN ?_ _ | refine blk_drew ?_ | refine blk_alloc ?_ _)); refine blk_far ?_ NB933_937.out _; (with_reducible repeat (first | refine blk_drewN ?_ _ | refine blk_drew ?_ | refine blk_alloc ?_ _)); refine blk_far ?_ NB933_937.out _; (with_reducible repeat (first | refine blk_drewN ?_ _ | refine blk_drew ?_ | refine blk_alloc ?_ _)); refine blk_far ?_ NB933_937.out _; (with_reducible repeat (first | refine blk_drewN ?_ _ | refine blk_drew ?_ | refine blk_alloc ?_ _)); exact BK933.out⟩, ⟨by (with_reducible repeat (first | refine blk_drewN ?_ _ | refine blk_drew ?_ | refine blk_alloc ?_ _)); refine blk_far ?_ NB935_937.out _; (with_reducible repeat (first | refine blk_drewN ?_ _ | refine blk_drew ?_ | refine blk_alloc ?_ _)); refine blk_far ?_ NB935_937.out _; (with_reducible repeat (first | refine blk_drewN ?_ _ | refine blk_drew ?_ | refine blk_alloc ?_ _)); refine blk_far ?_ NB935_937.out _; (with_reducible repeat (first | refine blk_drewN ?_ _ | refine blk_drew ?_ | refine blk_alloc ?_ _)); exact BK935.out⟩, ⟨by repeat (first | (with_reducible first | exact HB.out | apply below_alloc | apply pw_below_drewN | apply below_drew1 | refine below_set ?_ GE933.out | refine below_set ?_ GE935.out | refine below_set ?_ GE937.out) | exact HB.out)⟩⟩
                                        · rw [if_neg c45] at H
                                          have c45b0 : (((rd_T29 t903 x74_3).f0) == ((rd_T72 t910 x68_2).f0)) = false := beq_eq_false_iff_ne.mpr c45
                                          have c45b1 : (((rd_T29 t903 x74_3).f0) != ((rd_T72 t910 x68_2).f0)) = true := bne_iff_ne.mpr c45
                                          have H' := Aside0.mk H
                                          clear H
                                          have p936 : 0 ≤ (x81_4 : Int) := of_decide_eq_true (by first | (with_reducible assumption) | assumption)
                                          have q936 : x81_4 < (((rd_T29 t903 x74_3).f4).length : Int) := of_decide_eq_true (by first | (with_reducible assumption) | assumption)
                                          obtain ⟨ad936, e936, hx936_0, hx936_1, hx936_2⟩ := at_T74 HR934_4.out x81_4 p936 q936
                                          cases e936
                                          replace hx936_0 := (HB.out.cell (World.block_lt_of_cell? w _ hx936_0)).trans hx936_0
                                          replace hx936_1 := (HB.out.cell (World.block_lt_of_cell? w _ hx936_1)).trans hx936_1
                                          replace hx936_2 := (HB.out.cell (World.block_lt_of_cell? w _ hx936_2)).trans hx936_2
                                          replace p936 := eq_true p936
                                          replace q936 := eq_true q936
                                          go_wp2_with (first | ((with_reducible refine gate_dst (N := 18) rfl ?_); (try (refine gate_guard (by rfl) ?_; dsimp only)); refine box_event ?hg (N := 18) ?hd (cs := #[.int .i64 0, .int .i64 0, .int .i64 0]) (t := 74) ?hr ?_; (case hd => rfl); (case hg => rfl); (case hr => first | (go_simp; done) | (go_simp; rfl)); intro gb937 hg w62 hbox hb; have n0_ := Aside0.mk (blk_below (g := gb933) (o := .cells #[.int .i64 ((rd_T72 t910 x68_2).f0), .int .i64 ((rd_T72 t910 x68_2).f1), .int .i64 ((rd_T72 t910 x68_2).f2), .int .i64 ((rd_T72 t910 x68_2).f3), .string ((rd_T72 t910 x68_2).f4)] 72 (0, 0)) (by (with_reducible repeat (first | refine blk_drewN ?_ _ | refine blk_drew ?_ | refine blk_alloc ?_ _)); exact BK933.out) hb); have n1_ := Aside0.mk (blk_below (g := gb935) (o := .cells #[.int .i64 ((rd_T29 t903 x74_3).f0), .int .i64 ((rd_T29 t903 x74_3).f1), .int .i64 ((rd_T29 t903 x74_3).f2), .slice A934_3 ((rd_T29 t903 x74_3).f3).length c934_3, .slice (some ad936) ((rd_T29 t903 x74_3).f4).length c934_4] 29 (0, 0)) (by (with_reducible repeat (first | refine blk_drewN ?_ _ | refine blk_drew ?_ | refine blk_alloc ?_ _)); exact BK935.out) hb); have n2_ := Aside0.mk (below_step (by repeat (first | (with_reducible first | exact HB.out | apply below_alloc | apply pw_below_drewN | apply below_drew1 | refine below_set ?_ GE933.out | refine below_set ?_ GE935.out) | exact HB.out)) hb); have n3_ := Aside0.mk (hbox); have n4_ := Aside0.mk ((by rw [hg]; exact (below_size (by repeat (first | (with_reducible first | exact HB.out | apply below_alloc | apply pw_below_drewN | apply below_drew1 | refine below_set ?_ GE933.out | refine below_set ?_ GE935.out) | exact HB.out))) : w.heap.size ≤ gb937)); have n5_ := Aside0.mk ((by rw [hg]; exact (below_size (by repeat (first | (with_reducible first | exact HB.out | apply below_alloc | apply pw_below_drewN | apply below_drew1 | refine below_set ?_ GE933.out | refine below_set ?_ GE935.out) | exact HB.out))) : w.heap.size ≤ gb937)); have n6_ := Aside0.mk ((by rw [hg]; exact Nat.ne_of_lt (blk_lt (g := gb933) (o := .cells #[.int .i64 ((rd_T72 t910 x68_2).f0), .int .i64 ((rd_T72 t910 x68_2).f1), .int .i64 ((rd_T72 t910 x68_2).f2), .int .i64 ((rd_T72 t910 x68_2).f3), .string ((rd_T72 t910 x68_2).f4)] 72 (0, 0)) (by (with_reducible repeat (first | refine blk_drewN ?_ _ | refine blk_drew ?_ | refine blk_alloc ?_ _)); exact BK933.out)) : gb933 ≠ gb937)); have n7_ := Aside0.mk ((by rw [hg]; exact Nat.ne_of_gt (blk_lt (g := gb933) (o := .cells #[.int .i64 ((rd_T72 t910 x68_2).f0), .int .i64 ((rd_T72 t910 x68_2).f1), .int .i64 ((rd_T72 t910 x68_2).f2), .int .i64 ((rd_T72 t910 x68_2).f3), .string ((rd_T72 t910 x68_2).f4)] 72 (0, 0)) (by (with_reducible repeat (first | refine blk_drewN ?_ _ | refine blk_drew ?_ | refine blk_alloc ?_ _)); exact BK933.out)) : gb937 ≠ gb933)); have n8_ := Aside0.mk ((by rw [hg]; exact Nat.ne_of_lt (blk_lt (g := gb935) (o := .cells #[.int .i64 ((rd_T29 t903 x74_3).f0), .int .i64 ((rd_T29 t903 x74_3).f1), .int .i64 ((rd_T29 t903 x74_3).f2), .slice A934_3 ((rd_T29 t903 x74_3).f3).length c934_3, .slice (some ad936) ((rd_T29 t903 x74_3).f4).length c934_4] 29 (0, 0)) (by (with_reducible repeat (first | refine blk_drewN ?_ _ | refine blk_drew ?_ | refine blk_alloc ?_ _)); exact BK935.out)) : gb935 ≠ gb937)); have n9_ := Aside0.mk ((by rw [hg]; exact Nat.ne_of_gt (blk_lt (g := gb935) (o := .cells #[.int .i64 ((rd_T29 t903 x74_3).f0), .int .i64 ((rd_T29 t903 x74_3).f1), .int .i64 ((rd_T29 t903 x74_3).f2), .slice A934_3 ((rd_T29 t903 x74_3).f3).length c934_3, .slice (some ad936) ((rd_T29 t903 x74_3).f4).length c934_4] 29 (0, 0)) (by (with_reducible repeat (first | refine blk_drewN ?_ _ | refine blk_drew ?_ | refine blk_alloc ?_ _)); exact BK935.out)) : gb937 ≠ gb935)); clear BK933; clear BK935; clear HB; have BK933 := n0_; have BK935 := n1_; have HB := n2_; have BK937 := n3_; have GW937 := n4_; have GE937 := n5_; have NB933_937 := n6_; have NB937_933 := n7_; have NB935_937 := n8_; have NB937_935 := n9_; clear n0_ n1_ n2_ n3_ n4_ n5_ n6_ n7_ n8_ n9_; clear hb hbox hg; have hnb63 := NB937_933.out; have hnc63 := NB933_937.out; have hnb64 := NB937_935.out; have hnc64 := NB935_937.out; have hcz65_0 : w62.cell? ⟨gb937, 0, none⟩ = some (.int .i64 0) := (blk_cell BK937.out 0).trans rfl; have hcz65_1 : w62.cell? ⟨gb937, 1, none⟩ = some (.int .i64 0) := (blk_cell BK937.out 1).trans rfl; have hcz65_2 : w62.cell? ⟨gb937, 2, none⟩ = some (.int .i64 0) := (blk_cell BK937.out 2).trans rfl; have hfz65_0 := blk_frozen BK937.out 0; have hfz65_1 := blk_frozen BK937.out 1; have hfz65_2 := blk_frozen BK937.out 2; have hnb66 := NB935_933.out; have hnc66 := NB933_935.out; have hcz67_0 : w62.cell? ⟨gb935, 0, none⟩ = some (.int .i64 ((rd_T29 t903 x74_3).f0)) := (blk_cell BK935.out 0).trans rfl; have hcz67_1 : w62.cell? ⟨gb935, 1, none⟩ = some (.int .i64 ((rd_T29 t903 x74_3).f1)) := (blk_cell BK935.out 1).trans rfl; have hcz67_2 : w62.cell? ⟨gb935, 2, none⟩ = some (.int .i64 ((rd_T29 t903 x74_3).f2)) := (blk_cell BK935.out 2).trans rfl; have hcz67_3 : w62.cell? ⟨gb935, 3, none⟩ = some (.slice A934_3 ((rd_T29 t903 x74_3).f3).length c934_3) := (blk_cell BK935.out 3).trans rfl; have hcz67_4 : w62.cell? ⟨gb935, 4, none⟩ = some (.slice (some ad936) ((rd_T29 t903 x74_3).f4).length c934_4) := (blk_cell BK935.out 4).trans rfl; have hfz67_0 := blk_frozen BK935.out 0; have hfz67_1 := blk_frozen BK935.out 1; have hfz67_2 := blk_frozen BK935.out 2; have hfz67_3 := blk_frozen BK935.out 3; have hfz67_4 := blk_frozen BK935.out 4; have hcz68_0 : w62.cell? ⟨gb933, 0, none⟩ = some (.int .i64 ((rd_T72 t910 x68_2).f0)) := (blk_cell BK933.out 0).trans rfl; have hcz68_1 : w62.cell? ⟨gb933, 1, none⟩ = some (.int .i64 ((rd_T72 t910 x68_2).f1)) := (blk_cell BK933.out 1).trans rfl; have hcz68_2 : w62.cell? ⟨gb933, 2, none⟩ = some (.int .i64 ((rd_T72 t910 x68_2).f2)) := (blk_cell BK933.out 2).trans rfl; have hcz68_3 : w62.cell? ⟨gb933, 3, none⟩ = some (.int .i64 ((rd_T72 t910 x68_2).f3)) := (blk_cell BK933.out 3).trans rfl; have hcz68_4 : w62.cell? ⟨gb933, 4, none⟩ = some (.string ((rd_T72 t910 x68_2).f4)) := (blk_cell BK933.out 4).trans rfl; have hfz68_0 := blk_frozen BK933.out 0; have hfz68_1 := blk_frozen BK933.out 1; have hfz68_2 := blk_frozen BK933.out 2; have hfz68_3 := blk_frozen BK933.out 3; have hfz68_4 := blk_frozen BK933.out 4))
                                          go_roundg k4
                                          case measure => have := HJ9.out; have := HK2.out; have := HK3.out; have := HK4.out; omega
                                          case rel => exact ⟨(wrap64 (x81_4 + 1)), (by first | rfl | (simp; done) | (simp [*]; done)), H', ⟨by have := HJ9.out; have := HK2.out; have := HK3.out; have := HK4.out; omega⟩, ⟨by (with_reducible repeat (first | refine blk_drewN ?_ _ | refine blk_drew ?_ | refine blk_alloc ?_ _)); refine blk_far ?_ NB933_937.out _; (with_reducible repeat (first | refine blk_drewN ?_ _ | refine blk_drew ?_ | refine blk_alloc ?_ _)); refine blk_far ?_ NB933_937.out _; (with_reducible repeat (first | refine blk_drewN ?_ _ | refine blk_drew ?_ | refine blk_alloc ?_ _)); refine blk_far ?_ NB933_937.out _; (with_reducible repeat (first | refine blk_drewN ?_ _ | refine blk_drew ?_ | refine blk_alloc ?_ _)); exact BK933.out⟩, ⟨by (with_reducible repeat (first | refine blk_drewN ?_ _ | refine blk_drew ?_ | refine blk_alloc ?_ _)); refine blk_far ?_ NB935_937.out _; (with_reducible repeat (first | refine blk_drewN ?_ _ | refine blk_drew ?_ | refine blk_alloc ?_ _)); refine blk_far ?_ NB935_937.out _; (with_reducible repeat (first | refine blk_drewN ?_ _ | refine blk_drew ?_ | refine blk_alloc ?_ _)); refine blk_far ?_ NB935_937.out _; (with_reducible repeat (first | refine blk_drewN ?_ _ | refine blk_drew ?_ | refine blk_alloc ?_ _)); exact BK935.out⟩, ⟨by repeat (first | (with_reducible first | exact HB.out | apply below_alloc | apply pw_below_drewN | apply below_drew1 | refine below_set ?_ GE933.out | refine below_set ?_ GE935.out | refine below_set ?_ GE937.out) | exact HB.out)⟩⟩
                                      · rw [if_neg c44] at H
                                        exact absurd H (by simp)
                                    · rw [if_neg c43] at H
                                      exact absurd H (by simp)
                                  · rw [if_neg c42] at H
                                    have c42b0 : decide (x81_4 < (((rd_T29 t903 x74_3).f4).length : Int)) = false := decide_eq_false c42
                                    clear c42
                                    have H' := Aside0.mk H
                                    clear H
                                    go_wp2
                                    go_roundg k4
                                    case measure => have := HJ9.out; have := HK2.out; have := HK3.out; have := HK4.out; omega
                                    case rel => exact ⟨(wrap64 (x74_3 + 1)), (by first | rfl | (simp; done) | (simp [*]; done)), H', ⟨by have := HJ9.out; have := HK2.out; have := HK3.out; have := HK4.out; omega⟩, ⟨by (with_reducible repeat (first | refine blk_drewN ?_ _ | refine blk_drew ?_ | refine blk_alloc ?_ _)); exact BK933.out⟩, ⟨by repeat (first | (with_reducible first | exact HB.out | apply below_alloc | apply pw_below_drewN | apply below_drew1 | refine below_set ?_ GE933.out | refine below_set ?_ GE935.out) | exact HB.out)⟩⟩
                            · rw [if_neg c38] at H
                              exact absurd H (by simp)
                          · rw [if_neg c37] at H
                            exact absurd H (by simp)
                        · rw [if_neg c36] at H
                          have c36b0 : decide (x74_3 < (t903.length : Int)) = false := decide_eq_false c36
                          clear c36
                          have H' := Aside0.mk H
                          clear H
                          go_wp2
                          go_roundg k3
                          case measure => have := HJ9.out; have := HK2.out; have := HK3.out; omega
                          case rel => exact ⟨(wrap64 (x68_2 + 1)), (by first | rfl | (simp; done) | (simp [*]; done)), H', ⟨by have := HJ9.out; have := HK2.out; have := HK3.out; omega⟩, ⟨by repeat (first | (with_reducible first | exact HB.out | apply below_alloc | apply pw_below_drewN | apply below_drew1 | refine below_set ?_ GE933.out) | exact HB.out)⟩⟩
                  · rw [if_neg c33] at H
                    exact absurd H (by simp)
                · rw [if_neg c32] at H
                  exact absurd H (by simp)
              · rw [if_neg c31] at H
                have c31b0 : decide (x68_2 < (t910.length : Int)) = false := decide_eq_false c31
                clear c31
                replace H := Option.bind_eq_some_iff.mp H
                obtain ⟨⟨t925, t926⟩, A690, H⟩ := H
                try dsimp only at H
                have A69 := Aside0.mk A690
                clear A690
                replace H := Option.bind_eq_some_iff.mp H
                obtain ⟨t931, A700, H⟩ := H
                try dsimp only at H
                have A70 := Aside0.mk A700
                clear A700
                by_cases c71 : t931 = true
                · subst c71
                  rw [if_pos rfl] at H
                  obtain rfl := Option.some.inj H
                  go_wp2_with (first | ((with_reducible refine gate_callee (f := 33) rfl ?_); refine goesL_ (some 112) rfl rfl Try.func33 (by kernel_rfl) rfl #[.slice Ab919 t909.length cb919, .int .i64 4, .slice Ab917 t903.length cb917] rfl (by (try simp only [List.map_toArray, List.map_cons, List.map_nil]); first | done | rfl | (simp only [List.length_drop, List.length_take]; rfl)) ?_; (with_reducible refine (prune_Garbage.calls _ _ t909 4 _ _ t903 t925 t926 _ ?side1 ?side2 ?side3 ?side4 A69.out).mono ?_); (case side1 => repeat (first | exact (Kd.C_below HRb919.out HB.out) | (with_reducible refine Kd.C_alloc ?_ _) | (with_reducible refine Kd.C_drewN ?_ _) | (with_reducible refine Kd.C_drew ?_))); (case side2 => exact HCb919.out); (case side3 => repeat (first | exact (Kd.C_below HRb917.out HB.out) | (with_reducible refine Kd.C_alloc ?_ _) | (with_reducible refine Kd.C_drewN ?_ _) | (with_reducible refine Kd.C_drew ?_))); (case side4 => exact HCb917.out); rintro e w72 ⟨v927, v929, rfl, ho0, ho1, hb⟩; refine ⟨_, rfl, ?_⟩; have n0_ := Aside0.mk (Kd.R_lower ho0 (below_size (by repeat (first | (with_reducible first | exact HB.out | apply below_alloc | apply pw_below_drewN | apply below_drew1) | exact HB.out)))); have n1_ := Aside0.mk (Kd.R_lower ho1 (below_size (by repeat (first | (with_reducible first | exact HB.out | apply below_alloc | apply pw_below_drewN | apply below_drew1) | exact HB.out)))); have n2_ := Aside0.mk (below_step (by repeat (first | (with_reducible first | exact HB.out | apply below_alloc | apply pw_below_drewN | apply below_drew1) | exact HB.out)) hb); clear HB; have HO928 := n0_; have HO930 := n1_; have HB := n2_; clear n0_ n1_ n2_; (try clear hb); (try clear hb2); (try clear hk); (try clear hi); (try clear ho0); (try clear ho1); obtain ⟨Ao73, co73, eo73⟩ := Kd.R_slice HO928.out; subst eo73) | ((with_reducible refine gate_callee (f := 38) rfl ?_); refine goesL_ (some 117) rfl rfl Try.func38 (by kernel_rfl) rfl #[.slice Ao73 t925.length co73, .slice Ab919 t909.length cb919] rfl (by (try simp only [List.map_toArray, List.map_cons, List.map_nil]); first | done | rfl | (simp only [List.length_drop, List.length_take]; rfl)) ?_; (with_reducible refine (prune_Same.calls k2 _ _ t925 _ _ t909 true _ ?side1 ?side2 ?side3 ?side4 A70.out).mono ?_); (case side1 => repeat (first | exact (Kd.R_reads' HO928.out).2.2 | (with_reducible refine Kd.C_alloc ?_ _) | (with_reducible refine Kd.C_drewN ?_ _) | (with_reducible refine Kd.C_drew ?_))); (case side2 => exact (Kd.R_reads' HO928.out).2.1); (case side3 => repeat (first | exact (Kd.C_below HRb919.out HB.out) | (with_reducible refine Kd.C_alloc ?_ _) | (with_reducible refine Kd.C_drewN ?_ _) | (with_reducible refine Kd.C_drew ?_))); (case side4 => exact HCb919.out); rintro e w' ⟨rfl, ⟨nd, rfl⟩⟩; refine ⟨_, rfl, ?_⟩; obtain ⟨Ao74, co74, eo74⟩ := Kd.R_slice HO930.out; subst eo74))
                  go_ret
                  exact ⟨by first | rfl | (simp [errW_none, errW_some] <;> rfl) | (simp [*, errW_none, errW_some] <;> rfl), below_step HB0_.out (by repeat (first | (with_reducible first | exact HB.out | apply below_alloc | apply pw_below_drewN | apply below_drew1) | exact HB.out))⟩
                · replace c71 := Bool.eq_false_iff.mpr c71
                  subst c71
                  rw [if_neg (show ¬ (false = true) by decide)] at H
                  exact absurd (H.trans (congrArg some RT_.out)) (by simp)
  · replace c4 := Bool.eq_false_iff.mpr c4
    subst c4
    rw [if_neg (show ¬ (false = true) by decide)] at H
    exact absurd (H.trans (congrArg some RT_.out)) (by simp)

/-- THE ONE PURE STATEMENT of storagebarterlaw39_PruneGarbage: yours. -/
def storagebarterlaw39_PruneGarbage.Pure : Prop := ∀ (l0 : List Int) (a1 : Int), l0.length ≤ maxLen → l0.length * 1 ≤ 140737488351232 → (∀ x ∈ l0, (Lit.int .u8 x).wf = true) → (Lit.int .u8 a1).wf = true → ∃ k, storagebarterlaw39_PruneGarbage.f k l0 a1 = some true
theorem storagebarterlaw39_PruneGarbage.walk (P : storagebarterlaw39_PruneGarbage.Pure) (a0 : Option Addr) (len0 cap0 : Nat) (z0 : List Int) (a1 : Int) (w : World) (w0 : (a0 = none ∧ len0 = 0 ∧ cap0 = 0 ∧ z0 = []) ∨ ∃ x, a0 = some x ∧ len0 ≤ cap0 ∧ cap0 ≤ maxLen ∧ z0.length = cap0 ∧ (∀ i, i < z0.length → w.cell? (x.add i) = some (.int .u8 (z0.getD i 0))) ∧ ∀ n ∈ z0, (Lit.int .u8 n).wf = true) (y0 : len0 * 1 ≤ 140737488351232) (w1 : (Lit.int .u8 a1).wf = true) :
    Calls Try.prog 9 #[.slice a0 len0 cap0, .int .u8 a1] w fun e w' => e = .returned (.bool true) ∧ Below w.heap.size w w' := by
  obtain ⟨l0, rfl, hr0, hm0, hw0, hc0⟩ := ReadsInt.ofRowC w0
  obtain ⟨k, h⟩ := P l0 a1 hm0 y0 hw0 w1
  refine (storagebarterlaw39_PruneGarbage.calls k _ _ l0 a1 true w (Kd.C_of_reads (d := (0 : Int)) (h1 := fun _ => rfl) hr0) hc0 h rfl).mono ?_
  rintro e w' ⟨rfl, hd⟩
  exact ⟨rfl, hd⟩

end Go.Proofs.Ytlkgmfhgnfgmiaa.Q

namespace Go.Proofs.Ytlkgmfhgnfgmiaa.Q
open Go.RowKit Go.Proofs.YtlkgmfhgnfgmiaaW.PrintWords Go.Proofs.YtlkgmfhgnfgmiaaW.PrintLast Go.Proofs.YtlkgmfhgnfgmiaaW.PrintMore
attribute [local go_sem] max2_int min2_int max_two min_two max_three min_three max_four min_four   -- for this text's walks alone
set_option linter.unusedVariables false
set_option linter.unusedSimpArgs false

/-! ### storagebarterref28_SameInts: function 27 -/
def storagebarterref28_SameInts.l0 : Nat → List Int → List Int → Int → Option (Bool)
  | 0, _, _, _ => none
  | k + 1, x0, x1, x5 => if x5 < (x0.length : Int) then (if 0 ≤ x5 then (if x5 < (x1.length : Int) then (if (rd x0 x5) = (rd x1 x5) then (storagebarterref28_SameInts.l0 k x0 x1 (wrap64 (x5 + 1))) else (some false)) else (none)) else (none)) else (some true)
def storagebarterref28_SameInts.f (k : Nat) (l0 : List Int) (l1 : List Int) : Option (Bool) := if (l0.length : Int) = (l1.length : Int) then (storagebarterref28_SameInts.l0 k l0 l1 0) else (some false)
theorem storagebarterref28_SameInts.mono_l : ∀ k, (∀ y0 y1 y2, LeO (storagebarterref28_SameInts.l0 k y0 y1 y2) (storagebarterref28_SameInts.l0 (k + 1) y0 y1 y2))
  | 0 => fun _ _ _ r h => by simp [storagebarterref28_SameInts.l0] at h
  | k + 1 => by
    have ih0 := storagebarterref28_SameInts.mono_l k
    · intro y0 y1 y2
      unfold storagebarterref28_SameInts.l0
      repeat' first
      | (with_reducible exact ih0 _ _ _)
      | (with_reducible exact LeO.refl _)
      | (with_reducible exact LeO.none _)
      | (with_reducible refine LeO.ite ?_ ?_)
      | (with_reducible refine LeO.bind ?_ (fun _ => ?_))
      | exact ih0 _ _ _
      | exact LeO.none _
      | refine LeO.ite ?_ ?_
      | refine LeO.bind ?_ (fun _ => ?_)
theorem storagebarterref28_SameInts.mono : ∀ a0 a1 k, LeO (storagebarterref28_SameInts.f k a0 a1) (storagebarterref28_SameInts.f (k + 1) a0 a1) := by
  intro a0 a1 k
  have ih0 := storagebarterref28_SameInts.mono_l k
  unfold storagebarterref28_SameInts.f
  repeat' first
      | (with_reducible exact ih0 _ _ _)
      | (with_reducible exact LeO.refl _)
      | (with_reducible exact LeO.none _)
      | (with_reducible refine LeO.ite ?_ ?_)
      | (with_reducible refine LeO.bind ?_ (fun _ => ?_))
      | exact ih0 _ _ _
      | exact LeO.none _
      | refine LeO.ite ?_ ?_
      | refine LeO.bind ?_ (fun _ => ?_)
set_option maxHeartbeats 8000000 in
set_option maxRecDepth 100000 in
theorem storagebarterref28_SameInts.calls (k : Nat) (A0 : Option Addr) (c0 : Nat) (l0 : List Int) (A1 : Option Addr) (c1 : Nat) (l1 : List Int) (r : Bool) (w : World) (hr0 : Kd.C (Kd.int .i64) w A0 l0.length l0) (hc0 : l0.length ≤ c0) (hr1 : Kd.C (Kd.int .i64) w A1 l1.length l1) (hc1 : l1.length ≤ c1) (h : storagebarterref28_SameInts.f k l0 l1 = some r) :
    Calls Try.prog 27 #[.slice A0 l0.length c0, .slice A1 l1.length c1] w fun e w' => e = .returned (.bool r) ∧ Drawn0 w w' := by
  have HR0 := Aside0.mk hr0
  have HC0 := Aside0.mk hc0
  clear hr0 hc0
  have HR1 := Aside0.mk hr1
  have HC1 := Aside0.mk hc1
  clear hr1 hc1
  have H : (if (l0.length : Int) = (l1.length : Int) then (storagebarterref28_SameInts.l0 k l0 l1 0) else (some false)) = some r := h
  clear h
  by_cases c3 : (l0.length : Int) = (l1.length : Int)
  · rw [if_pos c3] at H
    have c3b0 : ((l0.length : Int) == (l1.length : Int)) = true := beq_iff_eq.mpr c3
    have c3b1 : ((l0.length : Int) != (l1.length : Int)) = false := bne_eq_false_iff_eq.mpr c3
    have c3b2 : (l0.length == l1.length) = true := by first | simpa using c3 | (simp at c3 ⊢; omega)
    clear c3
    have H' := Aside0.mk H
    clear H
    go_enter Try.func27, Try.ntmps27
    go_wp2
    repeat (go_quiet (fail); try go_wp2)
    go_loopg [5] k (fun kq v5 w' => ∃ (x5_1 : Int), v5 = .int .i64 x5_1 ∧ Aside0 (storagebarterref28_SameInts.l0 kq l0 l1 x5_1 = some r) ∧ Aside0 (kq ≤ k) ∧ Drawn0 w w')
    case atStart => exact ⟨(0), (by first | rfl | (simp; done) | (simp [*]; done)), H', ⟨Nat.le_refl _⟩, by repeat (first | exact Drawn0.refl _ | apply Drawn0.step)⟩
    case round =>
      clear H'
      try clear c1
      try clear c2
      try clear p2
      try clear c3
      try clear c3b0
      try clear c3b1
      try clear c3b2
      obtain ⟨x5_1, rfl, HA, HK1, ⟨m1, rfl⟩⟩ := hrel
      cases gk with
      | zero => exact absurd HA.out (by simp [storagebarterref28_SameInts.l0])
      | succ k1 =>
        have H := HA.out
        clear HA
        simp only [storagebarterref28_SameInts.l0] at H
        by_cases c4 : x5_1 < (l0.length : Int)
        · rw [if_pos c4] at H
          have c4b0 : decide (x5_1 < (l0.length : Int)) = true := decide_eq_true c4
          clear c4
          by_cases c5 : 0 ≤ x5_1
          · rw [if_pos c5] at H
            have c5b0 : decide (0 ≤ x5_1) = true := decide_eq_true c5
            clear c5
            by_cases c6 : x5_1 < (l1.length : Int)
            · rw [if_pos c6] at H
              have c6b0 : decide (x5_1 < (l1.length : Int)) = true := decide_eq_true c6
              clear c6
              by_cases c7 : (rd l0 x5_1) = (rd l1 x5_1)
              · rw [if_pos c7] at H
                have c7b0 : ((rd l0 x5_1) == (rd l1 x5_1)) = true := beq_iff_eq.mpr c7
                have c7b1 : ((rd l0 x5_1) != (rd l1 x5_1)) = false := bne_eq_false_iff_eq.mpr c7
                clear c7
                have H' := Aside0.mk H
                clear H
                have p702 : 0 ≤ (x5_1 : Int) := of_decide_eq_true (by first | (with_reducible assumption) | assumption)
                have q702 : x5_1 < (l0.length : Int) := of_decide_eq_true (by first | (with_reducible assumption) | assumption)
                obtain ⟨ad702, e702, hx702_0⟩ := Kd.at_int HR0.out x5_1 p702 q702
                cases e702
                replace p702 := eq_true p702
                replace q702 := eq_true q702
                have p703 : 0 ≤ (x5_1 : Int) := of_decide_eq_true (by first | (with_reducible assumption) | assumption)
                have q703 : x5_1 < (l1.length : Int) := of_decide_eq_true (by first | (with_reducible assumption) | assumption)
                obtain ⟨ad703, e703, hx703_0⟩ := Kd.at_int HR1.out x5_1 p703 q703
                cases e703
                replace p703 := eq_true p703
                replace q703 := eq_true q703
                go_wp2
                repeat (go_quiet (fail); try go_wp2)
                go_roundg k1
                case measure => have := HK1.out; omega
                case rel => exact ⟨(wrap64 (x5_1 + 1)), (by first | rfl | (simp; done) | (simp [*]; done)), H', ⟨by have := HK1.out; omega⟩, by repeat (first | exact Drawn0.refl _ | apply Drawn0.step)⟩
              · rw [if_neg c7] at H
                have c7b0 : ((rd l0 x5_1) == (rd l1 x5_1)) = false := beq_eq_false_iff_ne.mpr c7
                have c7b1 : ((rd l0 x5_1) != (rd l1 x5_1)) = true := bne_iff_ne.mpr c7
                obtain rfl := Option.some.inj H
                have p702 : 0 ≤ (x5_1 : Int) := of_decide_eq_true (by first | (with_reducible assumption) | assumption)
                have q702 : x5_1 < (l0.length : Int) := of_decide_eq_true (by first | (with_reducible assumption) | assumption)
                obtain ⟨ad702, e702, hx702_0⟩ := Kd.at_int HR0.out x5_1 p702 q702
                cases e702
                replace p702 := eq_true p702
                replace q702 := eq_true q702
                have p703 : 0 ≤ (x5_1 : Int) := of_decide_eq_true (by first | (with_reducible assumption) | assumption)
                have q703 : x5_1 < (l1.length : Int) := of_decide_eq_true (by first | (with_reducible assumption) | assumption)
                obtain ⟨ad703, e703, hx703_0⟩ := Kd.at_int HR1.out x5_1 p703 q703
                cases e703
                replace p703 := eq_true p703
                replace q703 := eq_true q703
                go_wp2
                repeat (go_quiet (fail); try go_wp2)
                go_ret
                exact ⟨by first | rfl | (simp; done) | (simp [*]; done), by repeat (first | exact Drawn0.refl _ | apply Drawn0.step)⟩
            · rw [if_neg c6] at H
              exact absurd H (by simp)
          · rw [if_neg c5] at H
            exact absurd H (by simp)
        · rw [if_neg c4] at H
          have c4b0 : decide (x5_1 < (l0.length : Int)) = false := decide_eq_false c4
          clear c4
          obtain rfl := Option.some.inj H
          go_wp2
          repeat (go_quiet (fail); try go_wp2)
          go_ret
          exact ⟨by first | rfl | (simp; done) | (simp [*]; done), by repeat (first | exact Drawn0.refl _ | apply Drawn0.step)⟩
  · rw [if_neg c3] at H
    have c3b0 : ((l0.length : Int) == (l1.length : Int)) = false := beq_eq_false_iff_ne.mpr c3
    have c3b1 : ((l0.length : Int) != (l1.length : Int)) = true := bne_iff_ne.mpr c3
    have c3b2 : (l0.length == l1.length) = false := by first | simpa using c3 | (simp at c3 ⊢; omega)
    obtain rfl := Option.some.inj H
    go_enter Try.func27, Try.ntmps27
    go_wp2
    repeat (go_quiet (fail); try go_wp2)
    go_ret
    exact ⟨by first | rfl | (simp; done) | (simp [*]; done), by repeat (first | exact Drawn0.refl _ | apply Drawn0.step)⟩

end Go.Proofs.Ytlkgmfhgnfgmiaa.Q

/- The printed functions of 'prune' in plain words: numbers, what is kept, what stays and what goes; the dice and what they make. -/
namespace Go.Proofs.Ytlkgmfhgnfgmiaa.Gpr
open Go Go.RowKit Go.Proofs.Ytlkgmfhgnfgmiaa.Gnum Go.Proofs.Ytlkgmfhgnfgmiaa.Q Go.Proofs.YtlkgmfhgnfgmiaaW.PrintWords Go.Proofs.YtlkgmfhgnfgmiaaW.PrintLast Go.Proofs.YtlkgmfhgnfgmiaaW.PrintMore
set_option linter.unusedVariables false

theorem w64 {x : Int} (h : -9223372036854775808 ≤ x ∧ x ≤ 9223372036854775807) : wrap64 x = x := by unfold wrap64; omega

theorem rd_get (l : List S29) (i : Nat) (h : i < l.length) : rd_T29 l (i : Int) = l[i] := by simp [rd_T29, List.getD, h]
theorem rdI_get (l : List Int) (i : Nat) (h : i < l.length) : rd l (i : Int) = l[i] := by simp [rd, List.getD, h]

section
variable (l : List S29) (o : Int)

def ofOwner : List Int := (l.filter (fun b => decide (b.f0 = o))).map (·.f1)
def numbersOf : List Int := nums (ofOwner l o)
def stays (keep : List Int) (b : S29) : Bool := decide (b.f0 ≠ o ∨ b.f1 ∈ keep)
def stayOf (keep : List Int) : List S29 := l.filter (stays o keep)
def goneOf (keep : List Int) : List S29 := l.filter (fun b => !stays o keep b)

theorem mem_numbers (x : Int) : x ∈ numbersOf l o ↔ ∃ b ∈ l, b.f0 = o ∧ b.f1 = x := by
  unfold numbersOf ofOwner
  rw [nums_mem, List.mem_map]
  constructor
  · rintro ⟨b, hb, rfl⟩
    obtain ⟨h1, h2⟩ := List.mem_filter.1 hb
    exact ⟨b, h1, by simpa using h2, rfl⟩
  · rintro ⟨b, hb, h, rfl⟩
    exact ⟨b, List.mem_filter.2 ⟨hb, by simpa using h⟩, rfl⟩

theorem part_len (keep : List Int) : (stayOf l o keep).length + (goneOf l o keep).length = l.length := by
  unfold stayOf goneOf
  generalize stays o keep = p
  induction l with
  | nil => rfl
  | cons x l ih =>
    cases h : p x
    · simp [List.filter_cons, h]
      omega
    · simp [List.filter_cons, h]
      omega

theorem gone_owner {keep : List Int} {x : S29} (h : x ∈ goneOf l o keep) : x ∈ l ∧ x.f0 = o ∧ x.f1 ∉ keep := by
  obtain ⟨h1, h2⟩ := List.mem_filter.1 h
  have h3 : ¬ (x.f0 ≠ o ∨ x.f1 ∈ keep) := by simpa [stays] using h2
  exact ⟨h1, Classical.byContradiction fun e => h3 (Or.inl e), fun e => h3 (Or.inr e)⟩

theorem gone_newer (n : Nat) {x : S29} (h : x ∈ goneOf l o (lastN (numbersOf l o) n)) : n ≤ ((numbersOf l o).filter (fun m => decide (x.f1 < m))).length := by
  obtain ⟨h1, h2, h3⟩ := gone_owner l o h
  have hm : x.f1 ∈ numbersOf l o := (mem_numbers l o _).2 ⟨x, h1, h2, rfl⟩
  obtain ⟨e, ha⟩ := lastN_above (nums_asc _) n hm h3
  have hs : ((lastN (numbersOf l o) n).filter (fun m => decide (x.f1 < m))).Sublist ((numbersOf l o).filter (fun m => decide (x.f1 < m))) := (List.drop_sublist _ _).filter _
  have hf : (lastN (numbersOf l o) n).filter (fun m => decide (x.f1 < m)) = lastN (numbersOf l o) n := List.filter_eq_self.2 fun y hy => by simpa using ha y hy
  have := hs.length_le
  rw [hf] at this
  have e' : (lastN (numbersOf l o) n).length = n := e
  omega

theorem left_keep (n : Nat) : numbersOf (stayOf l o (lastN (numbersOf l o) n)) o = lastN (numbersOf l o) n := by
  refine asc_ext _ _ (nums_asc _) (lastN_asc (nums_asc _) n) fun x => ?_
  rw [mem_numbers]
  constructor
  · rintro ⟨b, hb, h1, rfl⟩
    obtain ⟨h2, h3⟩ := List.mem_filter.1 hb
    have h4 : b.f0 ≠ o ∨ b.f1 ∈ lastN (numbersOf l o) n := by simpa [stays] using h3
    exact h4.resolve_left fun e => e h1
  · intro hx
    obtain ⟨b, hb, h1, rfl⟩ := (mem_numbers l o x).1 (lastN_sub hx)
    exact ⟨b, List.mem_filter.2 ⟨hb, by simp only [stays]; exact decide_eq_true (Or.inr hx)⟩, h1, rfl⟩

theorem left_other (keep : List Int) (o' : Int) (ho : o' ≠ o) : numbersOf (stayOf l o keep) o' = numbersOf l o' := by
  refine asc_ext _ _ (nums_asc _) (nums_asc _) fun x => ?_
  rw [mem_numbers, mem_numbers]
  constructor
  · rintro ⟨b, hb, h1, rfl⟩
    exact ⟨b, (List.mem_filter.1 hb).1, h1, rfl⟩
  · rintro ⟨b, hb, h1, rfl⟩
    exact ⟨b, List.mem_filter.2 ⟨hb, by simp only [stays]; exact decide_eq_true (Or.inl (by rw [h1]; exact ho))⟩, h1, rfl⟩
end

theorem ofOwner_len (l : List S29) (o : Int) : (ofOwner l o).length ≤ l.length := by
  unfold ofOwner
  rw [List.length_map]
  exact List.length_filter_le _ _

theorem numbers_len (l : List S29) (o : Int) : (numbersOf l o).length ≤ l.length := by
  have h1 : (numbersOf l o).length ≤ (srt (ofOwner l o)).length := Lib.compact_length_le _
  have h2 : (srt (ofOwner l o)).length = (ofOwner l o).length := List.length_mergeSort _
  have := ofOwner_len l o
  omega

theorem ofOwner_succ (l : List S29) (o : Int) (i : Nat) (h : i < l.length) : ofOwner (l.take (i + 1)) o = ofOwner (l.take i) o ++ (if l[i].f0 = o then [l[i].f1] else []) := by
  unfold ofOwner
  rw [List.take_succ_eq_append_getElem h, List.filter_append, List.map_append]
  by_cases e : l[i].f0 = o <;> simp [List.filter, e]

theorem Numbers_l0 (l : List S29) (o : Int) (hl : l.length ≤ 1000) : ∀ (d i k : Nat), l.length - i = d → i ≤ l.length → d < k →
    prune_Numbers.l0 k o (ofOwner (l.take i) o) l (l.length : Int) (i : Int) = some (numbersOf l o) := by
  intro d
  induction d with
  | zero =>
    intro i k hd hi hk
    obtain ⟨k, rfl⟩ : ∃ m, k = m + 1 := ⟨k - 1, by omega⟩
    have e : l.take i = l := List.take_of_length_le (by omega)
    have h1 := ofOwner_len l o
    have h2 : (srt (ofOwner l o)).length = (ofOwner l o).length := List.length_mergeSort _
    rw [prune_Numbers.l0, if_neg (by omega), e, if_pos (by simp only [List.length_nil]; omega), Option.bind_some, if_pos (by simp only [List.length_nil]; omega)]
    rfl
  | succ d ih =>
    intro i k hd hi hk
    obtain ⟨k, rfl⟩ : ∃ m, k = m + 1 := ⟨k - 1, by omega⟩
    have hil : i < l.length := by omega
    have h1 := ofOwner_len (l.take i) o
    rw [List.length_take] at h1
    have hs := ofOwner_succ l o i hil
    have ih' := ih (i + 1) k (by omega) (by omega) (by omega)
    rw [prune_Numbers.l0, if_pos (by omega), if_pos (by omega), if_pos (by omega), rd_get l i hil, w64 (by omega), show ((i : Int) + 1) = ((i + 1 : Nat) : Int) by omega]
    by_cases e : l[i].f0 = o
    · rw [if_pos e] at hs
      rw [if_pos e, if_pos (by omega), ← hs]
      exact ih'
    · rw [if_neg e, List.append_nil] at hs
      rw [if_neg e, ← hs]
      exact ih'

theorem Numbers_eq (l : List S29) (o : Int) (k : Nat) (hl : l.length ≤ 1000) (hk : 1001 ≤ k) : prune_Numbers.f k l o = some (numbersOf l o) := by
  unfold prune_Numbers.f
  have := Numbers_l0 l o hl l.length 0 k (by omega) (by omega) (by omega)
  simpa [ofOwner] using this

theorem Keep_eq (l : List S29) (o : Int) (n : Nat) (k : Nat) (hl : l.length ≤ 1000) (hn : n ≤ 1000) (hk : 1001 ≤ k) : prune_Keep.f k l o (n : Int) = some (lastN (numbersOf l o) n) := by
  unfold prune_Keep.f
  have h1 := numbers_len l o
  rw [Numbers_eq l o k hl hk, Option.bind_some]
  have e : ((numbersOf l o).length : Int) - mn ((numbersOf l o).length : Int) (mx 0 (n : Int)) = (((numbersOf l o).length - n : Nat) : Int) := by
    unfold mn mx
    split <;> split <;> omega
  rw [e, w64 (by omega), if_pos (by omega), if_pos (by omega), Int.toNat_natCast]
  rfl

theorem Index_l0 (l : List Int) (x : Int) (hl : l.length ≤ 1000000) : ∀ (d i k : Nat), l.length - i = d → i ≤ l.length → d < k → ∃ r, slices_Index_int_int.l0 k l x (l.length : Int) (i : Int) = some r ∧ (r ≥ 0 ↔ x ∈ l.drop i) := by
  intro d
  induction d with
  | zero =>
    intro i k hd hi hk
    obtain ⟨k, rfl⟩ : ∃ m, k = m + 1 := ⟨k - 1, by omega⟩
    exact ⟨-1, by rw [slices_Index_int_int.l0, if_neg (by omega)], by rw [List.drop_of_length_le (by omega)]; simp⟩
  | succ d ih =>
    intro i k hd hi hk
    obtain ⟨k, rfl⟩ : ∃ m, k = m + 1 := ⟨k - 1, by omega⟩
    have hil : i < l.length := by omega
    rw [slices_Index_int_int.l0, if_pos (by omega), if_pos (by omega), if_pos (by omega), rdI_get l i hil, List.drop_eq_getElem_cons hil]
    by_cases e : x = l[i]
    · exact ⟨i, by rw [if_pos e], ⟨fun _ => by rw [e]; exact List.mem_cons_self, fun _ => by omega⟩⟩
    · obtain ⟨r, h1, h2⟩ := ih (i + 1) k (by omega) (by omega) (by omega)
      refine ⟨r, by rw [if_neg e, w64 (by omega), show ((i : Int) + 1) = ((i + 1 : Nat) : Int) by omega]; exact h1, h2.trans ?_⟩
      rw [List.mem_cons]
      exact ⟨Or.inr, fun z => z.resolve_left e⟩

theorem Contains_eq (l : List Int) (x : Int) (k : Nat) (hl : l.length ≤ 1000000) (hk : l.length < k) : slices_Contains_int_int.f k l x = some (decide (x ∈ l)) := by
  unfold slices_Contains_int_int.f slices_Index_int_int.f
  obtain ⟨r, h1, h2⟩ := Index_l0 l x hl l.length 0 k (by omega) (by omega) hk
  rw [show ((0 : Nat) : Int) = 0 from rfl] at h1
  rw [h1, Option.bind_some, decide_eq_decide.2 (by simpa using h2)]

theorem Own_eq (a b c : Int) (l4 : List S74) (k : Nat) (hl : l4.length ≤ 1000000) (hk : 1 ≤ k) : backup_Own.f k a b c [] l4 = some (a, b, c, [], l4) := by
  obtain ⟨k, rfl⟩ : ∃ m, k = m + 1 := ⟨k - 1, by omega⟩
  unfold backup_Own.f api_Place_78.f api_Stripe.f
  rw [if_pos hl, Option.bind_some, Option.bind_some, backup_Own.l0, if_neg (by simp)]

/-- Backups without stripes, with few places. -/
def Plain (l : List S29) : Prop := ∀ b ∈ l, b.f3 = [] ∧ b.f4.length ≤ 1000

theorem Plain.stay {l : List S29} (h : Plain l) (o : Int) (keep : List Int) : Plain (stayOf l o keep) := fun b hb => h b (List.mem_filter.1 hb).1

theorem filter_succ (l : List S29) (p : S29 → Bool) (i : Nat) (h : i < l.length) : (l.take (i + 1)).filter p = (l.take i).filter p ++ (if p l[i] = true then [l[i]] else []) := by
  rw [List.take_succ_eq_append_getElem h, List.filter_append]
  by_cases e : p l[i] = true <;> simp [List.filter, e]

theorem Drop_l0 (l : List S29) (o : Int) (keep : List Int) (hk0 : keep.length ≤ 1000) (hl : l.length ≤ 1000) (hp : Plain l) : ∀ (d i k : Nat), l.length - i = d → i ≤ l.length → 2000 + 2 * d ≤ k →
    prune_Drop.l0 k o keep (stayOf (l.take i) o keep) (goneOf (l.take i) o keep) l (l.length : Int) (i : Int) = some (stayOf l o keep, goneOf l o keep) := by
  intro d
  induction d with
  | zero =>
    intro i k hd hi hk
    obtain ⟨k, rfl⟩ : ∃ m, k = m + 1 := ⟨k - 1, by omega⟩
    rw [prune_Drop.l0, if_neg (by omega), List.take_of_length_le (by omega)]
  | succ d ih =>
    intro i k hd hi hk
    obtain ⟨k, rfl⟩ : ∃ m, k = m + 2 := ⟨k - 2, by omega⟩
    have hil : i < l.length := by omega
    have ih' := ih (i + 1) k (by omega) (by omega) (by omega)
    have hs : stayOf (l.take (i + 1)) o keep = _ := filter_succ l (stays o keep) i hil
    have hg : goneOf (l.take (i + 1)) o keep = _ := filter_succ l (fun b => !stays o keep b) i hil
    have hb := hp l[i] (List.getElem_mem hil)
    have hl1 : (stayOf (l.take i) o keep).length ≤ 1000 := by
      have := List.length_filter_le (stays o keep) (l.take i)
      rw [List.length_take] at this
      unfold stayOf
      omega
    have hl2 : (goneOf (l.take i) o keep).length ≤ 1000 := by
      have := List.length_filter_le (fun b => !stays o keep b) (l.take i)
      rw [List.length_take] at this
      unfold goneOf
      omega
    have e0 : prune_Drop.l0 (k + 2) o keep (stayOf (l.take i) o keep) (goneOf (l.take i) o keep) l (l.length : Int) (i : Int) =
        prune_Drop.j1 (k + 1) o keep (stayOf (l.take i) o keep) (goneOf (l.take i) o keep) l (l.length : Int) (i : Int) (stays o keep l[i]) l[i].f0 l[i].f1 l[i].f2 l[i].f3 l[i].f4 := by
      rw [prune_Drop.l0, if_pos (by omega), if_pos (by omega), if_pos (by omega), rd_get l i hil]
      by_cases e : l[i].f0 = o
      · rw [if_pos e, Contains_eq _ _ _ (by omega) (by omega), Option.bind_some]
        congr 1
        simp [stays, e]
      · rw [if_neg e]
        congr 1
        simp [stays, e]
    have hx : (⟨l[i].f0, l[i].f1, l[i].f2, [], l[i].f4⟩ : S29) = l[i] := by rw [← hb.1]
    rw [e0, prune_Drop.j1, hb.1, Own_eq _ _ _ _ _ (by omega) (by omega), Option.bind_some, hx, w64 (by omega), show ((i : Int) + 1) = ((i + 1 : Nat) : Int) by omega]
    by_cases e : stays o keep l[i] = true
    · rw [if_pos e] at hs
      rw [if_neg (by simp [e]), List.append_nil] at hg
      rw [if_pos e, if_pos (by omega)]
      unfold stayOf at hs ih' ⊢
      unfold goneOf at hg ih' ⊢
      rw [← hs, ← hg]
      exact ih'
    · rw [if_neg e, List.append_nil] at hs
      rw [if_pos (by simp [e])] at hg
      rw [if_neg e, Option.bind_some, if_pos (by omega)]
      simp only
      rw [hx]
      unfold stayOf at hs ih' ⊢
      unfold goneOf at hg ih' ⊢
      rw [← hs, ← hg]
      exact ih'

theorem Drop_eq (l : List S29) (o : Int) (n : Nat) (k : Nat) (hl : l.length ≤ 1000) (hn : n ≤ 1000) (hp : Plain l) (hk : 4000 ≤ k) : prune_Drop.f k l o (n : Int) = some (stayOf l o (lastN (numbersOf l o) n), goneOf l o (lastN (numbersOf l o) n)) := by
  unfold prune_Drop.f
  have h1 := numbers_len l o
  have h2 := lastN_len (numbersOf l o) n
  rw [Keep_eq l o n k hl hn (by omega), Option.bind_some]
  have := Drop_l0 l o (lastN (numbersOf l o) n) (by omega) hl hp l.length 0 k (by omega) (by omega) (by omega)
  simpa [stayOf, goneOf] using this

theorem SameInts_l0 (l : List Int) (hl : l.length ≤ 1000000) : ∀ (d i k : Nat), l.length - i = d → i ≤ l.length → d < k → storagebarterref28_SameInts.l0 k l l (i : Int) = some true := by
  intro d
  induction d with
  | zero =>
    intro i k hd hi hk
    obtain ⟨k, rfl⟩ : ∃ m, k = m + 1 := ⟨k - 1, by omega⟩
    rw [storagebarterref28_SameInts.l0, if_neg (by omega)]
  | succ d ih =>
    intro i k hd hi hk
    obtain ⟨k, rfl⟩ : ∃ m, k = m + 1 := ⟨k - 1, by omega⟩
    rw [storagebarterref28_SameInts.l0, if_pos (by omega), if_pos (by omega), if_pos (by omega), if_pos rfl, w64 (by omega), show ((i : Int) + 1) = ((i + 1 : Nat) : Int) by omega]
    exact ih (i + 1) k (by omega) (by omega) (by omega)

theorem SameInts_eq (l : List Int) (k : Nat) (hl : l.length ≤ 1000000) (hk : l.length < k) : storagebarterref28_SameInts.f k l l = some true := by
  unfold storagebarterref28_SameInts.f
  rw [if_pos rfl]
  exact SameInts_l0 l hl l.length 0 k (by omega) (by omega) hk

/-! ### Dice -/

/-- Seeds. -/
def Seeds (L : List Int) : Prop := L.length ≤ 300 ∧ ∀ x ∈ L, 0 ≤ x ∧ x ≤ 255

theorem New_ok (l : List Int) (h : ∀ x ∈ l, (Lit.int .u8 x).wf = true) : ∃ L, storagebarterplay_New.f l = some (L, 0) ∧ Seeds L := by
  unfold storagebarterplay_New.f
  by_cases h3 : (l.length : Int) > 300
  · rw [if_pos h3, if_pos (by omega)]
    refine ⟨_, rfl, by rw [List.length_take]; omega, fun x hx => ?_⟩
    have := bounds_u8 (h x (List.mem_of_mem_take hx))
    omega
  · rw [if_neg h3]
    refine ⟨_, rfl, by omega, fun x hx => ?_⟩
    have := bounds_u8 (h x hx)
    omega

theorem Pick_ok {L : List Int} (hL : Seeds L) (at_ n : Int) (h0 : 0 ≤ at_) (hn : 1 ≤ n) (hb : n ≤ 1000000) : ∃ t at', storagebarterplay_Dice_Pick.f L at_ n = some (t, at') ∧ 0 ≤ t ∧ t < n ∧ 0 ≤ at' := by
  obtain ⟨hl, hv⟩ := hL
  unfold storagebarterplay_Dice_Pick.f
  by_cases h : at_ ≥ (L.length : Int)
  · rw [if_pos h]
    exact ⟨0, at_, rfl, by omega, by omega, h0⟩
  · rw [if_neg h, w64 (x := at_ + 1) (by omega), show at_ + 1 - 1 = at_ by omega, w64 (x := at_) (by omega), if_pos h0, if_pos (by omega), if_neg (by omega)]
    obtain ⟨i, rfl⟩ : ∃ i : Nat, at_ = i := ⟨at_.toNat, by omega⟩
    have hil : i < L.length := by omega
    rw [rdI_get L i hil]
    have hx := hv L[i] (List.getElem_mem hil)
    rw [w64 (x := L[i]) (by omega), Int.tmod_eq_emod_of_nonneg hx.1]
    exact ⟨_, _, rfl, Int.emod_nonneg _ (by omega), Int.emod_lt_of_pos _ (by omega), by omega⟩

theorem Shard_ok {L : List Int} (hL : Seeds L) (at_ : Int) (h0 : 0 ≤ at_) : ∃ t at', storagebarterplay_Dice_Shard.f L at_ = some (t, at') ∧ 0 ≤ at' := by
  unfold storagebarterplay_Dice_Shard.f
  obtain ⟨t, at', e, h1, h2, h3⟩ := Pick_ok hL at_ 4 h0 (by omega) (by omega)
  rw [Option.bind_some, e, Option.bind_some, if_pos h1, if_pos (by simpa using h2)]
  exact ⟨_, _, rfl, h3⟩

theorem made_l2 {L : List Int} (hL : Seeds L) (l : List S29) : ∀ (n : Nat) (sh : List S72) (at_ : Int) (k : Nat), 0 ≤ at_ → n < k → sh.length + n ≤ 1000 → ∃ sh' at', storagebarterlaw39_made.l2 k l sh (n : Int) L at_ = some (l, sh', at') ∧ 0 ≤ at' := by
  intro n
  induction n with
  | zero =>
    intro sh at_ k h0 hk hl
    obtain ⟨k, rfl⟩ : ∃ m, k = m + 1 := ⟨k - 1, by omega⟩
    rw [storagebarterlaw39_made.l2, if_neg (by omega)]
    exact ⟨_, _, rfl, h0⟩
  | succ n ih =>
    intro sh at_ k h0 hk hl
    obtain ⟨k, rfl⟩ : ∃ m, k = m + 1 := ⟨k - 1, by omega⟩
    obtain ⟨t1, a1, e1, -, -, h1⟩ := Pick_ok hL at_ 3 h0 (by omega) (by omega)
    obtain ⟨t2, a2, e2, -, -, h2⟩ := Pick_ok hL a1 4 h1 (by omega) (by omega)
    obtain ⟨t3, a3, e3, -, -, h3⟩ := Pick_ok hL a2 2 h2 (by omega) (by omega)
    obtain ⟨t4, a4, e4, -, -, h4⟩ := Pick_ok hL a3 3 h3 (by omega) (by omega)
    obtain ⟨t5, a5, e5, h5⟩ := Shard_ok hL a4 h4
    rw [storagebarterlaw39_made.l2, if_pos (by omega), e1, Option.bind_some, e2, Option.bind_some, e3, Option.bind_some, e4, Option.bind_some, e5, Option.bind_some, if_pos (by omega), w64 (x := ((n + 1 : Nat) : Int) - 1) (by omega), show (((n + 1 : Nat) : Int) - 1) = (n : Int) by omega]
    refine ih _ _ k h5 (by omega) ?_
    rw [List.length_append, List.length_singleton]
    omega

theorem made_l1 {L : List Int} (hL : Seeds L) (l : List S29) (hl : l.length ≤ 1000) (x5 : Int) (o m : Int) (K : Nat) (R : List S29 → List S72 → Int → Prop)
    (hc : ∀ (k : Nat) (pl : List S74) (at' : Int), K ≤ k → pl.length ≤ 10 → 0 ≤ at' → ∃ l' sh at'', storagebarterlaw39_made.l0 k (l ++ [⟨o, m, 0, [], pl⟩]) (wrap64 (x5 - 1)) L at' = some (l', sh, at'') ∧ R l' sh at'') :
    ∀ (n : Nat) (pl : List S74) (at_ : Int) (k : Nat), 0 ≤ at_ → K + 1 + n ≤ k → pl.length + n ≤ 10 → ∃ l' sh at'', storagebarterlaw39_made.l1 k l x5 (n : Int) L at_ o m 0 pl = some (l', sh, at'') ∧ R l' sh at'' := by
  intro n
  induction n with
  | zero =>
    intro pl at_ k h0 hk hp
    obtain ⟨k, rfl⟩ : ∃ m, k = m + 1 := ⟨k - 1, by omega⟩
    rw [storagebarterlaw39_made.l1, if_neg (by omega), if_pos (by omega)]
    exact hc k pl at_ (by omega) (by omega) h0
  | succ n ih =>
    intro pl at_ k h0 hk hp
    obtain ⟨k, rfl⟩ : ∃ m, k = m + 1 := ⟨k - 1, by omega⟩
    obtain ⟨t1, a1, e1, -, -, h1⟩ := Pick_ok hL at_ 2 h0 (by omega) (by omega)
    obtain ⟨t2, a2, e2, -, -, h2⟩ := Pick_ok hL a1 3 h1 (by omega) (by omega)
    obtain ⟨t3, a3, e3, -, -, h3⟩ := Pick_ok hL a2 2 h2 (by omega) (by omega)
    rw [storagebarterlaw39_made.l1, if_pos (by omega), e1, Option.bind_some, e2, Option.bind_some, e3, Option.bind_some, if_pos (by omega), w64 (x := ((n + 1 : Nat) : Int) - 1) (by omega), show (((n + 1 : Nat) : Int) - 1) = (n : Int) by omega]
    refine ih _ _ k h3 (by omega) ?_
    rw [List.length_append, List.length_singleton]
    omega

theorem made_l0 {L : List Int} (hL : Seeds L) : ∀ (n : Nat) (l : List S29) (at_ : Int) (k : Nat), 0 ≤ at_ → Plain l → l.length + n ≤ 10 → 100 + 20 * n ≤ k →
    ∃ l' sh at'', storagebarterlaw39_made.l0 k l (n : Int) L at_ = some (l', sh, at'') ∧ (Plain l' ∧ l'.length ≤ 10 ∧ 0 ≤ at'') := by
  intro n
  induction n with
  | zero =>
    intro l at_ k h0 hp hl hk
    obtain ⟨k, rfl⟩ : ∃ m, k = m + 1 := ⟨k - 1, by omega⟩
    obtain ⟨t, a, e, h1, h2, h3⟩ := Pick_ok hL at_ 8 h0 (by omega) (by omega)
    rw [storagebarterlaw39_made.l0, if_neg (by omega), e, Option.bind_some]
    obtain ⟨m, rfl⟩ : ∃ m : Nat, t = m := ⟨t.toNat, by omega⟩
    obtain ⟨sh, a2, e2, h4⟩ := made_l2 hL l m [] a k h3 (by omega) (by rw [List.length_nil]; omega)
    exact ⟨_, _, _, e2, hp, by omega, h4⟩
  | succ n ih =>
    intro l at_ k h0 hp hl hk
    obtain ⟨k, rfl⟩ : ∃ m, k = m + 1 := ⟨k - 1, by omega⟩
    obtain ⟨t1, a1, e1, p1, q1, h1⟩ := Pick_ok hL at_ 3 h0 (by omega) (by omega)
    obtain ⟨t2, a2, e2, p2, q2, h2⟩ := Pick_ok hL a1 4 h1 (by omega) (by omega)
    obtain ⟨t3, a3, e3, p3, q3, h3⟩ := Pick_ok hL a2 4 h2 (by omega) (by omega)
    obtain ⟨m, rfl⟩ : ∃ m : Nat, t3 = m := ⟨t3.toNat, by omega⟩
    rw [storagebarterlaw39_made.l0, if_pos (by omega), e1, Option.bind_some, e2, Option.bind_some, e3, Option.bind_some]
    refine made_l1 hL l (by omega) _ _ _ (100 + 20 * n) (fun l' sh at'' => Plain l' ∧ l'.length ≤ 10 ∧ 0 ≤ at'') ?_ m [] a3 k h3 (by omega) (by rw [List.length_nil]; omega)
    intro k' pl at' hk' hpl hat
    rw [w64 (x := ((n + 1 : Nat) : Int) - 1) (by omega), show (((n + 1 : Nat) : Int) - 1) = (n : Int) by omega]
    refine ih _ _ k' hat ?_ (by rw [List.length_append, List.length_singleton]; omega) hk'
    intro b hb
    rcases List.mem_append.1 hb with e | e
    · exact hp b e
    · rw [List.mem_singleton.1 e]
      exact ⟨rfl, by simp only; omega⟩

theorem made_ok {L : List Int} (hL : Seeds L) (at_ : Int) (h0 : 0 ≤ at_) (k : Nat) (hk : 400 ≤ k) : ∃ l sh at', storagebarterlaw39_made.f k L at_ = some (l, sh, at') ∧ Plain l ∧ l.length ≤ 10 ∧ 0 ≤ at' := by
  unfold storagebarterlaw39_made.f
  obtain ⟨t, a, e, h1, h2, h3⟩ := Pick_ok hL at_ 6 h0 (by omega) (by omega)
  obtain ⟨m, rfl⟩ : ∃ m : Nat, t = m := ⟨t.toNat, by omega⟩
  rw [e, Option.bind_some]
  exact made_l0 hL m [] a k h3 (fun b hb => by cases hb) (by rw [List.length_nil]; omega) (by omega)

theorem law39_sane (k : Nat) (hk : 4000 ≤ k) : storagebarterlaw39_sane.f k = some true := by
  unfold storagebarterlaw39_sane.f
  generalize hy : [(⟨1, 5, 0, ([] : List S48), ([] : List S74)⟩ : S29), (⟨1, 1, 0, ([] : List S48), ([] : List S74)⟩ : S29), (⟨2, 7, 0, ([] : List S48), ([] : List S74)⟩ : S29), (⟨1, 2, 0, ([] : List S48), ([] : List S74)⟩ : S29)] = y
  have hl : y.length = 4 := by rw [← hy]; rfl
  have hp : Plain y := by
    rw [← hy]
    intro b hb
    simp only [List.mem_cons, List.not_mem_nil, or_false] at hb
    rcases hb with rfl | rfl | rfl | rfl <;> exact ⟨rfl, by simp⟩
  have hn : numbersOf y 1 = [1, 2, 5] := by
    refine asc_ext _ _ (nums_asc _) (by decide) fun x => ?_
    rw [mem_numbers, ← hy]
    simp only [List.mem_cons, List.not_mem_nil, or_false]
    constructor
    · rintro ⟨b, (rfl | rfl | rfl | rfl), h1, rfl⟩ <;> simp at h1 ⊢
    · rintro (rfl | rfl | rfl)
      · exact ⟨_, Or.inr (Or.inl rfl), rfl, rfl⟩
      · exact ⟨_, Or.inr (Or.inr (Or.inr rfl)), rfl, rfl⟩
      · exact ⟨_, Or.inl rfl, rfl, rfl⟩
  have hk2 := Keep_eq y 1 2 k (by omega) (by omega) (by omega)
  have hd := Drop_eq y 1 2 k (by omega) (by omega) hp (by omega)
  have e2 : lastN (numbersOf y 1) 2 = [2, 5] := by rw [hn]; rfl
  rw [e2] at hk2 hd
  rw [show ((2 : Nat) : Int) = 2 from rfl] at hk2 hd
  rw [Option.bind_some, hk2, Option.bind_some, hd, Option.bind_some, ← hy]
  have es : stayOf [(⟨1, 5, 0, ([] : List S48), ([] : List S74)⟩ : S29), (⟨1, 1, 0, ([] : List S48), ([] : List S74)⟩ : S29), (⟨2, 7, 0, ([] : List S48), ([] : List S74)⟩ : S29), (⟨1, 2, 0, ([] : List S48), ([] : List S74)⟩ : S29)] 1 [2, 5] = [⟨1, 5, 0, [], []⟩, ⟨2, 7, 0, [], []⟩, ⟨1, 2, 0, [], []⟩] := by rfl
  have eg : goneOf [(⟨1, 5, 0, ([] : List S48), ([] : List S74)⟩ : S29), (⟨1, 1, 0, ([] : List S48), ([] : List S74)⟩ : S29), (⟨2, 7, 0, ([] : List S48), ([] : List S74)⟩ : S29), (⟨1, 2, 0, ([] : List S48), ([] : List S74)⟩ : S29)] 1 [2, 5] = [⟨1, 1, 0, [], []⟩] := by rfl
  rw [es, eg]
  rfl

end Go.Proofs.Ytlkgmfhgnfgmiaa.Gpr

/- A shelf is divided in what belongs to places and in what does not, and what stays needs nothing of the garbage. -/
namespace Go.Proofs.Ytlkgmfhgnfgmiaa.Pure
open Go Go.RowKit Go.Proofs.Ytlkgmfhgnfgmiaa.Gnum Go.Proofs.Ytlkgmfhgnfgmiaa.Gpr Go.Proofs.Ytlkgmfhgnfgmiaa.Q Go.Proofs.YtlkgmfhgnfgmiaaW.PrintWords Go.Proofs.YtlkgmfhgnfgmiaaW.PrintLast Go.Proofs.YtlkgmfhgnfgmiaaW.PrintMore

theorem mades_l2 {L : List Int} (hL : Seeds L) (l : List S29) : ∀ (n : Nat) (sh : List S72) (at_ : Int) (k : Nat), 0 ≤ at_ → n < k → sh.length + n ≤ 1000 → ∃ sh' at', storagebarterlaw39_made.l2 k l sh (n : Int) L at_ = some (l, sh', at') ∧ 0 ≤ at' ∧ sh'.length ≤ 1000 := by
  intro n
  induction n with
  | zero =>
    intro sh at_ k h0 hk hl
    obtain ⟨k, rfl⟩ : ∃ m, k = m + 1 := ⟨k - 1, by omega⟩
    rw [storagebarterlaw39_made.l2, if_neg (by omega)]
    exact ⟨_, _, rfl, h0, by omega⟩
  | succ n ih =>
    intro sh at_ k h0 hk hl
    obtain ⟨k, rfl⟩ : ∃ m, k = m + 1 := ⟨k - 1, by omega⟩
    obtain ⟨t1, a1, e1, -, -, h1⟩ := Pick_ok hL at_ 3 h0 (by omega) (by omega)
    obtain ⟨t2, a2, e2, -, -, h2⟩ := Pick_ok hL a1 4 h1 (by omega) (by omega)
    obtain ⟨t3, a3, e3, -, -, h3⟩ := Pick_ok hL a2 2 h2 (by omega) (by omega)
    obtain ⟨t4, a4, e4, -, -, h4⟩ := Pick_ok hL a3 3 h3 (by omega) (by omega)
    obtain ⟨t5, a5, e5, h5⟩ := Shard_ok hL a4 h4
    rw [storagebarterlaw39_made.l2, if_pos (by omega), e1, Option.bind_some, e2, Option.bind_some, e3, Option.bind_some, e4, Option.bind_some, e5, Option.bind_some, if_pos (by omega), w64 (x := ((n + 1 : Nat) : Int) - 1) (by omega), show (((n + 1 : Nat) : Int) - 1) = (n : Int) by omega]
    refine ih _ _ k h5 (by omega) ?_
    rw [List.length_append, List.length_singleton]
    omega

theorem mades_l1 {L : List Int} (hL : Seeds L) (l : List S29) (hl : l.length ≤ 1000) (x5 : Int) (o m : Int) (K : Nat) (R : List S29 → List S72 → Int → Prop)
    (hc : ∀ (k : Nat) (pl : List S74) (at' : Int), K ≤ k → pl.length ≤ 10 → 0 ≤ at' → ∃ l' sh at'', storagebarterlaw39_made.l0 k (l ++ [⟨o, m, 0, [], pl⟩]) (wrap64 (x5 - 1)) L at' = some (l', sh, at'') ∧ R l' sh at'') :
    ∀ (n : Nat) (pl : List S74) (at_ : Int) (k : Nat), 0 ≤ at_ → K + 1 + n ≤ k → pl.length + n ≤ 10 → ∃ l' sh at'', storagebarterlaw39_made.l1 k l x5 (n : Int) L at_ o m 0 pl = some (l', sh, at'') ∧ R l' sh at'' := by
  intro n
  induction n with
  | zero =>
    intro pl at_ k h0 hk hp
    obtain ⟨k, rfl⟩ : ∃ m, k = m + 1 := ⟨k - 1, by omega⟩
    rw [storagebarterlaw39_made.l1, if_neg (by omega), if_pos (by omega)]
    exact hc k pl at_ (by omega) (by omega) h0
  | succ n ih =>
    intro pl at_ k h0 hk hp
    obtain ⟨k, rfl⟩ : ∃ m, k = m + 1 := ⟨k - 1, by omega⟩
    obtain ⟨t1, a1, e1, -, -, h1⟩ := Pick_ok hL at_ 2 h0 (by omega) (by omega)
    obtain ⟨t2, a2, e2, -, -, h2⟩ := Pick_ok hL a1 3 h1 (by omega) (by omega)
    obtain ⟨t3, a3, e3, -, -, h3⟩ := Pick_ok hL a2 2 h2 (by omega) (by omega)
    rw [storagebarterlaw39_made.l1, if_pos (by omega), e1, Option.bind_some, e2, Option.bind_some, e3, Option.bind_some, if_pos (by omega), w64 (x := ((n + 1 : Nat) : Int) - 1) (by omega), show (((n + 1 : Nat) : Int) - 1) = (n : Int) by omega]
    refine ih _ _ k h3 (by omega) ?_
    rw [List.length_append, List.length_singleton]
    omega

theorem mades_l0 {L : List Int} (hL : Seeds L) : ∀ (n : Nat) (l : List S29) (at_ : Int) (k : Nat), 0 ≤ at_ → Plain l → l.length + n ≤ 10 → 100 + 20 * n ≤ k →
    ∃ l' sh at'', storagebarterlaw39_made.l0 k l (n : Int) L at_ = some (l', sh, at'') ∧ (Plain l' ∧ l'.length ≤ 10 ∧ 0 ≤ at'' ∧ sh.length ≤ 1000) := by
  intro n
  induction n with
  | zero =>
    intro l at_ k h0 hp hl hk
    obtain ⟨k, rfl⟩ : ∃ m, k = m + 1 := ⟨k - 1, by omega⟩
    obtain ⟨t, a, e, h1, h2, h3⟩ := Pick_ok hL at_ 8 h0 (by omega) (by omega)
    rw [storagebarterlaw39_made.l0, if_neg (by omega), e, Option.bind_some]
    obtain ⟨m, rfl⟩ : ∃ m : Nat, t = m := ⟨t.toNat, by omega⟩
    obtain ⟨sh, a2, e2, h4⟩ := mades_l2 hL l m [] a k h3 (by omega) (by rw [List.length_nil]; omega)
    exact ⟨_, _, _, e2, hp, by omega, h4⟩
  | succ n ih =>
    intro l at_ k h0 hp hl hk
    obtain ⟨k, rfl⟩ : ∃ m, k = m + 1 := ⟨k - 1, by omega⟩
    obtain ⟨t1, a1, e1, p1, q1, h1⟩ := Pick_ok hL at_ 3 h0 (by omega) (by omega)
    obtain ⟨t2, a2, e2, p2, q2, h2⟩ := Pick_ok hL a1 4 h1 (by omega) (by omega)
    obtain ⟨t3, a3, e3, p3, q3, h3⟩ := Pick_ok hL a2 4 h2 (by omega) (by omega)
    obtain ⟨m, rfl⟩ : ∃ m : Nat, t3 = m := ⟨t3.toNat, by omega⟩
    rw [storagebarterlaw39_made.l0, if_pos (by omega), e1, Option.bind_some, e2, Option.bind_some, e3, Option.bind_some]
    refine mades_l1 hL l (by omega) _ _ _ (100 + 20 * n) (fun l' sh at'' => Plain l' ∧ l'.length ≤ 10 ∧ 0 ≤ at'' ∧ sh.length ≤ 1000) ?_ m [] a3 k h3 (by omega) (by rw [List.length_nil]; omega)
    intro k' pl at' hk' hpl hat
    rw [w64 (x := ((n + 1 : Nat) : Int) - 1) (by omega), show (((n + 1 : Nat) : Int) - 1) = (n : Int) by omega]
    refine ih _ _ k' hat ?_ (by rw [List.length_append, List.length_singleton]; omega) hk'
    intro b hb
    rcases List.mem_append.1 hb with e | e
    · exact hp b e
    · rw [List.mem_singleton.1 e]
      exact ⟨rfl, by simp only; omega⟩

theorem mades_ok {L : List Int} (hL : Seeds L) (at_ : Int) (h0 : 0 ≤ at_) (k : Nat) (hk : 400 ≤ k) : ∃ l sh at', storagebarterlaw39_made.f k L at_ = some (l, sh, at') ∧ Plain l ∧ l.length ≤ 10 ∧ 0 ≤ at' ∧ sh.length ≤ 1000 := by
  unfold storagebarterlaw39_made.f
  obtain ⟨t, a, e, h1, h2, h3⟩ := Pick_ok hL at_ 6 h0 (by omega) (by omega)
  obtain ⟨m, rfl⟩ : ∃ m : Nat, t = m := ⟨t.toNat, by omega⟩
  rw [e, Option.bind_some]
  exact mades_l0 hL m [] a k h3 (fun b hb => by cases hb) (by rw [List.length_nil]; omega) (by omega)


theorem wrap_add (a b : Int) : wrap64 (wrap64 a + b) = wrap64 (a + b) := by unfold wrap64; omega
theorem wrap_add2 (a b : Int) : wrap64 (wrap64 a + wrap64 b) = wrap64 (a + b) := by unfold wrap64; omega

/-- The bytes of a shelf. -/
def bytesIn (l : List S72) : Int := (l.map (fun x => (x.f4.size : Int))).sum

theorem bytesIn_part (l : List S72) (p : S72 → Bool) : bytesIn (l.filter p) + bytesIn (l.filter (fun x => !p x)) = bytesIn l := by
  induction l with
  | nil => rfl
  | cons x l ih =>
    cases h : p x
    · rw [List.filter_cons_of_neg (by simp [h]), List.filter_cons_of_pos (by simp [h])]
      unfold bytesIn at ih ⊢
      rw [List.map_cons, List.sum_cons, List.map_cons, List.sum_cons]
      omega
    · rw [List.filter_cons_of_pos h, List.filter_cons_of_neg (by simp [h])]
      unfold bytesIn at ih ⊢
      rw [List.map_cons, List.sum_cons, List.map_cons, List.sum_cons]
      omega

theorem Bytes_l0 (l : List S72) (hl : l.length ≤ 1000) : ∀ (d i k : Nat), l.length - i = d → i ≤ l.length → d < k → prune_Bytes.l0 k (wrap64 (bytesIn (l.take i))) l (l.length : Int) (i : Int) = some (wrap64 (bytesIn l)) := by
  intro d
  induction d with
  | zero =>
    intro i k hd hi hk
    obtain ⟨k, rfl⟩ : ∃ m, k = m + 1 := ⟨k - 1, by omega⟩
    rw [prune_Bytes.l0, if_neg (by omega), List.take_of_length_le (by omega)]
  | succ d ih =>
    intro i k hd hi hk
    obtain ⟨k, rfl⟩ : ∃ m, k = m + 1 := ⟨k - 1, by omega⟩
    have hil : i < l.length := by omega
    have h1 := ih (i + 1) k (by omega) (by omega) (by omega)
    rw [prune_Bytes.l0, if_pos (by omega), if_pos (by omega), if_pos (by omega), rdS_get l i hil, wrap_add, w64 (x := (i : Int) + 1) (by omega), show ((i : Int) + 1) = ((i + 1 : Nat) : Int) by omega]
    rw [List.take_succ_eq_append_getElem hil] at h1
    unfold bytesIn at h1 ⊢
    rw [List.map_append, List.sum_append, List.map_cons, List.map_nil, List.sum_cons, List.sum_nil, Int.add_zero] at h1
    exact h1

theorem Bytes_eq (l : List S72) (hl : l.length ≤ 1000) (k : Nat) (hk : 1001 ≤ k) : prune_Bytes.f k l = some (wrap64 (bytesIn l)) := by
  have h := Bytes_l0 l hl l.length 0 k (by omega) (by omega) (by omega)
  rw [List.take_zero, show wrap64 (bytesIn ([] : List S72)) = 0 from by unfold bytesIn wrap64; simp] at h
  exact h

theorem stored_l0 (l : List S72) (hl : l.length ≤ 1000) : ∀ (d i k : Nat), l.length - i = d → i ≤ l.length → d < k → api_Stored.l0 k l l (l.length : Int) (i : Int) = some true := by
  intro d
  induction d with
  | zero =>
    intro i k hd hi hk
    obtain ⟨k, rfl⟩ : ∃ m, k = m + 1 := ⟨k - 1, by omega⟩
    rw [api_Stored.l0, if_neg (by omega)]
  | succ d ih =>
    intro i k hd hi hk
    obtain ⟨k, rfl⟩ : ∃ m, k = m + 1 := ⟨k - 1, by omega⟩
    rw [api_Stored.l0, if_pos (by omega), if_pos (by omega), if_pos (by omega), if_pos (by omega), if_neg (by simp), w64 (by omega), show ((i : Int) + 1) = ((i + 1 : Nat) : Int) by omega]
    exact ih (i + 1) k (by omega) (by omega) (by omega)

theorem SameStored_refl (l : List S72) (hl : l.length ≤ 1000) (k : Nat) (hk : 1001 ≤ k) : prune_Same.f k l l = some true := by
  unfold prune_Same.f api_Stored.f
  rw [if_pos rfl, show (0 : Int) = ((0 : Nat) : Int) from rfl, stored_l0 l hl l.length 0 k (by omega) (by omega) (by omega), Option.bind_some]

section
variable (keep : List S29) (a b : List S72)

theorem garb_l2 (i j : Nat) (x : S72) (y : S29) (hu : usedBy 4 x.f0 x.f1 x.f2 x.f3 y = false) (hl : y.f4.length ≤ 1000) (K : Nat)
    (hc : ∀ k, K ≤ k → storagebarterlaw39_PruneGarbage.l1 k keep a b (b.length : Int) (i : Int) keep (keep.length : Int) (wrap64 ((j : Int) + 1)) x.f0 x.f1 x.f2 x.f3 x.f4 = some true) :
    ∀ (d t k : Nat), y.f4.length - t = d → t ≤ y.f4.length → K + d < k → storagebarterlaw39_PruneGarbage.l2 k keep a b (b.length : Int) (i : Int) keep (keep.length : Int) (j : Int) y.f4 (y.f4.length : Int) (t : Int) x.f0 x.f1 x.f2 x.f3 x.f4 y.f0 y.f1 y.f2 y.f3 y.f4 = some true := by
  intro d
  induction d with
  | zero =>
    intro t k hd ht hk
    obtain ⟨k, rfl⟩ : ∃ m, k = m + 1 := ⟨k - 1, by omega⟩
    rw [storagebarterlaw39_PruneGarbage.l2, if_neg (by omega)]
    exact hc k (by omega)
  | succ d ih =>
    intro t k hd ht hk
    obtain ⟨k, rfl⟩ : ∃ m, k = m + 1 := ⟨k - 1, by omega⟩
    have htl : t < y.f4.length := by omega
    have h1 := ih (t + 1) k (by omega) (by omega) (by omega)
    rw [storagebarterlaw39_PruneGarbage.l2, if_pos (by omega), if_pos (by omega), if_pos (by omega), w64 (x := (t : Int) + 1) (by omega), show ((t : Int) + 1) = ((t + 1 : Nat) : Int) by omega, h1]
    by_cases e0 : y.f0 = x.f0
    · rw [if_pos e0]
      by_cases e1 : y.f1 = x.f1
      · rw [if_pos e1, rdP_get y.f4 t htl, if_neg]
        intro z
        rw [usedBy, beq_iff_eq.2 e0, beq_iff_eq.2 e1, Bool.true_and, Bool.true_and, List.any_eq_false] at hu
        apply hu y.f4[t] (List.getElem_mem htl)
        simp only [Bool.and_eq_true, beq_iff_eq] at z ⊢
        exact ⟨z.1.symm, z.2.1.symm, z.2.2.symm⟩
      · rw [if_neg e1]
    · rw [if_neg e0]

theorem garb_l1 (i : Nat) (x : S72) (hu : usedOf 4 keep x = false) (hp : Plain keep) (hk0 : keep.length ≤ 10) (K : Nat)
    (hc : ∀ k, K ≤ k → storagebarterlaw39_PruneGarbage.l0 k keep a b (b.length : Int) (wrap64 ((i : Int) + 1)) = some true) :
    ∀ (d j k : Nat), keep.length - j = d → j ≤ keep.length → K + 1002 * d < k → storagebarterlaw39_PruneGarbage.l1 k keep a b (b.length : Int) (i : Int) keep (keep.length : Int) (j : Int) x.f0 x.f1 x.f2 x.f3 x.f4 = some true := by
  intro d
  induction d with
  | zero =>
    intro j k hd hj hk
    obtain ⟨k, rfl⟩ : ∃ m, k = m + 1 := ⟨k - 1, by omega⟩
    rw [storagebarterlaw39_PruneGarbage.l1, if_neg (by omega)]
    exact hc k (by omega)
  | succ d ih =>
    intro j k hd hj hk
    obtain ⟨k, rfl⟩ : ∃ m, k = m + 1 := ⟨k - 1, by omega⟩
    have hjl : j < keep.length := by omega
    have hb := (hp keep[j] (List.getElem_mem hjl)).2
    have hu1 : usedBy 4 x.f0 x.f1 x.f2 x.f3 keep[j] = false := Bool.eq_false_iff.2 (List.any_eq_false.1 hu _ (List.getElem_mem hjl))
    rw [storagebarterlaw39_PruneGarbage.l1, if_pos (by omega), if_pos (by omega), if_pos (by omega), rd_get keep j hjl, show (0 : Int) = ((0 : Nat) : Int) from rfl]
    refine garb_l2 keep a b i j x keep[j] hu1 hb (K + 1002 * d + 1) ?_ keep[j].f4.length 0 k (by omega) (by omega) (by omega)
    intro k' hk'
    rw [w64 (by omega), show ((j : Int) + 1) = ((j + 1 : Nat) : Int) by omega]
    exact ih (j + 1) k' (by omega) (by omega) (by omega)

theorem garb_l0 (hu : ∀ x ∈ b, usedOf 4 keep x = false) (hp : Plain keep) (hk0 : keep.length ≤ 10) (hb : b.length ≤ 1000) (ha : a.length ≤ 1000) (hua : ∀ x ∈ a, usedOf 4 keep x = true) :
    ∀ (d i k : Nat), b.length - i = d → i ≤ b.length → 2000 + 20000 * d < k → storagebarterlaw39_PruneGarbage.l0 k keep a b (b.length : Int) (i : Int) = some true := by
  intro d
  induction d with
  | zero =>
    intro i k hd hi hk
    obtain ⟨k, rfl⟩ : ∃ m, k = m + 1 := ⟨k - 1, by omega⟩
    have e1 : a.filter (usedOf 4 keep) = a := List.filter_eq_self.2 hua
    have e2 : a.filter (fun x => !usedOf 4 keep x) = [] := List.filter_eq_nil_iff.2 fun x hx => by rw [hua x hx]; simp
    rw [storagebarterlaw39_PruneGarbage.l0, if_neg (by omega), prune_Garbage.f, if_pos ⟨by omega, by omega, fun y hy => by have := (hp y hy).2; omega⟩, Option.bind_some, e1, e2, SameStored_refl a ha k (by omega), Option.bind_some, if_pos rfl]
    rfl
  | succ d ih =>
    intro i k hd hi hk
    obtain ⟨k, rfl⟩ : ∃ m, k = m + 1 := ⟨k - 1, by omega⟩
    have hil : i < b.length := by omega
    rw [storagebarterlaw39_PruneGarbage.l0, if_pos (by omega), if_pos (by omega), if_pos (by omega), rdS_get b i hil, show (0 : Int) = ((0 : Nat) : Int) from rfl]
    refine garb_l1 keep a b i b[i] (hu _ (List.getElem_mem hil)) hp hk0 (2000 + 20000 * d + 1) ?_ keep.length 0 k (by omega) (by omega) (by omega)
    intro k' hk'
    rw [w64 (by omega), show ((i : Int) + 1) = ((i + 1 : Nat) : Int) by omega]
    exact ih (i + 1) k' (by omega) (by omega) (by omega)
end

theorem filter_part {α : Type} (l : List α) (p : α → Bool) : (l.filter p).length + (l.filter (fun x => !p x)).length = l.length := by
  induction l with
  | nil => rfl
  | cons x l ih =>
    cases h : p x
    · rw [List.filter_cons_of_neg (by simp [h]), List.filter_cons_of_pos (by simp [h]), List.length_cons, List.length_cons]
      omega
    · rw [List.filter_cons_of_pos h, List.filter_cons_of_neg (by simp [h]), List.length_cons, List.length_cons]
      omega

theorem PruneGarbage : storagebarterlaw39_PruneGarbage.Pure := by
  intro L a1 _ _ hL ha
  have hb := bounds_u8 ha
  obtain ⟨S, e1, hS⟩ := New_ok L hL
  obtain ⟨k, hk⟩ : ∃ k : Nat, k = 30000000 := ⟨_, rfl⟩
  obtain ⟨l, sh, at1, e2, hp, hl, h1, hs⟩ := mades_ok hS 0 (by omega) k (by omega)
  obtain ⟨t, at2, e3, ht0, ht1, -⟩ := Pick_ok hS at1 3 h1 (by omega) (by omega)
  refine ⟨k, ?_⟩
  obtain ⟨m, hm, hm4⟩ : ∃ m : Nat, Int.tmod (wrap64 a1) 4 = m ∧ m < 4 := by
    rw [w64 (by omega), Int.tmod_eq_emod_of_nonneg hb.1]
    exact ⟨(a1 % 4).toNat, by omega, by omega⟩
  unfold storagebarterlaw39_PruneGarbage.f
  rw [law39_sane _ (by omega), Option.bind_some, if_pos rfl, e1, Option.bind_some, e2, Option.bind_some, e3, Option.bind_some, hm, w64 (x := 1 + t) (by omega), Drop_eq l (1 + t) m _ (by omega) (by omega) hp (by omega), Option.bind_some]
  have hps := hp.stay (1 + t) (lastN (numbersOf l (1 + t)) m)
  have hpart := part_len l (1 + t) (lastN (numbersOf l (1 + t)) m)
  generalize stayOf l (1 + t) (lastN (numbersOf l (1 + t)) m) = keep at hps hpart ⊢
  have hkl : keep.length ≤ 10 := by omega
  clear hpart e1 e2 e3 hm
  dsimp only
  rw [prune_Garbage.f, if_pos ⟨by omega, by omega, fun y hy => by have := (hps y hy).2; omega⟩, Option.bind_some]
  have hfp := filter_part sh (usedOf 4 keep)
  have hbp := bytesIn_part sh (usedOf 4 keep)
  have hu1 : ∀ x ∈ sh.filter (usedOf 4 keep), usedOf 4 keep x = true := fun x hx => (List.mem_filter.1 hx).2
  have hu2 : ∀ x ∈ sh.filter (fun x => !usedOf 4 keep x), usedOf 4 keep x = false := fun x hx => by simpa using (List.mem_filter.1 hx).2
  generalize sh.filter (usedOf 4 keep) = a at hfp hbp hu1 ⊢
  generalize sh.filter (fun x => !usedOf 4 keep x) = b at hfp hbp hu2 ⊢
  dsimp only
  rw [if_pos (by rw [w64 (by omega)]; omega), Bytes_eq a (by omega) k (by omega), Option.bind_some, Bytes_eq b (by omega) k (by omega), Option.bind_some, Bytes_eq sh hs k (by omega), Option.bind_some, wrap_add2, hbp]
  obtain ⟨k', rfl⟩ : ∃ m, k = m + 1 := ⟨k - 1, by omega⟩
  rw [storagebarterlaw39_PruneGarbage.j0, if_neg (by simp), show (0 : Int) = ((0 : Nat) : Int) from rfl]
  exact garb_l0 keep a b hu2 hps hkl (by omega) (by omega) hu1 b.length 0 k' (by omega) (by omega) (by omega)

end Go.Proofs.Ytlkgmfhgnfgmiaa.Pure

namespace Go.Proofs.Ytlkgmfhgnfgmiaa.pruneGarbage
open Go.ChangeShapes Go.WideShapes Go.ChangeAt Go.RowKit
open Go.ChangeMaps (open_string shut_string)
set_option linter.unusedVariables false
theorem own : ownKnob Try.prog.godebug = none := by kernel_rfl
theorem laidOut : laidOutB Try.prog = true := by kernel_rfl
def IsRow (k : IntKind) (w : World) (a : Option Addr) (len cap : Nat) (zs : List Int) : Prop :=
  (a = none ∧ len = 0 ∧ cap = 0 ∧ zs = []) ∨
  ∃ x, a = some x ∧ len ≤ cap ∧ cap ≤ maxLen ∧ zs.length = cap ∧ (∀ i, i < zs.length → w.cell? (x.add i) = some (.int k (zs.getD i 0))) ∧ ∀ n ∈ zs, (Lit.int k n).wf = true
set_option maxRecDepth 100000 in
theorem lifted (os : Os) (started : os.Started) (H : Type) (enc : TypeId × Value → H) :
    ReturnsInHanded {} Try.checked os 9 .any (Rows.pruneGarbageSpec.pre6 enc Try.prog Try.f9 Rows.pruneGarbageRow.domain false) (Rows.pruneGarbageSpec.post enc Try.prog Try.f9 false true false false) := by
  refine returnsInHanded_of_change_sized (C := Try.checked) own started (by kernel_rfl) Try.func9
    (ChangeSpec.witness6 (enc := enc) (C := Try.checked) false ⟨#[], #[.slice none 0 0, .int .u8 0], []⟩ 8 (by kernel_rfl) (by kernel_rfl) (by kernel_rfl) (by kernel_rfl)) ?_
  intro W base args ds gs before hval0 hW hcnd hsz0 _
  have hsz : (DataW.weightsEach Try.prog (Try.f9.params.toList ++ Rows.pruneGarbageSpec.plain.varTypes Try.prog) (ds ++ gs)).all (· ≤ reachBytes) = true := hsz0
  have hval : ∀ (j : Nat) t v, Try.f9.params[j]? = some t → args[j]? = some v → Value.okWide Try.prog W .any base t v := hval0
  have hW' := hW
  obtain ⟨p, q, hA0, hV, rfl, hfz, hnd⟩ := hW
  have hA : DataW.TrodAll enc Try.prog W 0 (fun _ => true) true Try.f9.params.toList args.toList ds p := hA0
  rw [Try.params9] at hA hval hsz
  obtain ⟨v0, vs0, d0, ds0, p0, q0, hargs, rfl, rfl, h0, r0⟩ := trodAll_cons hA
  obtain ⟨v1, vs1, d1, ds1, p1, q1, rfl, rfl, rfl, h1, r1⟩ := trodAll_cons r0
  obtain ⟨rfl, rfl, rfl⟩ := trodAll_nil r1
  obtain rfl : args = #[v0, v1] := by cases args; simp_all
  obtain ⟨rfl, rfl⟩ := trodVars_none hV
  obtain ⟨a0, len0, cap0, rfl⟩ := okWide_slice Try.underlying22 (hval 0 22 v0 rfl rfl)
  have k0 := h0
  have lt0 : ∀ x ∈ p0, x.block < W.heap.size := by obtain ⟨m, hm⟩ := k0; exact DataW.trod_lt m _ _ _ hm
  obtain ⟨z0, w0⟩ : ∃ zs, IsRow .u8 W a0 len0 cap0 zs := by
    obtain ⟨fuel, hf⟩ := h0
    rcases open_ints Try.underlying22 Try.underlying5 (by kernel_rfl) hf with ⟨hcs, _⟩ | ⟨x, l, c, zs, hcs, _, hl, hm, hz, _, hcell, hwz⟩
    · simp [Value.cells] at hcs
      obtain ⟨rfl, rfl, rfl⟩ := hcs
      exact ⟨[], .inl ⟨rfl, rfl, rfl, rfl⟩⟩
    · simp [Value.cells] at hcs
      obtain ⟨rfl, rfl, rfl⟩ := hcs
      exact ⟨zs, .inr ⟨_, rfl, hl, hm, by simpa using hz, hcell, hwz⟩⟩
  have y0 : len0 * 1 ≤ 140737488351232 := Go.Proofs.YtlkgmfhgnfgmiaaW.PrintWords.sized_ints hsz (j := 0) (t := 22) rfl rfl Try.underlying22 Try.underlying5 (by kernel_rfl) (by kernel_rfl) h0
  obtain ⟨a1, rfl, rfl, rfl, w1⟩ := open_int Try.underlying5 (hval 1 5 v1 rfl rfl) h1
  clear hA0 hval0 hsz0 hsz
  refine (Q.storagebarterlaw39_PruneGarbage.walk Pure.PruneGarbage a0 len0 cap0 z0 a1 W w0 y0 w1).mono fun e W' ⟨he, bel⟩ => ?_
  subst he
  exact ⟨_, rfl, _, _, _, [], _, [], hW', trodAll_mk1 (shut_bool Try.underlying4 _), (trodAll_cons_mk (Below.trod laidOut (by kernel_rfl) (of_decide_eq_true (by kernel_rfl)) k0 bel lt0) (trodAll_cons_mk (shut_int Try.underlying5 w1) trodAll_mk0)), rfl, bel.frame _, fun h => by cases h⟩
theorem over : Rows.pruneGarbageRow.holds Try.pinned (OpenSpec.ofChange Rows.pruneGarbageSpec) :=
  OpenClaim.holds_of_wide 9 Try.f9 rfl rfl rfl rfl rfl rfl rfl ⟨rfl, rfl, rfl, rfl, rfl⟩ rfl rfl rfl rfl rfl (by kernel_rfl) Try.func9 (by kernel_rfl)
    (of_decide_eq_true (by kernel_rfl)) (by unfold Func.isWrapper; first | (rw [if_pos (by decide +kernel)]; kernel_rfl) | (rw [if_neg (by decide +kernel)]; exact ⟨rfl, rfl⟩))
    (fun os started H enc _ => lifted os started H enc)
theorem proved : Rows.PruneGarbageSaid := over
#print axioms proved
end Go.Proofs.Ytlkgmfhgnfgmiaa.pruneGarbage
namespace Go.Proofs.Ytlkgmfhgnfgmiaa
/-- The row, under a short name, for the claim. -/
theorem pruneGarbage_holds : Rows.PruneGarbageSaid := pruneGarbage.proved
end Go.Proofs.Ytlkgmfhgnfgmiaa
