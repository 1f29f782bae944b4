/- The bytes of texts and lists, and what any bytes mean as them, or the error. -/
import Derived.Test.YtpebhbhdkmpjeaaCWireTexts1
import Derived.Laws.BitsLemmas
import Derived.OpenShut
import Derived.Test.YtpebhbhdkmpjeaaRows
import Derived.WalkKit
import Derived.ProofKit
import Derived.ShutString
import Derived.ChangeOld
import Derived.Below
import Derived.SizedLaws
import Derived.Test.YtpebhbhdkmpjeaaWSized
namespace Go.Proofs.Ytpebhbhdkmpjeaa.Q
open Go.RowKit Go.Proofs.YtpebhbhdkmpjeaaW.PrintWords Go.Proofs.YtpebhbhdkmpjeaaW.PrintLast Go.Proofs.YtpebhbhdkmpjeaaW.PrintMore Go.Proofs.Ytpebhbhdkmpjeaa.Gput Go.Proofs.Ytpebhbhdkmpjeaa.Gputl
attribute [local go_sem] max2_int min2_int max_two min_two max_three min_three max_four min_four   -- for this text's walks alone
set_option linter.unusedVariables false
set_option linter.unusedSimpArgs false

/-! ### storagebarterlaw01_WireTexts: function 7 -/
mutual
def storagebarterlaw01_WireTexts.j0 : Nat → ByteArray → ByteArray → List Int → Int → Int → Int → Bool → Option (Bool)
  | 0, _, _, _, _, _, _, _ => none
  | k + 1, x0, x1, x2, x3, x4, x5, x41 => if x41 = true then (some true) else ((wire_PutText.f x0 x1).bind fun t253 => ((storagebarterref01_PutText.f k x0 x1).bind fun t254 => (if t253.toList = t254.toList then ((wire_PutList.f x0 x2).bind fun t255 => ((storagebarterref01_PutList.f k x0 x2).bind fun t256 => (storagebarterlaw01_WireTexts.j1 k x0 x1 x2 x3 x4 x5 (t255.toList != t256.toList)))) else (storagebarterlaw01_WireTexts.j1 k x0 x1 x2 x3 x4 x5 true))))
def storagebarterlaw01_WireTexts.j1 : Nat → ByteArray → ByteArray → List Int → Int → Int → Int → Bool → Option (Bool)
  | 0, _, _, _, _, _, _, _ => none
  | k + 1, x0, x1, x2, x3, x4, x5, x57 => if x57 = true then (some false) else ((storagebarterref01_PutText.f k (⟨#[]⟩ : ByteArray) x1).bind fun t257 => ((storagebarterref01_PutList.f k (⟨#[]⟩ : ByteArray) x2).bind fun t258 => (if t257.size + x0.size ≤ 9223372036854775807 then (if (t257.size : Int) = 0 then (none) else (if 0 ≤ (Int.tmod (wrap64 (x5)) (t257.size : Int)) then (if (Int.tmod (wrap64 (x5)) (t257.size : Int)) ≤ (t257.size : Int) then (if t258.size + x0.size ≤ 9223372036854775807 then (if (t258.size : Int) = 0 then (none) else (if 0 ≤ (Int.tmod (wrap64 (x5)) (t258.size : Int)) then (if (Int.tmod (wrap64 (x5)) (t258.size : Int)) ≤ (t258.size : Int) then ((storagebarterref01_PutInt.f k (⟨#[]⟩ : ByteArray) x4).bind fun t259 => (if t259.size + x1.size ≤ 9223372036854775807 then ((some (([x0, t257, t257 ++ x0, t257.extract 0 ((Int.tmod (wrap64 (x5)) (t257.size : Int)) : Int).toNat, t258, t258 ++ x0, t258.extract 0 ((Int.tmod (wrap64 (x5)) (t258.size : Int)) : Int).toNat, t259 ++ x1] : List ByteArray) : List ByteArray)).bind fun y260 => (storagebarterlaw01_WireTexts.l0 k x1 x2 x3 x4 y260 (y260.length : Int) 0)) else (none))) else (none)) else (none))) else (none)) else (none)) else (none))) else (none))))
def storagebarterlaw01_WireTexts.l0 : Nat → ByteArray → List Int → Int → Int → List ByteArray → Int → Int → Option (Bool)
  | 0, _, _, _, _, _, _, _ => none
  | k + 1, x1, x2, x3, x4, x89, x90, x91 => if x91 < x90 then (if 0 ≤ x91 then (if x91 < (x89.length : Int) then ((some (([x3, 0] : List Int) : List Int)).bind fun y264 => (storagebarterlaw01_WireTexts.l1 k x1 x2 x3 x4 (rdOf ByteArray.empty x89 x91) x89 x90 x91 y264 (y264.length : Int) 0)) else (none)) else (none)) else (some true)
def storagebarterlaw01_WireTexts.l1 : Nat → ByteArray → List Int → Int → Int → ByteArray → List ByteArray → Int → Int → List Int → Int → Int → Option (Bool)
  | 0, _, _, _, _, _, _, _, _, _, _, _ => none
  | k + 1, x1, x2, x3, x4, x16, x89, x90, x91, x96, x97, x98 => if x98 < x97 then (if 0 ≤ x98 then (if x98 < (x96.length : Int) then ((some (([x4, 5000, (x1.size : Int), (x2.length : Int)] : List Int) : List Int)).bind fun y268 => (storagebarterlaw01_WireTexts.l2 k x1 x2 x3 x4 x16 (rd x96 x98) x89 x90 x91 x96 x97 x98 y268 (y268.length : Int) 0)) else (none)) else (none)) else (storagebarterlaw01_WireTexts.l0 k x1 x2 x3 x4 x89 x90 (wrap64 (x91 + 1)))
def storagebarterlaw01_WireTexts.l2 : Nat → ByteArray → List Int → Int → Int → ByteArray → Int → List ByteArray → Int → Int → List Int → Int → Int → List Int → Int → Int → Option (Bool)
  | 0, _, _, _, _, _, _, _, _, _, _, _, _, _, _, _ => none
  | k + 1, x1, x2, x3, x4, x16, x18, x89, x90, x91, x96, x97, x98, x107, x108, x109 => if x109 < x108 then (if 0 ≤ x109 then (if x109 < (x107.length : Int) then ((wire_Text.f k x16 x18 (rd x107 x109)).bind fun bt272 => ((storagebarterref01_Text.f k x16 x18 (rd x107 x109)).bind fun bt275 => (if bt272.1.toList = bt275.1.toList then (if bt272.2.1 = bt275.2.1 then (storagebarterlaw01_WireTexts.j5 k x1 x2 x3 x4 x16 x18 (rd x107 x109) x89 x90 x91 x96 x97 x98 x107 x108 x109 (bt272.2.2 != bt275.2.2)) else (storagebarterlaw01_WireTexts.j5 k x1 x2 x3 x4 x16 x18 (rd x107 x109) x89 x90 x91 x96 x97 x98 x107 x108 x109 true)) else (storagebarterlaw01_WireTexts.j5 k x1 x2 x3 x4 x16 x18 (rd x107 x109) x89 x90 x91 x96 x97 x98 x107 x108 x109 true)))) else (none)) else (none)) else (storagebarterlaw01_WireTexts.l1 k x1 x2 x3 x4 x16 x89 x90 x91 x96 x97 (wrap64 (x98 + 1)))
def storagebarterlaw01_WireTexts.j5 : Nat → ByteArray → List Int → Int → Int → ByteArray → Int → Int → List ByteArray → Int → Int → List Int → Int → Int → List Int → Int → Int → Bool → Option (Bool)
  | 0, _, _, _, _, _, _, _, _, _, _, _, _, _, _, _, _, _ => none
  | k + 1, x1, x2, x3, x4, x16, x18, x20, x89, x90, x91, x96, x97, x98, x107, x108, x109, x141 => if x141 = true then (some false) else ((wire_List.f k x16 x18 x20).bind fun bt278 => ((storagebarterref01_List.f k x16 x18 x20).bind fun bt283 => ((storagebarterref01_Same.f k bt278.1 bt283.1).bind fun t288 => (if t288 = true then (if bt278.2.1 = bt283.2.1 then (if bt278.2.2 = bt283.2.2 then (storagebarterlaw01_WireTexts.l2 k x1 x2 x3 x4 x16 x18 x89 x90 x91 x96 x97 x98 x107 x108 (wrap64 (x109 + 1))) else (some false)) else (some false)) else (some false)))))
end
def storagebarterlaw01_WireTexts.f (k : Nat) (a0 : ByteArray) (a1 : ByteArray) (l2 : List Int) (a3 : Int) (a4 : Int) (a5 : Int) : Option (Bool) := (storagebarterlaw01_sane.f k).bind fun t252 => (if t252 = true then (if (wrap64 ((a0.size : Int) + (a1.size : Int))) > 4000 then (storagebarterlaw01_WireTexts.j0 k a0 a1 l2 a3 a4 a5 true) else (storagebarterlaw01_WireTexts.j0 k a0 a1 l2 a3 a4 a5 (decide ((l2.length : Int) > 400)))) else (some false))
theorem storagebarterlaw01_WireTexts.mono_l : ∀ k, (∀ y0 y1 y2 y3 y4 y5 y6, LeO (storagebarterlaw01_WireTexts.j0 k y0 y1 y2 y3 y4 y5 y6) (storagebarterlaw01_WireTexts.j0 (k + 1) y0 y1 y2 y3 y4 y5 y6)) ∧ (∀ y0 y1 y2 y3 y4 y5 y6, LeO (storagebarterlaw01_WireTexts.j1 k y0 y1 y2 y3 y4 y5 y6) (storagebarterlaw01_WireTexts.j1 (k + 1) y0 y1 y2 y3 y4 y5 y6)) ∧ (∀ y0 y1 y2 y3 y4 y5 y6, LeO (storagebarterlaw01_WireTexts.l0 k y0 y1 y2 y3 y4 y5 y6) (storagebarterlaw01_WireTexts.l0 (k + 1) y0 y1 y2 y3 y4 y5 y6)) ∧ (∀ y0 y1 y2 y3 y4 y5 y6 y7 y8 y9 y10, LeO (storagebarterlaw01_WireTexts.l1 k y0 y1 y2 y3 y4 y5 y6 y7 y8 y9 y10) (storagebarterlaw01_WireTexts.l1 (k + 1) y0 y1 y2 y3 y4 y5 y6 y7 y8 y9 y10)) ∧ (∀ y0 y1 y2 y3 y4 y5 y6 y7 y8 y9 y10 y11 y12 y13 y14, LeO (storagebarterlaw01_WireTexts.l2 k y0 y1 y2 y3 y4 y5 y6 y7 y8 y9 y10 y11 y12 y13 y14) (storagebarterlaw01_WireTexts.l2 (k + 1) y0 y1 y2 y3 y4 y5 y6 y7 y8 y9 y10 y11 y12 y13 y14)) ∧ (∀ y0 y1 y2 y3 y4 y5 y6 y7 y8 y9 y10 y11 y12 y13 y14 y15 y16, LeO (storagebarterlaw01_WireTexts.j5 k y0 y1 y2 y3 y4 y5 y6 y7 y8 y9 y10 y11 y12 y13 y14 y15 y16) (storagebarterlaw01_WireTexts.j5 (k + 1) y0 y1 y2 y3 y4 y5 y6 y7 y8 y9 y10 y11 y12 y13 y14 y15 y16))
  | 0 => ⟨fun _ _ _ _ _ _ _ r h => by simp [storagebarterlaw01_WireTexts.j0] at h, fun _ _ _ _ _ _ _ r h => by simp [storagebarterlaw01_WireTexts.j1] at h, fun _ _ _ _ _ _ _ r h => by simp [storagebarterlaw01_WireTexts.l0] at h, fun _ _ _ _ _ _ _ _ _ _ _ r h => by simp [storagebarterlaw01_WireTexts.l1] at h, fun _ _ _ _ _ _ _ _ _ _ _ _ _ _ _ r h => by simp [storagebarterlaw01_WireTexts.l2] at h, fun _ _ _ _ _ _ _ _ _ _ _ _ _ _ _ _ _ r h => by simp [storagebarterlaw01_WireTexts.j5] at h⟩
  | k + 1 => by
    obtain ⟨ih0, ih1, ih2, ih3, ih4, ih5⟩ := storagebarterlaw01_WireTexts.mono_l k
    refine ⟨?_, ?_, ?_, ?_, ?_, ?_⟩
    · intro y0 y1 y2 y3 y4 y5 y6
      unfold storagebarterlaw01_WireTexts.j0
      repeat' first
      | (with_reducible exact ih0 _ _ _ _ _ _ _)
      | (with_reducible exact ih1 _ _ _ _ _ _ _)
      | (with_reducible exact ih2 _ _ _ _ _ _ _)
      | (with_reducible exact ih3 _ _ _ _ _ _ _ _ _ _ _)
      | (with_reducible exact ih4 _ _ _ _ _ _ _ _ _ _ _ _ _ _ _)
      | (with_reducible exact ih5 _ _ _ _ _ _ _ _ _ _ _ _ _ _ _ _ _)
      | (with_reducible exact storagebarterlaw01_sane.mono _)
      | (with_reducible exact storagebarterref01_List.mono _ _ _ _)
      | (with_reducible exact storagebarterref01_PutInt.mono _ _ _)
      | (with_reducible exact storagebarterref01_PutList.mono _ _ _)
      | (with_reducible exact storagebarterref01_PutText.mono _ _ _)
      | (with_reducible exact storagebarterref01_Same.mono _ _ _)
      | (with_reducible exact storagebarterref01_Text.mono _ _ _ _)
      | (with_reducible exact wire_List.mono _ _ _ _)
      | (with_reducible exact wire_Text.mono _ _ _ _)
      | (with_reducible exact LeO.refl _)
      | (with_reducible exact LeO.none _)
      | (with_reducible refine LeO.ite ?_ ?_)
      | (with_reducible refine LeO.bind ?_ (fun _ => ?_))
      | exact ih0 _ _ _ _ _ _ _
      | exact ih1 _ _ _ _ _ _ _
      | exact ih2 _ _ _ _ _ _ _
      | exact ih3 _ _ _ _ _ _ _ _ _ _ _
      | exact ih4 _ _ _ _ _ _ _ _ _ _ _ _ _ _ _
      | exact ih5 _ _ _ _ _ _ _ _ _ _ _ _ _ _ _ _ _
      | exact storagebarterlaw01_sane.mono _
      | exact storagebarterref01_List.mono _ _ _ _
      | exact storagebarterref01_PutInt.mono _ _ _
      | exact storagebarterref01_PutList.mono _ _ _
      | exact storagebarterref01_PutText.mono _ _ _
      | exact storagebarterref01_Same.mono _ _ _
      | exact storagebarterref01_Text.mono _ _ _ _
      | exact wire_List.mono _ _ _ _
      | exact wire_Text.mono _ _ _ _
      | exact LeO.none _
      | refine LeO.ite ?_ ?_
      | refine LeO.bind ?_ (fun _ => ?_)
    · intro y0 y1 y2 y3 y4 y5 y6
      unfold storagebarterlaw01_WireTexts.j1
      repeat' first
      | (with_reducible exact ih0 _ _ _ _ _ _ _)
      | (with_reducible exact ih1 _ _ _ _ _ _ _)
      | (with_reducible exact ih2 _ _ _ _ _ _ _)
      | (with_reducible exact ih3 _ _ _ _ _ _ _ _ _ _ _)
      | (with_reducible exact ih4 _ _ _ _ _ _ _ _ _ _ _ _ _ _ _)
      | (with_reducible exact ih5 _ _ _ _ _ _ _ _ _ _ _ _ _ _ _ _ _)
      | (with_reducible exact storagebarterlaw01_sane.mono _)
      | (with_reducible exact storagebarterref01_List.mono _ _ _ _)
      | (with_reducible exact storagebarterref01_PutInt.mono _ _ _)
      | (with_reducible exact storagebarterref01_PutList.mono _ _ _)
      | (with_reducible exact storagebarterref01_PutText.mono _ _ _)
      | (with_reducible exact storagebarterref01_Same.mono _ _ _)
      | (with_reducible exact storagebarterref01_Text.mono _ _ _ _)
      | (with_reducible exact wire_List.mono _ _ _ _)
      | (with_reducible exact wire_Text.mono _ _ _ _)
      | (with_reducible exact LeO.refl _)
      | (with_reducible exact LeO.none _)
      | (with_reducible refine LeO.ite ?_ ?_)
      | (with_reducible refine LeO.bind ?_ (fun _ => ?_))
      | exact ih0 _ _ _ _ _ _ _
      | exact ih1 _ _ _ _ _ _ _
      | exact ih2 _ _ _ _ _ _ _
      | exact ih3 _ _ _ _ _ _ _ _ _ _ _
      | exact ih4 _ _ _ _ _ _ _ _ _ _ _ _ _ _ _
      | exact ih5 _ _ _ _ _ _ _ _ _ _ _ _ _ _ _ _ _
      | exact storagebarterlaw01_sane.mono _
      | exact storagebarterref01_List.mono _ _ _ _
      | exact storagebarterref01_PutInt.mono _ _ _
      | exact storagebarterref01_PutList.mono _ _ _
      | exact storagebarterref01_PutText.mono _ _ _
      | exact storagebarterref01_Same.mono _ _ _
      | exact storagebarterref01_Text.mono _ _ _ _
      | exact wire_List.mono _ _ _ _
      | exact wire_Text.mono _ _ _ _
      | exact LeO.none _
      | refine LeO.ite ?_ ?_
      | refine LeO.bind ?_ (fun _ => ?_)
    · intro y0 y1 y2 y3 y4 y5 y6
      unfold storagebarterlaw01_WireTexts.l0
      repeat' first
      | (with_reducible exact ih0 _ _ _ _ _ _ _)
      | (with_reducible exact ih1 _ _ _ _ _ _ _)
      | (with_reducible exact ih2 _ _ _ _ _ _ _)
      | (with_reducible exact ih3 _ _ _ _ _ _ _ _ _ _ _)
      | (with_reducible exact ih4 _ _ _ _ _ _ _ _ _ _ _ _ _ _ _)
      | (with_reducible exact ih5 _ _ _ _ _ _ _ _ _ _ _ _ _ _ _ _ _)
      | (with_reducible exact storagebarterlaw01_sane.mono _)
      | (with_reducible exact storagebarterref01_List.mono _ _ _ _)
      | (with_reducible exact storagebarterref01_PutInt.mono _ _ _)
      | (with_reducible exact storagebarterref01_PutList.mono _ _ _)
      | (with_reducible exact storagebarterref01_PutText.mono _ _ _)
      | (with_reducible exact storagebarterref01_Same.mono _ _ _)
      | (with_reducible exact storagebarterref01_Text.mono _ _ _ _)
      | (with_reducible exact wire_List.mono _ _ _ _)
      | (with_reducible exact wire_Text.mono _ _ _ _)
      | (with_reducible exact LeO.refl _)
      | (with_reducible exact LeO.none _)
      | (with_reducible refine LeO.ite ?_ ?_)
      | (with_reducible refine LeO.bind ?_ (fun _ => ?_))
      | exact ih0 _ _ _ _ _ _ _
      | exact ih1 _ _ _ _ _ _ _
      | exact ih2 _ _ _ _ _ _ _
      | exact ih3 _ _ _ _ _ _ _ _ _ _ _
      | exact ih4 _ _ _ _ _ _ _ _ _ _ _ _ _ _ _
      | exact ih5 _ _ _ _ _ _ _ _ _ _ _ _ _ _ _ _ _
      | exact storagebarterlaw01_sane.mono _
      | exact storagebarterref01_List.mono _ _ _ _
      | exact storagebarterref01_PutInt.mono _ _ _
      | exact storagebarterref01_PutList.mono _ _ _
      | exact storagebarterref01_PutText.mono _ _ _
      | exact storagebarterref01_Same.mono _ _ _
      | exact storagebarterref01_Text.mono _ _ _ _
      | exact wire_List.mono _ _ _ _
      | exact wire_Text.mono _ _ _ _
      | exact LeO.none _
      | refine LeO.ite ?_ ?_
      | refine LeO.bind ?_ (fun _ => ?_)
    · intro y0 y1 y2 y3 y4 y5 y6 y7 y8 y9 y10
      unfold storagebarterlaw01_WireTexts.l1
      repeat' first
      | (with_reducible exact ih0 _ _ _ _ _ _ _)
      | (with_reducible exact ih1 _ _ _ _ _ _ _)
      | (with_reducible exact ih2 _ _ _ _ _ _ _)
      | (with_reducible exact ih3 _ _ _ _ _ _ _ _ _ _ _)
      | (with_reducible exact ih4 _ _ _ _ _ _ _ _ _ _ _ _ _ _ _)
      | (with_reducible exact ih5 _ _ _ _ _ _ _ _ _ _ _ _ _ _ _ _ _)
      | (with_reducible exact storagebarterlaw01_sane.mono _)
      | (with_reducible exact storagebarterref01_List.mono _ _ _ _)
      | (with_reducible exact storagebarterref01_PutInt.mono _ _ _)
      | (with_reducible exact storagebarterref01_PutList.mono _ _ _)
      | (with_reducible exact storagebarterref01_PutText.mono _ _ _)
      | (with_reducible exact storagebarterref01_Same.mono _ _ _)
      | (with_reducible exact storagebarterref01_Text.mono _ _ _ _)
      | (with_reducible exact wire_List.mono _ _ _ _)
      | (with_reducible exact wire_Text.mono _ _ _ _)
      | (with_reducible exact LeO.refl _)
      | (with_reducible exact LeO.none _)
      | (with_reducible refine LeO.ite ?_ ?_)
      | (with_reducible refine LeO.bind ?_ (fun _ => ?_))
      | exact ih0 _ _ _ _ _ _ _
      | exact ih1 _ _ _ _ _ _ _
      | exact ih2 _ _ _ _ _ _ _
      | exact ih3 _ _ _ _ _ _ _ _ _ _ _
      | exact ih4 _ _ _ _ _ _ _ _ _ _ _ _ _ _ _
      | exact ih5 _ _ _ _ _ _ _ _ _ _ _ _ _ _ _ _ _
      | exact storagebarterlaw01_sane.mono _
      | exact storagebarterref01_List.mono _ _ _ _
      | exact storagebarterref01_PutInt.mono _ _ _
      | exact storagebarterref01_PutList.mono _ _ _
      | exact storagebarterref01_PutText.mono _ _ _
      | exact storagebarterref01_Same.mono _ _ _
      | exact storagebarterref01_Text.mono _ _ _ _
      | exact wire_List.mono _ _ _ _
      | exact wire_Text.mono _ _ _ _
      | exact LeO.none _
      | refine LeO.ite ?_ ?_
      | refine LeO.bind ?_ (fun _ => ?_)
    · intro y0 y1 y2 y3 y4 y5 y6 y7 y8 y9 y10 y11 y12 y13 y14
      unfold storagebarterlaw01_WireTexts.l2
      repeat' first
      | (with_reducible exact ih0 _ _ _ _ _ _ _)
      | (with_reducible exact ih1 _ _ _ _ _ _ _)
      | (with_reducible exact ih2 _ _ _ _ _ _ _)
      | (with_reducible exact ih3 _ _ _ _ _ _ _ _ _ _ _)
      | (with_reducible exact ih4 _ _ _ _ _ _ _ _ _ _ _ _ _ _ _)
      | (with_reducible exact ih5 _ _ _ _ _ _ _ _ _ _ _ _ _ _ _ _ _)
      | (with_reducible exact storagebarterlaw01_sane.mono _)
      | (with_reducible exact storagebarterref01_List.mono _ _ _ _)
      | (with_reducible exact storagebarterref01_PutInt.mono _ _ _)
      | (with_reducible exact storagebarterref01_PutList.mono _ _ _)
      | (with_reducible exact storagebarterref01_PutText.mono _ _ _)
      | (with_reducible exact storagebarterref01_Same.mono _ _ _)
      | (with_reducible exact storagebarterref01_Text.mono _ _ _ _)
      | (with_reducible exact wire_List.mono _ _ _ _)
      | (with_reducible exact wire_Text.mono _ _ _ _)
      | (with_reducible exact LeO.refl _)
      | (with_reducible exact LeO.none _)
      | (with_reducible refine LeO.ite ?_ ?_)
      | (with_reducible refine LeO.bind ?_ (fun _ => ?_))
      | exact ih0 _ _ _ _ _ _ _
      | exact ih1 _ _ _ _ _ _ _
      | exact ih2 _ _ _ _ _ _ _
      | exact ih3 _ _ _ _ _ _ _ _ _ _ _
      | exact ih4 _ _ _ _ _ _ _ _ _ _ _ _ _ _ _
      | exact ih5 _ _ _ _ _ _ _ _ _ _ _ _ _ _ _ _ _
      | exact storagebarterlaw01_sane.mono _
      | exact storagebarterref01_List.mono _ _ _ _
      | exact storagebarterref01_PutInt.mono _ _ _
      | exact storagebarterref01_PutList.mono _ _ _
      | exact storagebarterref01_PutText.mono _ _ _
      | exact storagebarterref01_Same.mono _ _ _
      | exact storagebarterref01_Text.mono _ _ _ _
      | exact wire_List.mono _ _ _ _
      | exact wire_Text.mono _ _ _ _
      | exact LeO.none _
      | refine LeO.ite ?_ ?_
      | refine LeO.bind ?_ (fun _ => ?_)
    · intro y0 y1 y2 y3 y4 y5 y6 y7 y8 y9 y10 y11 y12 y13 y14 y15 y16
      unfold storagebarterlaw01_WireTexts.j5
      repeat' first
      | (with_reducible exact ih0 _ _ _ _ _ _ _)
      | (with_reducible exact ih1 _ _ _ _ _ _ _)
      | (with_reducible exact ih2 _ _ _ _ _ _ _)
      | (with_reducible exact ih3 _ _ _ _ _ _ _ _ _ _ _)
      | (with_reducible exact ih4 _ _ _ _ _ _ _ _ _ _ _ _ _ _ _)
      | (with_reducible exact ih5 _ _ _ _ _ _ _ _ _ _ _ _ _ _ _ _ _)
      | (with_reducible exact storagebarterlaw01_sane.mono _)
      | (with_reducible exact storagebarterref01_List.mono _ _ _ _)
      | (with_reducible exact storagebarterref01_PutInt.mono _ _ _)
      | (with_reducible exact storagebarterref01_PutList.mono _ _ _)
      | (with_reducible exact storagebarterref01_PutText.mono _ _ _)
      | (with_reducible exact storagebarterref01_Same.mono _ _ _)
      | (with_reducible exact storagebarterref01_Text.mono _ _ _ _)
      | (with_reducible exact wire_List.mono _ _ _ _)
      | (with_reducible exact wire_Text.mono _ _ _ _)
      | (with_reducible exact LeO.refl _)
      | (with_reducible exact LeO.none _)
      | (with_reducible refine LeO.ite ?_ ?_)
      | (with_reducible refine LeO.bind ?_ (fun _ => ?_))
      | exact ih0 _ _ _ _ _ _ _
      | exact ih1 _ _ _ _ _ _ _
      | exact ih2 _ _ _ _ _ _ _
      | exact ih3 _ _ _ _ _ _ _ _ _ _ _
      | exact ih4 _ _ _ _ _ _ _ _ _ _ _ _ _ _ _
      | exact ih5 _ _ _ _ _ _ _ _ _ _ _ _ _ _ _ _ _
      | exact storagebarterlaw01_sane.mono _
      | exact storagebarterref01_List.mono _ _ _ _
      | exact storagebarterref01_PutInt.mono _ _ _
      | exact storagebarterref01_PutList.mono _ _ _
      | exact storagebarterref01_PutText.mono _ _ _
      | exact storagebarterref01_Same.mono _ _ _
      | exact storagebarterref01_Text.mono _ _ _ _
      | exact wire_List.mono _ _ _ _
      | exact wire_Text.mono _ _ _ _
      | exact LeO.none _
      | refine LeO.ite ?_ ?_
      | refine LeO.bind ?_ (fun _ => ?_)
theorem storagebarterlaw01_WireTexts.mono : ∀ a0 a1 a2 a3 a4 a5 k, LeO (storagebarterlaw01_WireTexts.f k a0 a1 a2 a3 a4 a5) (storagebarterlaw01_WireTexts.f (k + 1) a0 a1 a2 a3 a4 a5) := by
  intro a0 a1 a2 a3 a4 a5 k
  obtain ⟨ih0, ih1, ih2, ih3, ih4, ih5⟩ := storagebarterlaw01_WireTexts.mono_l k
  unfold storagebarterlaw01_WireTexts.f
  repeat' first
      | (with_reducible exact ih0 _ _ _ _ _ _ _)
      | (with_reducible exact ih1 _ _ _ _ _ _ _)
      | (with_reducible exact ih2 _ _ _ _ _ _ _)
      | (with_reducible exact ih3 _ _ _ _ _ _ _ _ _ _ _)
      | (with_reducible exact ih4 _ _ _ _ _ _ _ _ _ _ _ _ _ _ _)
      | (with_reducible exact ih5 _ _ _ _ _ _ _ _ _ _ _ _ _ _ _ _ _)
      | (with_reducible exact storagebarterlaw01_sane.mono _)
      | (with_reducible exact storagebarterref01_List.mono _ _ _ _)
      | (with_reducible exact storagebarterref01_PutInt.mono _ _ _)
      | (with_reducible exact storagebarterref01_PutList.mono _ _ _)
      | (with_reducible exact storagebarterref01_PutText.mono _ _ _)
      | (with_reducible exact storagebarterref01_Same.mono _ _ _)
      | (with_reducible exact storagebarterref01_Text.mono _ _ _ _)
      | (with_reducible exact wire_List.mono _ _ _ _)
      | (with_reducible exact wire_Text.mono _ _ _ _)
      | (with_reducible exact LeO.refl _)
      | (with_reducible exact LeO.none _)
      | (with_reducible refine LeO.ite ?_ ?_)
      | (with_reducible refine LeO.bind ?_ (fun _ => ?_))
      | exact ih0 _ _ _ _ _ _ _
      | exact ih1 _ _ _ _ _ _ _
      | exact ih2 _ _ _ _ _ _ _
      | exact ih3 _ _ _ _ _ _ _ _ _ _ _
      | exact ih4 _ _ _ _ _ _ _ _ _ _ _ _ _ _ _
      | exact ih5 _ _ _ _ _ _ _ _ _ _ _ _ _ _ _ _ _
      | exact storagebarterlaw01_sane.mono _
      | exact storagebarterref01_List.mono _ _ _ _
      | exact storagebarterref01_PutInt.mono _ _ _
      | exact storagebarterref01_PutList.mono _ _ _
      | exact storagebarterref01_PutText.mono _ _ _
      | exact storagebarterref01_Same.mono _ _ _
      | exact storagebarterref01_Text.mono _ _ _ _
      | exact wire_List.mono _ _ _ _
      | exact wire_Text.mono _ _ _ _
      | exact LeO.none _
      | refine LeO.ite ?_ ?_
      | refine LeO.bind ?_ (fun _ => ?_)
def storagebarterlaw01_WireTexts.T8 : Bool × List (List Nat × List Nat) := (true, [([], []), ([], []), ([], []), ([], []), ([2, 3], [2, 3]), ([], []), ([], []), ([6], [6]), ([], []), ([8], [8]), ([7, 9], [7, 9]), ([5, 10], [5, 10]), ([], []), ([], []), ([], []), ([13, 14], [13, 14]), ([], []), ([], []), ([17], [17]), ([], []), ([19], [19]), ([18, 20], [18, 20]), ([16, 21], [16, 21]), ([], []), ([23], [23]), ([], []), ([24, 25], [24, 25]), ([0, 1, 4, 11, 12, 15, 22, 26], [0, 1, 4, 11, 12, 15, 22, 26]), ([27], [27]), ([], [])])
def storagebarterlaw01_WireTexts.B8 : List Nat := [0, 0, 0, 0, 12, 0, 0, 64, 0, 256, 960, 2016, 0, 0, 0, 24576, 0, 0, 131072, 0, 524288, 1966080, 4128768, 0, 8388608, 0, 58720256, 134217727, 268435455, 0]
theorem storagebarterlaw01_WireTexts.tab8 : rtab .any (opsOf Try.f7 8) = storagebarterlaw01_WireTexts.T8 := by kernel_rfl
theorem storagebarterlaw01_WireTexts.bits8 : waitsOk storagebarterlaw01_WireTexts.T8.2 storagebarterlaw01_WireTexts.B8 = true := by kernel_rfl
set_option maxHeartbeats 8000000 in
set_option maxRecDepth 100000 in
theorem storagebarterlaw01_WireTexts.calls (k : Nat) (a0 : ByteArray) (a1 : ByteArray) (A2 : Option Addr) (c2 : Nat) (l2 : List Int) (a3 : Int) (a4 : Int) (a5 : Int) (r : Bool) (w : World) (hr2 : Kd.C (Kd.int .i64) w A2 l2.length l2) (hc2 : l2.length ≤ c2) (h : storagebarterlaw01_WireTexts.f k a0 a1 l2 a3 a4 a5 = some r) :
    Calls Try.prog 7 #[.string a0, .string a1, .slice A2 l2.length c2, .int .i64 a3, .int .i64 a4, .int .u8 a5] w fun e w' => e = .returned (.bool r) ∧ Below w.heap.size w w' := by
  have HR2 := Aside0.mk hr2
  have HC2 := Aside0.mk hc2
  clear hr2 hc2
  have HB := Aside0.mk (Below.refl w.heap.size w)
  have H : ((storagebarterlaw01_sane.f k).bind fun t252 => (if t252 = true then (if (wrap64 ((a0.size : Int) + (a1.size : Int))) > 4000 then (storagebarterlaw01_WireTexts.j0 k a0 a1 l2 a3 a4 a5 true) else (storagebarterlaw01_WireTexts.j0 k a0 a1 l2 a3 a4 a5 (decide ((l2.length : Int) > 400)))) else (some false))) = some r := h
  clear h
  replace H := Option.bind_eq_some_iff.mp H
  obtain ⟨t252, A70, H⟩ := H
  replace H : (if t252 = true then (if (wrap64 ((a0.size : Int) + (a1.size : Int))) > 4000 then (storagebarterlaw01_WireTexts.j0 k a0 a1 l2 a3 a4 a5 true) else (storagebarterlaw01_WireTexts.j0 k a0 a1 l2 a3 a4 a5 (decide ((l2.length : Int) > 400)))) else (some false)) = some r := H
  have A7 := Aside0.mk A70
  clear A70
  by_cases c8 : t252 = true
  · subst c8
    have H1 : (if (wrap64 ((a0.size : Int) + (a1.size : Int))) > 4000 then (storagebarterlaw01_WireTexts.j0 k a0 a1 l2 a3 a4 a5 true) else (storagebarterlaw01_WireTexts.j0 k a0 a1 l2 a3 a4 a5 (decide ((l2.length : Int) > 400)))) = some r := by rw [if_pos rfl] at H; exact H
    clear H
    have H := H1
    clear H1
    have HC9 := Aside0.mk H
    clear H
    go_enter Try.func7, Try.ntmps7
    go_upto_region 3 with (first | ((with_reducible refine gate_callee (f := 13) rfl ?_); refine goesL_ (some 29) rfl rfl Try.func13 (by kernel_rfl) rfl #[] rfl (by (try simp only [List.map_toArray, List.map_cons, List.map_nil]); first | done | rfl | (simp only [List.length_drop, List.length_take]; rfl)) ?_; (with_reducible refine (storagebarterlaw01_sane.calls k  true _ A7.out).mono ?_); rintro e w10 ⟨rfl, hb⟩; refine ⟨_, rfl, ?_⟩; have n0_ := Aside0.mk (below_step (by repeat (first | (with_reducible first | exact HB.out | apply below_alloc | apply pw_below_drewN | apply below_drew1) | exact HB.out)) hb); clear HB; have HB := n0_; clear n0_; (try clear hb); (try clear hb2); (try clear hk); (try clear hi)))
    (try simp only [Act.put, List.setIfInBounds_toArray, List.set_cons_zero, List.set_cons_succ])
    go_cut [41] (fun v41 wc => ∃ (kq : Nat) (x41_8 : Bool), v41 = .bool x41_8 ∧ Aside0 (storagebarterlaw01_WireTexts.j0 kq a0 a1 l2 a3 a4 a5 x41_8 = some r) ∧ Aside0 (kq ≤ k) ∧ Aside0 (Below w.heap.size w wc))
    case first =>
      have H := HC9.out
      clear HC9
      by_cases c11 : (wrap64 ((a0.size : Int) + (a1.size : Int))) > 4000
      · rw [if_pos c11] at H
        have c11b0 : decide (4000 < (wrap64 ((a0.size : Int) + (a1.size : Int)))) = true := decide_eq_true c11
        clear c11
        (first | rw [c11b0] | (simp only [i64_w, i32_w]; rw [c11b0]) | skip)
        have H' := Aside0.mk H
        clear H
        go_wp2
        go_meet
        case rel => exact ⟨_, (true), (by first | rfl | (simp; done) | (simp [*]; done)), H', ⟨by first | omega | exact Nat.le_refl _⟩, ⟨by repeat (first | (with_reducible first | exact HB.out | apply below_alloc | apply pw_below_drewN | apply below_drew1) | exact HB.out)⟩⟩
      · rw [if_neg c11] at H
        have c11b0 : decide (4000 < (wrap64 ((a0.size : Int) + (a1.size : Int)))) = false := decide_eq_false c11
        clear c11
        (first | rw [c11b0] | (simp only [i64_w, i32_w]; rw [c11b0]) | skip)
        have H' := Aside0.mk H
        clear H
        go_wp2
        go_meet
        case rel => exact ⟨_, (decide ((l2.length : Int) > 400)), (by first | rfl | (simp; done) | (simp [*]; done)), H', ⟨by first | omega | exact Nat.le_refl _⟩, ⟨by repeat (first | (with_reducible first | exact HB.out | apply below_alloc | apply pw_below_drewN | apply below_drew1) | exact HB.out)⟩⟩
    case rest =>
      clear HC9
      try clear c1
      try clear c2
      try clear p2
      try clear p6
      try clear c7
      try clear c8
      try clear c11
      try clear c11b0
      obtain ⟨kq, x41_8, rfl, HA, HJ8, HB⟩ := hcut
      cases kq with
      | zero => exact absurd HA.out (by simp [storagebarterlaw01_WireTexts.j0])
      | succ kj8 =>
        have H := HA.out
        clear HA
        simp only [storagebarterlaw01_WireTexts.j0] at H
        by_cases c12 : x41_8 = true
        · subst c12
          have H1 : (some true) = some r := by rw [if_pos rfl] at H; exact H
          clear H
          have H := H1
          clear H1
          obtain rfl := Option.some.inj H
          go_wp2
          go_ret
          exact ⟨by first | rfl | (simp [errW_none, errW_some] <;> rfl) | (simp [*, errW_none, errW_some] <;> rfl), by repeat (first | (with_reducible first | exact HB.out | apply below_alloc | apply pw_below_drewN | apply below_drew1) | exact HB.out)⟩
        · replace c12 := Bool.eq_false_iff.mpr c12
          subst c12
          have H1 : ((wire_PutText.f a0 a1).bind fun t253 => ((storagebarterref01_PutText.f kj8 a0 a1).bind fun t254 => (if t253.toList = t254.toList then ((wire_PutList.f a0 l2).bind fun t255 => ((storagebarterref01_PutList.f kj8 a0 l2).bind fun t256 => (storagebarterlaw01_WireTexts.j1 kj8 a0 a1 l2 a3 a4 a5 (t255.toList != t256.toList)))) else (storagebarterlaw01_WireTexts.j1 kj8 a0 a1 l2 a3 a4 a5 true)))) = some r := by rw [if_neg (show ¬ (false = true) by decide)] at H; exact H
          clear H
          have H := H1
          clear H1
          have HC13 := Aside0.mk H
          clear H
          go_upto_region 5 with (fail)
          go_cut [57] (fun v57 wc => ∃ (kq : Nat) (x57_12 : Bool), v57 = .bool x57_12 ∧ Aside0 (storagebarterlaw01_WireTexts.j1 kq a0 a1 l2 a3 a4 a5 x57_12 = some r) ∧ Aside0 (kq ≤ kj8) ∧ Aside0 (Below w.heap.size w wc))
          case first =>
            have H := HC13.out
            clear HC13
            replace H := Option.bind_eq_some_iff.mp H
            obtain ⟨t253, A140, H⟩ := H
            replace H : ((storagebarterref01_PutText.f kj8 a0 a1).bind fun t254 => (if t253.toList = t254.toList then ((wire_PutList.f a0 l2).bind fun t255 => ((storagebarterref01_PutList.f kj8 a0 l2).bind fun t256 => (storagebarterlaw01_WireTexts.j1 kj8 a0 a1 l2 a3 a4 a5 (t255.toList != t256.toList)))) else (storagebarterlaw01_WireTexts.j1 kj8 a0 a1 l2 a3 a4 a5 true))) = some r := H
            have A14 := Aside0.mk A140
            clear A140
            replace H := Option.bind_eq_some_iff.mp H
            obtain ⟨t254, A150, H⟩ := H
            replace H : (if t253.toList = t254.toList then ((wire_PutList.f a0 l2).bind fun t255 => ((storagebarterref01_PutList.f kj8 a0 l2).bind fun t256 => (storagebarterlaw01_WireTexts.j1 kj8 a0 a1 l2 a3 a4 a5 (t255.toList != t256.toList)))) else (storagebarterlaw01_WireTexts.j1 kj8 a0 a1 l2 a3 a4 a5 true)) = some r := H
            have A15 := Aside0.mk A150
            clear A150
            by_cases c16 : t253.toList = t254.toList
            · rw [if_pos c16] at H
              have c16b0 : (t253.toList == t254.toList) = true := beq_iff_eq.mpr c16
              have c16b1 : (t253.toList != t254.toList) = false := bne_eq_false_iff_eq.mpr c16
              clear c16
              (first | rw [c16b0] | (simp only [i64_w, i32_w]; rw [c16b0]) | skip)
              replace H := Option.bind_eq_some_iff.mp H
              obtain ⟨t255, A170, H⟩ := H
              replace H : ((storagebarterref01_PutList.f kj8 a0 l2).bind fun t256 => (storagebarterlaw01_WireTexts.j1 kj8 a0 a1 l2 a3 a4 a5 (t255.toList != t256.toList))) = some r := H
              have A17 := Aside0.mk A170
              clear A170
              replace H := Option.bind_eq_some_iff.mp H
              obtain ⟨t256, A180, H⟩ := H
              replace H : (storagebarterlaw01_WireTexts.j1 kj8 a0 a1 l2 a3 a4 a5 (t255.toList != t256.toList)) = some r := H
              have A18 := Aside0.mk A180
              clear A180
              have H' := Aside0.mk H
              clear H
              go_wp2_with (first | ((with_reducible refine gate_callee (f := 31) rfl ?_); refine goesL_ (some 44) rfl rfl Try.func31 (by kernel_rfl) rfl #[.string a0, .string a1] rfl (by (try simp only [List.map_toArray, List.map_cons, List.map_nil]); first | done | rfl | (simp only [List.length_drop, List.length_take]; rfl)) ?_; (with_reducible refine (wire_PutText.calls a0 a1 t253 _ A14.out).mono ?_); rintro e w19 ⟨rfl, hb⟩; refine ⟨_, rfl, ?_⟩; have n0_ := Aside0.mk (below_step (by repeat (first | (with_reducible first | exact HB.out | apply below_alloc | apply pw_below_drewN | apply below_drew1) | exact HB.out)) hb); clear HB; have HB := n0_; clear n0_; (try clear hb); (try clear hb2); (try clear hk); (try clear hi)) | ((with_reducible refine gate_callee (f := 32) rfl ?_); refine goesL_ (some 47) rfl rfl Try.func32 (by kernel_rfl) rfl #[.string a0, .string a1] rfl (by (try simp only [List.map_toArray, List.map_cons, List.map_nil]); first | done | rfl | (simp only [List.length_drop, List.length_take]; rfl)) ?_; (with_reducible refine (storagebarterref01_PutText.calls kj8 a0 a1 t254 _ A15.out).mono ?_); rintro e w20 ⟨rfl, hb⟩; refine ⟨_, rfl, ?_⟩; have n0_ := Aside0.mk (below_step (by repeat (first | (with_reducible first | exact HB.out | apply below_alloc | apply pw_below_drewN | apply below_drew1) | exact HB.out)) hb); clear HB; have HB := n0_; clear n0_; (try clear hb); (try clear hb2); (try clear hk); (try clear hi)) | (go_at_call 33; (with_reducible refine (wire_PutList.calls a0 _ _ l2 t255 _ ?side1 ?side2 A17.out).mono ?_); (case side1 => repeat (first | exact (Kd.C_below HR2.out HB.out) | (with_reducible refine Kd.C_alloc ?_ _) | (with_reducible refine Kd.C_drewN ?_ _) | (with_reducible refine Kd.C_drew ?_))); (case side2 => exact HC2.out); rintro e w21 ⟨rfl, hb⟩; have n0_ := Aside0.mk (below_step (by repeat (first | (with_reducible first | exact HB.out | apply below_alloc | apply pw_below_drewN | apply below_drew1) | exact HB.out)) hb); clear HB; have HB := n0_; clear n0_; (try clear hb); (try clear hb2); (try clear hk); (try clear hi)) | (go_at_call 34; (with_reducible refine (storagebarterref01_PutList.calls kj8 a0 _ _ l2 t256 _ ?side1 ?side2 A18.out).mono ?_); (case side1 => repeat (first | exact (Kd.C_below HR2.out HB.out) | (with_reducible refine Kd.C_alloc ?_ _) | (with_reducible refine Kd.C_drewN ?_ _) | (with_reducible refine Kd.C_drew ?_))); (case side2 => exact HC2.out); rintro e w22 ⟨rfl, hb⟩; have n0_ := Aside0.mk (below_step (by repeat (first | (with_reducible first | exact HB.out | apply below_alloc | apply pw_below_drewN | apply below_drew1) | exact HB.out)) hb); clear HB; have HB := n0_; clear n0_; (try clear hb); (try clear hb2); (try clear hk); (try clear hi)))
              go_meet
              case rel => exact ⟨_, ((t255.toList != t256.toList)), (by first | rfl | (simp; done) | (simp [*]; done)), H', ⟨by have := HJ8.out; first | omega | exact Nat.le_refl _⟩, ⟨by repeat (first | (with_reducible first | exact HB.out | apply below_alloc | apply pw_below_drewN | apply below_drew1) | exact HB.out)⟩⟩
            · rw [if_neg c16] at H
              have c16b0 : (t253.toList == t254.toList) = false := beq_eq_false_iff_ne.mpr c16
              have c16b1 : (t253.toList != t254.toList) = true := bne_iff_ne.mpr c16
              (first | rw [c16b0] | (simp only [i64_w, i32_w]; rw [c16b0]) | skip)
              have H' := Aside0.mk H
              clear H
              go_wp2_with (first | ((with_reducible refine gate_callee (f := 31) rfl ?_); refine goesL_ (some 44) rfl rfl Try.func31 (by kernel_rfl) rfl #[.string a0, .string a1] rfl (by (try simp only [List.map_toArray, List.map_cons, List.map_nil]); first | done | rfl | (simp only [List.length_drop, List.length_take]; rfl)) ?_; (with_reducible refine (wire_PutText.calls a0 a1 t253 _ A14.out).mono ?_); rintro e w23 ⟨rfl, hb⟩; refine ⟨_, rfl, ?_⟩; have n0_ := Aside0.mk (below_step (by repeat (first | (with_reducible first | exact HB.out | apply below_alloc | apply pw_below_drewN | apply below_drew1) | exact HB.out)) hb); clear HB; have HB := n0_; clear n0_; (try clear hb); (try clear hb2); (try clear hk); (try clear hi)) | ((with_reducible refine gate_callee (f := 32) rfl ?_); refine goesL_ (some 47) rfl rfl Try.func32 (by kernel_rfl) rfl #[.string a0, .string a1] rfl (by (try simp only [List.map_toArray, List.map_cons, List.map_nil]); first | done | rfl | (simp only [List.length_drop, List.length_take]; rfl)) ?_; (with_reducible refine (storagebarterref01_PutText.calls kj8 a0 a1 t254 _ A15.out).mono ?_); rintro e w24 ⟨rfl, hb⟩; refine ⟨_, rfl, ?_⟩; have n0_ := Aside0.mk (below_step (by repeat (first | (with_reducible first | exact HB.out | apply below_alloc | apply pw_below_drewN | apply below_drew1) | exact HB.out)) hb); clear HB; have HB := n0_; clear n0_; (try clear hb); (try clear hb2); (try clear hk); (try clear hi)))
              go_meet
              case rel => exact ⟨_, (true), (by first | rfl | (simp; done) | (simp [*]; done)), H', ⟨by have := HJ8.out; first | omega | exact Nat.le_refl _⟩, ⟨by repeat (first | (with_reducible first | exact HB.out | apply below_alloc | apply pw_below_drewN | apply below_drew1) | exact HB.out)⟩⟩
          case rest =>
            clear HC13
            try clear c1
            try clear c2
            try clear p2
            try clear c3
            try clear p6
            try clear c7
            try clear c8
            try clear c11
            try clear c11b0
            try clear c12
            try clear c13
            try clear c16
            try clear c16b0
            try clear c16b1
            try clear p2
            try clear p6
            obtain ⟨kq, x57_12, rfl, HA, HJ12, HB⟩ := hcut
            cases kq with
            | zero => exact absurd HA.out (by simp [storagebarterlaw01_WireTexts.j1])
            | succ kj12 =>
              have H := HA.out
              clear HA
              simp only [storagebarterlaw01_WireTexts.j1] at H
              by_cases c25 : x57_12 = true
              · subst c25
                have H1 : (some false) = some r := by rw [if_pos rfl] at H; exact H
                clear H
                have H := H1
                clear H1
                obtain rfl := Option.some.inj H
                go_wp2
                go_ret
                exact ⟨by first | rfl | (simp [errW_none, errW_some] <;> rfl) | (simp [*, errW_none, errW_some] <;> rfl), by repeat (first | (with_reducible first | exact HB.out | apply below_alloc | apply pw_below_drewN | apply below_drew1) | exact HB.out)⟩
              · replace c25 := Bool.eq_false_iff.mpr c25
                subst c25
                have H1 : ((storagebarterref01_PutText.f kj12 (⟨#[]⟩ : ByteArray) a1).bind fun t257 => ((storagebarterref01_PutList.f kj12 (⟨#[]⟩ : ByteArray) l2).bind fun t258 => (if t257.size + a0.size ≤ 9223372036854775807 then (if (t257.size : Int) = 0 then (none) else (if 0 ≤ (Int.tmod (wrap64 (a5)) (t257.size : Int)) then (if (Int.tmod (wrap64 (a5)) (t257.size : Int)) ≤ (t257.size : Int) then (if t258.size + a0.size ≤ 9223372036854775807 then (if (t258.size : Int) = 0 then (none) else (if 0 ≤ (Int.tmod (wrap64 (a5)) (t258.size : Int)) then (if (Int.tmod (wrap64 (a5)) (t258.size : Int)) ≤ (t258.size : Int) then ((storagebarterref01_PutInt.f kj12 (⟨#[]⟩ : ByteArray) a4).bind fun t259 => (if t259.size + a1.size ≤ 9223372036854775807 then ((some (([a0, t257, t257 ++ a0, t257.extract 0 ((Int.tmod (wrap64 (a5)) (t257.size : Int)) : Int).toNat, t258, t258 ++ a0, t258.extract 0 ((Int.tmod (wrap64 (a5)) (t258.size : Int)) : Int).toNat, t259 ++ a1] : List ByteArray) : List ByteArray)).bind fun y260 => (storagebarterlaw01_WireTexts.l0 kj12 a1 l2 a3 a4 y260 (y260.length : Int) 0)) else (none))) else (none)) else (none))) else (none)) else (none)) else (none))) else (none)))) = some r := by rw [if_neg (show ¬ (false = true) by decide)] at H; exact H
                clear H
                have H := H1
                clear H1
                replace H := Option.bind_eq_some_iff.mp H
                obtain ⟨t257, A260, H⟩ := H
                replace H : ((storagebarterref01_PutList.f kj12 (⟨#[]⟩ : ByteArray) l2).bind fun t258 => (if t257.size + a0.size ≤ 9223372036854775807 then (if (t257.size : Int) = 0 then (none) else (if 0 ≤ (Int.tmod (wrap64 (a5)) (t257.size : Int)) then (if (Int.tmod (wrap64 (a5)) (t257.size : Int)) ≤ (t257.size : Int) then (if t258.size + a0.size ≤ 9223372036854775807 then (if (t258.size : Int) = 0 then (none) else (if 0 ≤ (Int.tmod (wrap64 (a5)) (t258.size : Int)) then (if (Int.tmod (wrap64 (a5)) (t258.size : Int)) ≤ (t258.size : Int) then ((storagebarterref01_PutInt.f kj12 (⟨#[]⟩ : ByteArray) a4).bind fun t259 => (if t259.size + a1.size ≤ 9223372036854775807 then ((some (([a0, t257, t257 ++ a0, t257.extract 0 ((Int.tmod (wrap64 (a5)) (t257.size : Int)) : Int).toNat, t258, t258 ++ a0, t258.extract 0 ((Int.tmod (wrap64 (a5)) (t258.size : Int)) : Int).toNat, t259 ++ a1] : List ByteArray) : List ByteArray)).bind fun y260 => (storagebarterlaw01_WireTexts.l0 kj12 a1 l2 a3 a4 y260 (y260.length : Int) 0)) else (none))) else (none)) else (none))) else (none)) else (none)) else (none))) else (none))) = some r := H
                have A26 := Aside0.mk A260
                clear A260
                replace H := Option.bind_eq_some_iff.mp H
                obtain ⟨t258, A270, H⟩ := H
                replace H : (if t257.size + a0.size ≤ 9223372036854775807 then (if (t257.size : Int) = 0 then (none) else (if 0 ≤ (Int.tmod (wrap64 (a5)) (t257.size : Int)) then (if (Int.tmod (wrap64 (a5)) (t257.size : Int)) ≤ (t257.size : Int) then (if t258.size + a0.size ≤ 9223372036854775807 then (if (t258.size : Int) = 0 then (none) else (if 0 ≤ (Int.tmod (wrap64 (a5)) (t258.size : Int)) then (if (Int.tmod (wrap64 (a5)) (t258.size : Int)) ≤ (t258.size : Int) then ((storagebarterref01_PutInt.f kj12 (⟨#[]⟩ : ByteArray) a4).bind fun t259 => (if t259.size + a1.size ≤ 9223372036854775807 then ((some (([a0, t257, t257 ++ a0, t257.extract 0 ((Int.tmod (wrap64 (a5)) (t257.size : Int)) : Int).toNat, t258, t258 ++ a0, t258.extract 0 ((Int.tmod (wrap64 (a5)) (t258.size : Int)) : Int).toNat, t259 ++ a1] : List ByteArray) : List ByteArray)).bind fun y260 => (storagebarterlaw01_WireTexts.l0 kj12 a1 l2 a3 a4 y260 (y260.length : Int) 0)) else (none))) else (none)) else (none))) else (none)) else (none)) else (none))) else (none)) = some r := H
                have A27 := Aside0.mk A270
                clear A270
                by_cases c28 : t257.size + a0.size ≤ 9223372036854775807
                · rw [if_pos c28] at H
                  have c28b0 := eq_true c28
                  have c28b1 : decide (t257.size + a0.size ≤ 9223372036854775807) = true := decide_eq_true c28
                  try have c28b2 : (9223372036854775807 < t257.size + a0.size) = False := eq_false (Nat.not_lt.2 c28)
                  by_cases c29 : (t257.size : Int) = 0
                  · rw [if_pos c29] at H
                    exact absurd H (by simp)
                  · rw [if_neg c29] at H
                    have c29b0 : ((t257.size : Int) == 0) = false := beq_eq_false_iff_ne.mpr c29
                    have c29b1 : ((t257.size : Int) != 0) = true := bne_iff_ne.mpr c29
                    have c29e_ : (t257 = ByteArray.empty) = False := eq_false (fun e_ => c29 (by rw [e_]; rfl))
                    obtain ⟨ji30, hji30⟩ : ∃ j_ : Int, (Int.tmod (wrap64 (a5)) (t257.size : Int)) = j_ := ⟨_, rfl⟩
                    replace H : (if 0 ≤ (ji30) then (if (ji30) ≤ (t257.size : Int) then (if t258.size + a0.size ≤ 9223372036854775807 then (if (t258.size : Int) = 0 then (none) else (if 0 ≤ (Int.tmod (wrap64 (a5)) (t258.size : Int)) then (if (Int.tmod (wrap64 (a5)) (t258.size : Int)) ≤ (t258.size : Int) then ((storagebarterref01_PutInt.f kj12 (⟨#[]⟩ : ByteArray) a4).bind fun t259 => (if t259.size + a1.size ≤ 9223372036854775807 then ((some (([a0, t257, t257 ++ a0, t257.extract 0 ((ji30) : Int).toNat, t258, t258 ++ a0, t258.extract 0 ((Int.tmod (wrap64 (a5)) (t258.size : Int)) : Int).toNat, t259 ++ a1] : List ByteArray) : List ByteArray)).bind fun y260 => (storagebarterlaw01_WireTexts.l0 kj12 a1 l2 a3 a4 y260 (y260.length : Int) 0)) else (none))) else (none)) else (none))) else (none)) else (none)) else (none)) = some r := by first | (rw [hji30] at H; exact H) | (simp only [hji30] at H ⊢; exact H)
                    (try rw [hji30] at A26)
                    (try rw [hji30] at A27)
                    by_cases c31 : 0 ≤ (ji30)
                    · rw [if_pos c31] at H
                      have c31b0 := eq_true c31
                      have c31b1 : decide (0 ≤ (ji30)) = true := decide_eq_true c31
                      clear c31
                      by_cases c32 : (ji30) ≤ (t257.size : Int)
                      · rw [if_pos c32] at H
                        have c32b0 := eq_true c32
                        have c32b1 : decide ((ji30) ≤ (t257.size : Int)) = true := decide_eq_true c32
                        clear c32
                        by_cases c33 : t258.size + a0.size ≤ 9223372036854775807
                        · rw [if_pos c33] at H
                          have c33b0 := eq_true c33
                          have c33b1 : decide (t258.size + a0.size ≤ 9223372036854775807) = true := decide_eq_true c33
                          try have c33b2 : (9223372036854775807 < t258.size + a0.size) = False := eq_false (Nat.not_lt.2 c33)
                          by_cases c34 : (t258.size : Int) = 0
                          · rw [if_pos c34] at H
                            exact absurd H (by simp)
                          · rw [if_neg c34] at H
                            have c34b0 : ((t258.size : Int) == 0) = false := beq_eq_false_iff_ne.mpr c34
                            have c34b1 : ((t258.size : Int) != 0) = true := bne_iff_ne.mpr c34
                            have c34e_ : (t258 = ByteArray.empty) = False := eq_false (fun e_ => c34 (by rw [e_]; rfl))
                            obtain ⟨ji35, hji35⟩ : ∃ j_ : Int, (Int.tmod (wrap64 (a5)) (t258.size : Int)) = j_ := ⟨_, rfl⟩
                            replace H : (if 0 ≤ (ji35) then (if (ji35) ≤ (t258.size : Int) then ((storagebarterref01_PutInt.f kj12 (⟨#[]⟩ : ByteArray) a4).bind fun t259 => (if t259.size + a1.size ≤ 9223372036854775807 then ((some (([a0, t257, t257 ++ a0, t257.extract 0 ((ji30) : Int).toNat, t258, t258 ++ a0, t258.extract 0 ((ji35) : Int).toNat, t259 ++ a1] : List ByteArray) : List ByteArray)).bind fun y260 => (storagebarterlaw01_WireTexts.l0 kj12 a1 l2 a3 a4 y260 (y260.length : Int) 0)) else (none))) else (none)) else (none)) = some r := by first | (rw [hji35] at H; exact H) | (simp only [hji35] at H ⊢; exact H)
                            (try rw [hji35] at A26)
                            (try rw [hji35] at A27)
                            by_cases c36 : 0 ≤ (ji35)
                            · rw [if_pos c36] at H
                              have c36b0 := eq_true c36
                              have c36b1 : decide (0 ≤ (ji35)) = true := decide_eq_true c36
                              clear c36
                              by_cases c37 : (ji35) ≤ (t258.size : Int)
                              · rw [if_pos c37] at H
                                have c37b0 := eq_true c37
                                have c37b1 : decide ((ji35) ≤ (t258.size : Int)) = true := decide_eq_true c37
                                clear c37
                                replace H := Option.bind_eq_some_iff.mp H
                                obtain ⟨t259, A380, H⟩ := H
                                replace H : (if t259.size + a1.size ≤ 9223372036854775807 then ((some (([a0, t257, t257 ++ a0, t257.extract 0 ((ji30) : Int).toNat, t258, t258 ++ a0, t258.extract 0 ((ji35) : Int).toNat, t259 ++ a1] : List ByteArray) : List ByteArray)).bind fun y260 => (storagebarterlaw01_WireTexts.l0 kj12 a1 l2 a3 a4 y260 (y260.length : Int) 0)) else (none)) = some r := H
                                have A38 := Aside0.mk A380
                                clear A380
                                by_cases c39 : t259.size + a1.size ≤ 9223372036854775807
                                · rw [if_pos c39] at H
                                  have c39b0 := eq_true c39
                                  have c39b1 : decide (t259.size + a1.size ≤ 9223372036854775807) = true := decide_eq_true c39
                                  try have c39b2 : (9223372036854775807 < t259.size + a1.size) = False := eq_false (Nat.not_lt.2 c39)
                                  obtain ⟨y260, hy260⟩ : ∃ y_ : List ByteArray, y_ = (([a0, t257, t257 ++ a0, t257.extract 0 ((ji30) : Int).toNat, t258, t258 ++ a0, t258.extract 0 ((ji35) : Int).toNat, t259 ++ a1] : List ByteArray)) := ⟨_, rfl⟩
                                  replace H : (storagebarterlaw01_WireTexts.l0 kj12 a1 l2 a3 a4 y260 (y260.length : Int) 0) = some r := by first | (rw [hy260]; with_reducible exact H) | (have H2_ := (Option.bind_some _ _).symm.trans H; rw [hy260]; with_reducible exact H2_) | (have H2_ := (Option.bind_some _ _).symm.trans H; with_reducible exact H2_) | with_reducible exact H | (rw [hy260]; exact H) | exact H
                                  have Ny260 := Aside0.mk hy260
                                  clear hy260
                                  have H' := Aside0.mk H
                                  clear H
                                  try go_wp2_with (first | ((with_reducible refine gate_callee (f := 32) rfl ?_); refine goesL_ (some 59) rfl rfl Try.func32 (by kernel_rfl) rfl #[.string (⟨#[]⟩ : ByteArray), .string a1] rfl (by (try simp only [List.map_toArray, List.map_cons, List.map_nil]); first | done | rfl | (simp only [List.length_drop, List.length_take]; rfl)) ?_; (with_reducible refine (storagebarterref01_PutText.calls kj12 (⟨#[]⟩ : ByteArray) a1 t257 _ A26.out).mono ?_); rintro e w40 ⟨rfl, hb⟩; refine ⟨_, rfl, ?_⟩; have n0_ := Aside0.mk (below_step (by repeat (first | (with_reducible first | exact HB.out | apply below_alloc | apply pw_below_drewN | apply below_drew1) | exact HB.out)) hb); clear HB; have HB := n0_; clear n0_; (try clear hb); (try clear hb2); (try clear hk); (try clear hi)) | ((with_reducible refine gate_callee (f := 34) rfl ?_); refine goesL_ (some 61) rfl rfl Try.func34 (by kernel_rfl) rfl #[.string (⟨#[]⟩ : ByteArray), .slice A2 l2.length c2] rfl (by (try simp only [List.map_toArray, List.map_cons, List.map_nil]); first | done | rfl | (simp only [List.length_drop, List.length_take]; rfl)) ?_; (with_reducible refine (storagebarterref01_PutList.calls kj12 (⟨#[]⟩ : ByteArray) _ _ l2 t258 _ ?side1 ?side2 A27.out).mono ?_); (case side1 => repeat (first | exact (Kd.C_below HR2.out HB.out) | (with_reducible refine Kd.C_alloc ?_ _) | (with_reducible refine Kd.C_drewN ?_ _) | (with_reducible refine Kd.C_drew ?_))); (case side2 => exact HC2.out); rintro e w41 ⟨rfl, hb⟩; refine ⟨_, rfl, ?_⟩; have n0_ := Aside0.mk (below_step (by repeat (first | (with_reducible first | exact HB.out | apply below_alloc | apply pw_below_drewN | apply below_drew1) | exact HB.out)) hb); clear HB; have HB := n0_; clear n0_; (try clear hb); (try clear hb2); (try clear hk); (try clear hi)))
                                  have n0_ := Aside0.mk (below_drew1 HB.out)
                                  clear HB
                                  have HB := n0_
                                  clear n0_
                                  refine start_ (n := 30) (S := fun w' => True) (ds := []) #[false, false, false, false, false, false, false, false, false, false, false, false, false, false, false, false, false, false, false, false, false, false, false, false, false, false, false, false, false, false] (by kernel_rfl) rfl rfl trivial (fun hHeld => ?_); refine with_tabW storagebarterlaw01_WireTexts.tab8 storagebarterlaw01_WireTexts.bits8 (fun HT_ HW_ => ?_)
                                  generalize w41.drew = w42 at HB hHeld ⊢
                                  refine pure_ (i := 0) (N := some 62) (v := ?_) (a' := ?_) #[true, false, false, false, false, false, false, false, false, false, false, false, false, false, false, false, false, false, false, false, false, false, false, false, false, false, false, false, false, false] rfl rfl (any_of HT_.out (by kernel_rfl)) (fun _ _ _ h => h) (Or.inl ⟨by rfl, ?_⟩) ?_ ?_
                                  rotate_left
                                  · intro w'
                                    go_simp
                                    with_reducible rfl
                                  rotate_left
                                  · simp only [Act.put, List.setIfInBounds_toArray, List.set_cons_zero, List.set_cons_succ, i64_w, i32_w]
                                    rfl
                                  refine pure_ (i := 1) (N := some 63) (v := ?_) (a' := ?_) #[true, true, false, false, false, false, false, false, false, false, false, false, false, false, false, false, false, false, false, false, false, false, false, false, false, false, false, false, false, false] rfl rfl (any_of HT_.out (by kernel_rfl)) (fun _ _ _ h => h) (Or.inl ⟨by rfl, ?_⟩) ?_ ?_
                                  rotate_left
                                  · intro w'
                                    go_simp
                                    with_reducible rfl
                                  rotate_left
                                  · simp only [Act.put, List.setIfInBounds_toArray, List.set_cons_zero, List.set_cons_succ, i64_w, i32_w]
                                    rfl
                                  refine pure_ (i := 2) (N := some 64) (v := ?_) (a' := ?_) #[true, true, true, false, false, false, false, false, false, false, false, false, false, false, false, false, false, false, false, false, false, false, false, false, false, false, false, false, false, false] rfl rfl (any_of HT_.out (by kernel_rfl)) (fun _ _ _ h => h) (Or.inl ⟨by rfl, ?_⟩) ?_ ?_
                                  rotate_left
                                  · intro w'
                                    go_simp
                                    with_reducible rfl
                                  rotate_left
                                  · simp only [Act.put, List.setIfInBounds_toArray, List.set_cons_zero, List.set_cons_succ, i64_w, i32_w]
                                    rfl
                                  refine pure_ (i := 3) (N := some 65) (v := ?_) (a' := ?_) #[true, true, true, true, false, false, false, false, false, false, false, false, false, false, false, false, false, false, false, false, false, false, false, false, false, false, false, false, false, false] rfl rfl (any_of HT_.out (by kernel_rfl)) (fun _ _ _ h => h) (Or.inl ⟨by rfl, ?_⟩) ?_ ?_
                                  rotate_left
                                  · intro w'
                                    go_simp
                                    with_reducible rfl
                                  rotate_left
                                  · simp only [Act.put, List.setIfInBounds_toArray, List.set_cons_zero, List.set_cons_succ, i64_w, i32_w]
                                    rfl
                                  refine pure_ (i := 4) (N := some 66) (v := ?_) (a' := ?_) #[true, true, true, true, true, false, false, false, false, false, false, false, false, false, false, false, false, false, false, false, false, false, false, false, false, false, false, false, false, false] rfl rfl (any_of HT_.out (by kernel_rfl)) (fun _ _ _ h => h) (Or.inl ⟨by rfl, ?_⟩) ?_ ?_
                                  rotate_left
                                  · intro w'
                                    go_simp
                                    with_reducible rfl
                                  rotate_left
                                  · simp only [Act.put, List.setIfInBounds_toArray, List.set_cons_zero, List.set_cons_succ, i64_w, i32_w]
                                    rfl
                                  refine pure_ (i := 5) (N := some 67) (v := ?_) (a' := ?_) #[true, true, true, true, true, true, false, false, false, false, false, false, false, false, false, false, false, false, false, false, false, false, false, false, false, false, false, false, false, false] rfl rfl (any_of HT_.out (by kernel_rfl)) (fun _ _ _ h => h) (Or.inl ⟨by rfl, ?_⟩) ?_ ?_
                                  rotate_left
                                  · intro w'
                                    go_simp
                                    with_reducible rfl
                                  rotate_left
                                  · simp only [Act.put, List.setIfInBounds_toArray, List.set_cons_zero, List.set_cons_succ, i64_w, i32_w]
                                    rfl
                                  refine pure_ (i := 6) (N := some 68) (v := ?_) (a' := ?_) #[true, true, true, true, true, true, true, false, false, false, false, false, false, false, false, false, false, false, false, false, false, false, false, false, false, false, false, false, false, false] rfl rfl (any_of HT_.out (by kernel_rfl)) (fun _ _ _ h => h) (Or.inl ⟨by rfl, ?_⟩) ?_ ?_
                                  rotate_left
                                  · intro w'
                                    go_simp
                                    with_reducible rfl
                                  rotate_left
                                  · simp only [Act.put, List.setIfInBounds_toArray, List.set_cons_zero, List.set_cons_succ, i64_w, i32_w]
                                    rfl
                                  refine pure_ (i := 7) (N := some 69) (v := ?_) (a' := ?_) #[true, true, true, true, true, true, true, true, false, false, false, false, false, false, false, false, false, false, false, false, false, false, false, false, false, false, false, false, false, false] rfl rfl (any_of HT_.out (by kernel_rfl)) (fun _ _ _ h => h) (Or.inl ⟨by rfl, ?_⟩) ?_ ?_
                                  rotate_left
                                  · intro w'
                                    go_simp
                                    with_reducible rfl
                                  rotate_left
                                  · simp only [Act.put, List.setIfInBounds_toArray, List.set_cons_zero, List.set_cons_succ, i64_w, i32_w]
                                    rfl
                                  refine pure_ (i := 8) (N := some 70) (v := ?_) (a' := ?_) #[true, true, true, true, true, true, true, true, true, false, false, false, false, false, false, false, false, false, false, false, false, false, false, false, false, false, false, false, false, false] rfl rfl (any_of HT_.out (by kernel_rfl)) (fun _ _ _ h => h) (Or.inl ⟨by rfl, ?_⟩) ?_ ?_
                                  rotate_left
                                  · intro w'
                                    go_simp
                                    with_reducible rfl
                                  rotate_left
                                  · simp only [Act.put, List.setIfInBounds_toArray, List.set_cons_zero, List.set_cons_succ, i64_w, i32_w]
                                    rfl
                                  refine pure_ (i := 9) (N := some 71) (v := ?_) (a' := ?_) #[true, true, true, true, true, true, true, true, true, true, false, false, false, false, false, false, false, false, false, false, false, false, false, false, false, false, false, false, false, false] rfl rfl (any_of HT_.out (by kernel_rfl)) (fun _ _ _ h => h) (Or.inl ⟨by rfl, ?_⟩) ?_ ?_
                                  rotate_left
                                  · intro w'
                                    go_simp
                                    with_reducible rfl
                                  rotate_left
                                  · simp only [Act.put, List.setIfInBounds_toArray, List.set_cons_zero, List.set_cons_succ, i64_w, i32_w]
                                    rfl
                                  refine pure_ (i := 10) (N := some 72) (v := ?_) (a' := ?_) #[true, true, true, true, true, true, true, true, true, true, true, false, false, false, false, false, false, false, false, false, false, false, false, false, false, false, false, false, false, false] rfl rfl (any_of HT_.out (by kernel_rfl)) (fun _ _ _ h => h) (Or.inl ⟨by rfl, ?_⟩) ?_ ?_
                                  rotate_left
                                  · intro w'
                                    go_simp
                                    with_reducible rfl
                                  rotate_left
                                  · simp only [Act.put, List.setIfInBounds_toArray, List.set_cons_zero, List.set_cons_succ, i64_w, i32_w]
                                    rfl
                                  refine pure_ (i := 11) (N := some 73) (v := ?_) (a' := ?_) #[true, true, true, true, true, true, true, true, true, true, true, true, false, false, false, false, false, false, false, false, false, false, false, false, false, false, false, false, false, false] rfl rfl (any_of HT_.out (by kernel_rfl)) (fun _ _ _ h => h) (Or.inl ⟨by rfl, ?_⟩) ?_ ?_
                                  rotate_left
                                  · intro w'
                                    go_simp
                                    with_reducible rfl
                                  rotate_left
                                  · simp only [Act.put, List.setIfInBounds_toArray, List.set_cons_zero, List.set_cons_succ, i64_w, i32_w]
                                    rfl
                                  refine pure_ (i := 12) (N := some 74) (v := ?_) (a' := ?_) #[true, true, true, true, true, true, true, true, true, true, true, true, true, false, false, false, false, false, false, false, false, false, false, false, false, false, false, false, false, false] rfl rfl (any_of HT_.out (by kernel_rfl)) (fun _ _ _ h => h) (Or.inl ⟨by rfl, ?_⟩) ?_ ?_
                                  rotate_left
                                  · intro w'
                                    go_simp
                                    with_reducible rfl
                                  rotate_left
                                  · simp only [Act.put, List.setIfInBounds_toArray, List.set_cons_zero, List.set_cons_succ, i64_w, i32_w]
                                    rfl
                                  refine pure_ (i := 13) (N := some 75) (v := ?_) (a' := ?_) #[true, true, true, true, true, true, true, true, true, true, true, true, true, true, false, false, false, false, false, false, false, false, false, false, false, false, false, false, false, false] rfl rfl (any_of HT_.out (by kernel_rfl)) (fun _ _ _ h => h) (Or.inl ⟨by rfl, ?_⟩) ?_ ?_
                                  rotate_left
                                  · intro w'
                                    go_simp
                                    with_reducible rfl
                                  rotate_left
                                  · simp only [Act.put, List.setIfInBounds_toArray, List.set_cons_zero, List.set_cons_succ, i64_w, i32_w]
                                    rfl
                                  refine pure_ (i := 14) (N := some 76) (v := ?_) (a' := ?_) #[true, true, true, true, true, true, true, true, true, true, true, true, true, true, true, false, false, false, false, false, false, false, false, false, false, false, false, false, false, false] rfl rfl (any_of HT_.out (by kernel_rfl)) (fun _ _ _ h => h) (Or.inl ⟨by rfl, ?_⟩) ?_ ?_
                                  rotate_left
                                  · intro w'
                                    go_simp
                                    with_reducible rfl
                                  rotate_left
                                  · simp only [Act.put, List.setIfInBounds_toArray, List.set_cons_zero, List.set_cons_succ, i64_w, i32_w]
                                    rfl
                                  refine pure_ (i := 15) (N := some 77) (v := ?_) (a' := ?_) #[true, true, true, true, true, true, true, true, true, true, true, true, true, true, true, true, false, false, false, false, false, false, false, false, false, false, false, false, false, false] rfl rfl (any_of HT_.out (by kernel_rfl)) (fun _ _ _ h => h) (Or.inl ⟨by rfl, ?_⟩) ?_ ?_
                                  rotate_left
                                  · intro w'
                                    go_simp
                                    with_reducible rfl
                                  rotate_left
                                  · simp only [Act.put, List.setIfInBounds_toArray, List.set_cons_zero, List.set_cons_succ, i64_w, i32_w]
                                    rfl
                                  refine pure_ (i := 16) (N := some 78) (v := ?_) (a' := ?_) #[true, true, true, true, true, true, true, true, true, true, true, true, true, true, true, true, true, false, false, false, false, false, false, false, false, false, false, false, false, false] rfl rfl (any_of HT_.out (by kernel_rfl)) (fun _ _ _ h => h) (Or.inl ⟨by rfl, ?_⟩) ?_ ?_
                                  rotate_left
                                  · intro w'
                                    go_simp
                                    with_reducible rfl
                                  rotate_left
                                  · simp only [Act.put, List.setIfInBounds_toArray, List.set_cons_zero, List.set_cons_succ, i64_w, i32_w]
                                    rfl
                                  refine pure_ (i := 17) (N := some 79) (v := ?_) (a' := ?_) #[true, true, true, true, true, true, true, true, true, true, true, true, true, true, true, true, true, true, false, false, false, false, false, false, false, false, false, false, false, false] rfl rfl (any_of HT_.out (by kernel_rfl)) (fun _ _ _ h => h) (Or.inl ⟨by rfl, ?_⟩) ?_ ?_
                                  rotate_left
                                  · intro w'
                                    go_simp
                                    with_reducible rfl
                                  rotate_left
                                  · simp only [Act.put, List.setIfInBounds_toArray, List.set_cons_zero, List.set_cons_succ, i64_w, i32_w]
                                    rfl
                                  refine pure_ (i := 18) (N := some 80) (v := ?_) (a' := ?_) #[true, true, true, true, true, true, true, true, true, true, true, true, true, true, true, true, true, true, true, false, false, false, false, false, false, false, false, false, false, false] rfl rfl (any_of HT_.out (by kernel_rfl)) (fun _ _ _ h => h) (Or.inl ⟨by rfl, ?_⟩) ?_ ?_
                                  rotate_left
                                  · intro w'
                                    go_simp
                                    with_reducible rfl
                                  rotate_left
                                  · simp only [Act.put, List.setIfInBounds_toArray, List.set_cons_zero, List.set_cons_succ, i64_w, i32_w]
                                    rfl
                                  refine pure_ (i := 19) (N := some 81) (v := ?_) (a' := ?_) #[true, true, true, true, true, true, true, true, true, true, true, true, true, true, true, true, true, true, true, true, false, false, false, false, false, false, false, false, false, false] rfl rfl (any_of HT_.out (by kernel_rfl)) (fun _ _ _ h => h) (Or.inl ⟨by rfl, ?_⟩) ?_ ?_
                                  rotate_left
                                  · intro w'
                                    go_simp
                                    with_reducible rfl
                                  rotate_left
                                  · simp only [Act.put, List.setIfInBounds_toArray, List.set_cons_zero, List.set_cons_succ, i64_w, i32_w]
                                    rfl
                                  refine pure_ (i := 20) (N := some 82) (v := ?_) (a' := ?_) #[true, true, true, true, true, true, true, true, true, true, true, true, true, true, true, true, true, true, true, true, true, false, false, false, false, false, false, false, false, false] rfl rfl (any_of HT_.out (by kernel_rfl)) (fun _ _ _ h => h) (Or.inl ⟨by rfl, ?_⟩) ?_ ?_
                                  rotate_left
                                  · intro w'
                                    go_simp
                                    with_reducible rfl
                                  rotate_left
                                  · simp only [Act.put, List.setIfInBounds_toArray, List.set_cons_zero, List.set_cons_succ, i64_w, i32_w]
                                    rfl
                                  refine pure_ (i := 21) (N := some 83) (v := ?_) (a' := ?_) #[true, true, true, true, true, true, true, true, true, true, true, true, true, true, true, true, true, true, true, true, true, true, false, false, false, false, false, false, false, false] rfl rfl (any_of HT_.out (by kernel_rfl)) (fun _ _ _ h => h) (Or.inl ⟨by rfl, ?_⟩) ?_ ?_
                                  rotate_left
                                  · intro w'
                                    go_simp
                                    with_reducible rfl
                                  rotate_left
                                  · simp only [Act.put, List.setIfInBounds_toArray, List.set_cons_zero, List.set_cons_succ, i64_w, i32_w]
                                    rfl
                                  refine pure_ (i := 22) (N := some 84) (v := ?_) (a' := ?_) #[true, true, true, true, true, true, true, true, true, true, true, true, true, true, true, true, true, true, true, true, true, true, true, false, false, false, false, false, false, false] rfl rfl (any_of HT_.out (by kernel_rfl)) (fun _ _ _ h => h) (Or.inl ⟨by rfl, ?_⟩) ?_ ?_
                                  rotate_left
                                  · intro w'
                                    go_simp
                                    with_reducible rfl
                                  rotate_left
                                  · simp only [Act.put, List.setIfInBounds_toArray, List.set_cons_zero, List.set_cons_succ, i64_w, i32_w]
                                    rfl
                                  refine pure_ (i := 23) (N := some 85) (v := ?_) (a' := ?_) #[true, true, true, true, true, true, true, true, true, true, true, true, true, true, true, true, true, true, true, true, true, true, true, true, false, false, false, false, false, false] rfl rfl (any_of HT_.out (by kernel_rfl)) (fun _ _ _ h => h) (Or.inl ⟨by rfl, ?_⟩) ?_ ?_
                                  rotate_left
                                  · intro w'
                                    go_simp
                                    with_reducible rfl
                                  rotate_left
                                  · simp only [Act.put, List.setIfInBounds_toArray, List.set_cons_zero, List.set_cons_succ, i64_w, i32_w]
                                    rfl
                                  refine pure_ (i := 25) (N := some 87) (v := ?_) (a' := ?_) #[true, true, true, true, true, true, true, true, true, true, true, true, true, true, true, true, true, true, true, true, true, true, true, true, false, true, false, false, false, false] rfl rfl (any_of HT_.out (by kernel_rfl)) (fun _ _ _ h => h) (Or.inl ⟨by rfl, ?_⟩) ?_ ?_
                                  rotate_left
                                  · intro w'
                                    go_simp
                                    with_reducible rfl
                                  rotate_left
                                  · simp only [Act.put, List.setIfInBounds_toArray, List.set_cons_zero, List.set_cons_succ, i64_w, i32_w]
                                    rfl
                                  refine pure_ (i := 29) (N := some 91) (v := ?_) (a' := ?_) #[true, true, true, true, true, true, true, true, true, true, true, true, true, true, true, true, true, true, true, true, true, true, true, true, false, true, false, false, false, true] rfl rfl (any_of HT_.out (by kernel_rfl)) (fun _ _ _ h => h) (Or.inl ⟨by rfl, ?_⟩) ?_ ?_
                                  rotate_left
                                  · intro w'
                                    go_simp
                                    with_reducible rfl
                                  rotate_left
                                  · simp only [Act.put, List.setIfInBounds_toArray, List.set_cons_zero, List.set_cons_succ, i64_w, i32_w]
                                    rfl
                                  refine one_ (i := 24) (N := some 86) #[true, true, true, true, true, true, true, true, true, true, true, true, true, true, true, true, true, true, true, true, true, true, true, true, true, true, false, false, false, true] rfl rfl (one_of HT_.out (by kernel_rfl)) (by decide) (fun K hK => ?_)
                                  refine goes_ Try.func15 (by kernel_rfl) rfl #[.string (⟨#[]⟩ : ByteArray), .int .i64 a4] (by rfl) rfl rfl (by (try simp only [List.map_toArray, List.map_cons, List.map_nil]); first | done | rfl | (simp only [List.length_drop, List.length_take]; rfl)) ?_
                                  with_reducible refine (storagebarterref01_PutInt.calls kj12 (⟨#[]⟩ : ByteArray) a4 t259 _ A38.out).mono ?_
                                  rintro e w43 ⟨rfl, hb⟩
                                  refine ⟨_, rfl, ?_⟩
                                  have n0_ := Aside0.mk (below_step (by repeat (first | (with_reducible first | exact HB.out | apply below_alloc | apply pw_below_drewN | apply below_drew1) | exact HB.out)) hb)
                                  clear HB
                                  have HB := n0_
                                  clear n0_
                                  (try clear hb)
                                  (try clear hb2)
                                  (try clear hk)
                                  (try clear hi)
                                  refine hK.out _ _ trivial (fun hHeld => ?_)
                                  clear hK K
                                  refine norm_ (a' := ?_) ?_ ?_
                                  rotate_left
                                  · show Act.put _ (some 86) _ = _
                                    simp only [Act.put, List.setIfInBounds_toArray, List.set_cons_zero, List.set_cons_succ, i64_w, i32_w]
                                    rfl
                                  refine pure_ (i := 26) (N := some 88) (v := ?_) (a' := ?_) #[true, true, true, true, true, true, true, true, true, true, true, true, true, true, true, true, true, true, true, true, true, true, true, true, true, true, true, false, false, true] rfl rfl (any_of HT_.out (by kernel_rfl)) (fun _ _ _ h => h) (Or.inl ⟨by rfl, ?_⟩) ?_ ?_
                                  rotate_left
                                  · intro w'
                                    go_simp
                                    with_reducible rfl
                                  rotate_left
                                  · simp only [Act.put, List.setIfInBounds_toArray, List.set_cons_zero, List.set_cons_succ, i64_w, i32_w]
                                    rfl
                                  refine one_ (i := 27) (N := some 89) #[true, true, true, true, true, true, true, true, true, true, true, true, true, true, true, true, true, true, true, true, true, true, true, true, true, true, true, true, false, true] rfl rfl (one_of HT_.out (by kernel_rfl)) (by decide) (fun K hK => ?_)
                                  refine Kd.R_lit_step Kd.string _ 9 ?hg (N := 89) ?hd (xs := ([a0, t257, t257 ++ a0, t257.extract 0 ((ji30) : Int).toNat, t258, t258 ++ a0, t258.extract 0 ((ji35) : Int).toNat, t259 ++ a1] : List ByteArray)) (inner := [.string a0, .string t257, .string (t257 ++ a0), .string (t257.extract 0 ((ji30) : Int).toNat), .string t258, .string (t258 ++ a0), .string (t258.extract 0 ((ji35) : Int).toNat), .string (t259 ++ a1)]) (ok := fun _ => True) (okp := fun _ => True) ?hr ?hp (fun _ hk => hk) trivial (Below.refl _ _) (Nat.le_refl _) (by simp) ?_; (case hd => rfl); (case hg => rfl); (case hr => first | (go_simp; done) | (go_simp; rfl)); (case hp => exact (Reps.one (show Kd.M Kd.string _ _ _ a0 [.string a0] from rfl) (Reps.one (show Kd.M Kd.string _ _ _ t257 [.string t257] from rfl) (Reps.one (show Kd.M Kd.string _ _ _ (t257 ++ a0) [.string (t257 ++ a0)] from rfl) (Reps.one (show Kd.M Kd.string _ _ _ (t257.extract 0 ((ji30) : Int).toNat) [.string (t257.extract 0 ((ji30) : Int).toNat)] from rfl) (Reps.one (show Kd.M Kd.string _ _ _ t258 [.string t258] from rfl) (Reps.one (show Kd.M Kd.string _ _ _ (t258 ++ a0) [.string (t258 ++ a0)] from rfl) (Reps.one (show Kd.M Kd.string _ _ _ (t258.extract 0 ((ji35) : Int).toNat) [.string (t258.extract 0 ((ji35) : Int).toNat)] from rfl) (Reps.one (show Kd.M Kd.string _ _ _ (t259 ++ a1) [.string (t259 ++ a1)] from rfl) (Reps.none _ _))))))))))
                                  intro v261 w44 ho45 hb hg_ hnew_
                                  clear hg_ hnew_
                                  (first | rw [← Ny260.out] at ho45 | (simp only [Int.reduceToNat] at ho45; rw [← Ny260.out] at ho45))
                                  have n0_ := Aside0.mk (Kd.R_lower ho45 (below_size (by repeat (first | (with_reducible first | exact HB.out | apply below_alloc | apply pw_below_drewN | apply below_drew1) | exact HB.out))))
                                  have n1_ := Aside0.mk (below_step (by repeat (first | (with_reducible first | exact HB.out | apply below_alloc | apply pw_below_drewN | apply below_drew1) | exact HB.out)) hb)
                                  clear HB
                                  have HO262 := n0_
                                  have HB := n1_
                                  clear n0_ n1_
                                  clear hb ho45
                                  obtain ⟨Ao46, co46, eo46⟩ := Kd.R_slice HO262.out
                                  (first | subst eo46 | (injection eo46 with f1_ f2_ f3_; have f4_ := f1_.symm; have f5_ := f3_.symm; clear f1_ f2_ f3_; subst f4_; subst f5_))
                                  refine hK.out _ _ trivial (fun hHeld => ?_)
                                  clear hK K
                                  refine norm_ (a' := ?_) ?_ ?_
                                  rotate_left
                                  · show Act.put _ (some 89) _ = _
                                    simp only [Act.put, List.setIfInBounds_toArray, List.set_cons_zero, List.set_cons_succ, i64_w, i32_w]
                                    rfl
                                  refine pure_ (i := 28) (N := some 90) (v := ?_) (a' := ?_) #[true, true, true, true, true, true, true, true, true, true, true, true, true, true, true, true, true, true, true, true, true, true, true, true, true, true, true, true, true, true] rfl rfl (any_of HT_.out (by kernel_rfl)) (fun _ _ _ h => h) (Or.inl ⟨by rfl, ?_⟩) ?_ ?_
                                  rotate_left
                                  · intro w'
                                    go_simp
                                    with_reducible rfl
                                  rotate_left
                                  · simp only [Act.put, List.setIfInBounds_toArray, List.set_cons_zero, List.set_cons_succ, i64_w, i32_w]
                                    rfl
                                  refine done_ (done_of HT_.out (by kernel_rfl)) ?_
                                  try go_wp2
                                  go_loopg [91] kj12 (fun kq v91 w' => ∃ (x91_3 : Int), v91 = .int .i64 x91_3 ∧ Aside0 (storagebarterlaw01_WireTexts.l0 kq a1 l2 a3 a4 y260 (y260.length : Int) x91_3 = some r) ∧ Aside0 (kq ≤ kj12) ∧ Aside0 (Kd.R Kd.string 9 w' w.heap.size (fun _ => True) (.slice Ao46 y260.length co46) y260) ∧ Aside0 (Below w.heap.size w w'))
                                  case atStart => exact ⟨(0), (by first | rfl | (simp; done) | (simp [*]; done)), H', ⟨Nat.le_refl _⟩, ⟨by (with_reducible repeat (first | apply Kd.R_alloc | apply Kd.R_drewN | apply Kd.R_drew)); exact HO262.out⟩, ⟨by repeat (first | (with_reducible first | exact HB.out | apply below_alloc | apply pw_below_drewN | apply below_drew1) | exact HB.out)⟩⟩
                                  case round =>
                                    clear H'
                                    try clear c1
                                    try clear c2
                                    try clear p2
                                    try clear c3
                                    try clear p6
                                    try clear c7
                                    try clear c8
                                    try clear c11
                                    try clear c11b0
                                    try clear c12
                                    try clear c13
                                    try clear c15
                                    try clear c16
                                    try clear c16b0
                                    try clear c16b1
                                    try clear c25
                                    try clear c28
                                    try clear c28b0
                                    try clear c28b1
                                    try clear c28b2
                                    try clear c29
                                    try clear c29b0
                                    try clear c29b1
                                    try clear c31
                                    try clear c31b0
                                    try clear c31b1
                                    try clear c32
                                    try clear c32b0
                                    try clear c32b1
                                    try clear c33
                                    try clear c33b0
                                    try clear c33b1
                                    try clear c33b2
                                    try clear c34
                                    try clear c34b0
                                    try clear c34b1
                                    try clear c36
                                    try clear c36b0
                                    try clear c36b1
                                    try clear c37
                                    try clear c37b0
                                    try clear c37b1
                                    try clear c39
                                    try clear c39b0
                                    try clear c39b1
                                    try clear c39b2
                                    try clear p2
                                    try clear p6
                                    obtain ⟨x91_3, rfl, HA, HK3, HO_89, HB⟩ := hrel
                                    cases gk with
                                    | zero => exact absurd HA.out (by simp [storagebarterlaw01_WireTexts.l0])
                                    | succ k3 =>
                                      have H := HA.out
                                      clear HA
                                      simp only [storagebarterlaw01_WireTexts.l0] at H
                                      by_cases c47 : x91_3 < (y260.length : Int)
                                      · rw [if_pos c47] at H
                                        have c47b0 : decide (x91_3 < (y260.length : Int)) = true := decide_eq_true c47
                                        clear c47
                                        by_cases c48 : 0 ≤ x91_3
                                        · rw [if_pos c48] at H
                                          have c48b0 : decide (0 ≤ x91_3) = true := decide_eq_true c48
                                          clear c48
                                          by_cases c49 : x91_3 < (y260.length : Int)
                                          · rw [if_pos c49] at H
                                            have c49b0 : decide (x91_3 < (y260.length : Int)) = true := decide_eq_true c49
                                            clear c49
                                            obtain ⟨y264, hy264⟩ : ∃ y_ : List Int, y_ = (([a3, 0] : List Int)) := ⟨_, rfl⟩
                                            replace H : (storagebarterlaw01_WireTexts.l1 k3 a1 l2 a3 a4 (rdOf ByteArray.empty y260 x91_3) y260 (y260.length : Int) x91_3 y264 (y264.length : Int) 0) = some r := by first | (rw [hy264]; with_reducible exact H) | (have H2_ := (Option.bind_some _ _).symm.trans H; rw [hy264]; with_reducible exact H2_) | (have H2_ := (Option.bind_some _ _).symm.trans H; with_reducible exact H2_) | with_reducible exact H | (rw [hy264]; exact H) | exact H
                                            have Ny264 := Aside0.mk hy264
                                            clear hy264
                                            have H' := Aside0.mk H
                                            clear H
                                            have p263 : 0 ≤ (x91_3 : Int) := of_decide_eq_true (by first | (with_reducible assumption) | assumption)
                                            have q263 : x91_3 < (y260.length : Int) := of_decide_eq_true (by first | (with_reducible assumption) | assumption)
                                            obtain ⟨ad263, e263, hx263_0⟩ := Kd.at_string (Kd.R_reads' HO_89.out).2.2 x91_3 p263 q263
                                            cases e263
                                            replace p263 := eq_true p263
                                            replace q263 := eq_true q263
                                            go_wp2_with (first | ((with_reducible refine gate_dst (N := 96) rfl ?_); (try (refine gate_guard (by rfl) ?_; dsimp only)); refine Kd.R_lit (Kd.int .i64) _ 3 ?hg (N := 96) ?hd (xs := ([a3, 0] : List Int)) (inner := [.int .i64 a3, .int .i64 0]) (ok := fun _ => True) (okp := fun _ => True) ?hr ?hp (fun _ hk => hk) trivial (Below.refl _ _) (Nat.le_refl _) (by simp) ?_; (case hd => rfl); (case hg => rfl); (case hr => first | (go_simp; done) | (go_simp; rfl)); (case hp => exact (Reps.one (show Kd.M (Kd.int .i64) _ _ _ a3 [.int .i64 a3] from rfl) (Reps.one (show Kd.M (Kd.int .i64) _ _ _ 0 [.int .i64 0] from rfl) (Reps.none _ _)))); intro v265 w50 ho51 hb hg_ hnew_; clear hg_ hnew_; (first | rw [← Ny264.out] at ho51 | (simp only [Int.reduceToNat] at ho51; rw [← Ny264.out] at ho51)); have n0_ := Aside0.mk (Kd.R_below (by (with_reducible repeat (first | apply Kd.R_alloc | apply Kd.R_drewN | apply Kd.R_drew)); exact HO_89.out) hb); have n1_ := Aside0.mk (Kd.R_lower ho51 (below_size (by repeat (first | (with_reducible first | exact HB.out | apply below_alloc | apply pw_below_drewN | apply below_drew1) | exact HB.out)))); have n2_ := Aside0.mk (below_step (by repeat (first | (with_reducible first | exact HB.out | apply below_alloc | apply pw_below_drewN | apply below_drew1) | exact HB.out)) hb); clear HO_89; clear HB; have HO_89 := n0_; have HO266 := n1_; have HB := n2_; clear n0_ n1_ n2_; clear hb ho51; obtain ⟨Ao52, co52, eo52⟩ := Kd.R_slice HO266.out; subst eo52))
                                            go_loopg [98] k3 (fun kq v98 w' => ∃ (x98_4 : Int), v98 = .int .i64 x98_4 ∧ Aside0 (storagebarterlaw01_WireTexts.l1 kq a1 l2 a3 a4 (rdOf ByteArray.empty y260 x91_3) y260 (y260.length : Int) x91_3 y264 (y264.length : Int) x98_4 = some r) ∧ Aside0 (kq ≤ k3) ∧ Aside0 (Kd.R Kd.string 9 w' w.heap.size (fun _ => True) (.slice (some ad263) y260.length co46) y260) ∧ Aside0 (Kd.R (Kd.int .i64) 3 w' w.heap.size (fun _ => True) (.slice Ao52 y264.length co52) y264) ∧ Aside0 (Below w.heap.size w w'))
                                            case atStart => exact ⟨(0), (by first | rfl | (simp; done) | (simp [*]; done)), H', ⟨Nat.le_refl _⟩, ⟨by (with_reducible repeat (first | apply Kd.R_alloc | apply Kd.R_drewN | apply Kd.R_drew)); exact HO_89.out⟩, ⟨by (with_reducible repeat (first | apply Kd.R_alloc | apply Kd.R_drewN | apply Kd.R_drew)); exact HO266.out⟩, ⟨by repeat (first | (with_reducible first | exact HB.out | apply below_alloc | apply pw_below_drewN | apply below_drew1) | exact HB.out)⟩⟩
                                            case round =>
                                              clear H'
                                              try clear c1
                                              try clear c2
                                              try clear p2
                                              try clear q2
                                              try clear hx2
                                              try clear c3
                                              try clear c4
                                              try clear p6
                                              try clear c7
                                              try clear c8
                                              try clear c11
                                              try clear c11b0
                                              try clear c12
                                              try clear c13
                                              try clear c15
                                              try clear c16
                                              try clear c16b0
                                              try clear c16b1
                                              try clear c25
                                              try clear p26
                                              try clear q26
                                              try clear hx26
                                              try clear c28
                                              try clear c28b0
                                              try clear c28b1
                                              try clear c28b2
                                              try clear c29
                                              try clear c29b0
                                              try clear c29b1
                                              try clear c31
                                              try clear c31b0
                                              try clear c31b1
                                              try clear c32
                                              try clear c32b0
                                              try clear c32b1
                                              try clear c33
                                              try clear c33b0
                                              try clear c33b1
                                              try clear c33b2
                                              try clear c34
                                              try clear c34b0
                                              try clear c34b1
                                              try clear c36
                                              try clear c36b0
                                              try clear c36b1
                                              try clear c37
                                              try clear c37b0
                                              try clear c37b1
                                              try clear c39
                                              try clear c39b0
                                              try clear c39b1
                                              try clear c39b2
                                              try clear c47
                                              try clear c47b0
                                              try clear c48
                                              try clear c48b0
                                              try clear c49
                                              try clear c49b0
                                              try clear hx263_0
                                              try clear p2
                                              try clear p263
                                              try clear p6
                                              try clear q263
                                              obtain ⟨x98_4, rfl, HA, HK4, HO_89, HO_96, HB⟩ := hrel
                                              cases gk with
                                              | zero => exact absurd HA.out (by simp [storagebarterlaw01_WireTexts.l1])
                                              | succ k4 =>
                                                have H := HA.out
                                                clear HA
                                                simp only [storagebarterlaw01_WireTexts.l1] at H
                                                by_cases c53 : x98_4 < (y264.length : Int)
                                                · rw [if_pos c53] at H
                                                  have c53b0 : decide (x98_4 < (y264.length : Int)) = true := decide_eq_true c53
                                                  clear c53
                                                  by_cases c54 : 0 ≤ x98_4
                                                  · rw [if_pos c54] at H
                                                    have c54b0 : decide (0 ≤ x98_4) = true := decide_eq_true c54
                                                    clear c54
                                                    by_cases c55 : x98_4 < (y264.length : Int)
                                                    · rw [if_pos c55] at H
                                                      have c55b0 : decide (x98_4 < (y264.length : Int)) = true := decide_eq_true c55
                                                      clear c55
                                                      obtain ⟨y268, hy268⟩ : ∃ y_ : List Int, y_ = (([a4, 5000, (a1.size : Int), (l2.length : Int)] : List Int)) := ⟨_, rfl⟩
                                                      replace H : (storagebarterlaw01_WireTexts.l2 k4 a1 l2 a3 a4 (rdOf ByteArray.empty y260 x91_3) (rd y264 x98_4) y260 (y260.length : Int) x91_3 y264 (y264.length : Int) x98_4 y268 (y268.length : Int) 0) = some r := by first | (rw [hy268]; with_reducible exact H) | (have H2_ := (Option.bind_some _ _).symm.trans H; rw [hy268]; with_reducible exact H2_) | (have H2_ := (Option.bind_some _ _).symm.trans H; with_reducible exact H2_) | with_reducible exact H | (rw [hy268]; exact H) | exact H
                                                      have Ny268 := Aside0.mk hy268
                                                      clear hy268
                                                      have H' := Aside0.mk H
                                                      clear H
                                                      have p267 : 0 ≤ (x98_4 : Int) := of_decide_eq_true (by first | (with_reducible assumption) | assumption)
                                                      have q267 : x98_4 < (y264.length : Int) := of_decide_eq_true (by first | (with_reducible assumption) | assumption)
                                                      obtain ⟨ad267, e267, hx267_0⟩ := Kd.at_int (Kd.R_reads' HO_96.out).2.2 x98_4 p267 q267
                                                      cases e267
                                                      replace p267 := eq_true p267
                                                      replace q267 := eq_true q267
                                                      go_wp2_with (first | ((with_reducible refine gate_dst (N := 107) rfl ?_); (try (refine gate_guard (by rfl) ?_; dsimp only)); refine Kd.R_lit (Kd.int .i64) _ 3 ?hg (N := 107) ?hd (xs := ([a4, 5000, (a1.size : Int), (l2.length : Int)] : List Int)) (inner := [.int .i64 a4, .int .i64 5000, .int .i64 (a1.size : Int), .int .i64 (l2.length : Int)]) (ok := fun _ => True) (okp := fun _ => True) ?hr ?hp (fun _ hk => hk) trivial (Below.refl _ _) (Nat.le_refl _) (by simp) ?_; (case hd => rfl); (case hg => rfl); (case hr => first | (go_simp; done) | (go_simp; rfl)); (case hp => exact (Reps.one (show Kd.M (Kd.int .i64) _ _ _ a4 [.int .i64 a4] from rfl) (Reps.one (show Kd.M (Kd.int .i64) _ _ _ 5000 [.int .i64 5000] from rfl) (Reps.one (show Kd.M (Kd.int .i64) _ _ _ (a1.size : Int) [.int .i64 (a1.size : Int)] from rfl) (Reps.one (show Kd.M (Kd.int .i64) _ _ _ (l2.length : Int) [.int .i64 (l2.length : Int)] from rfl) (Reps.none _ _)))))); intro v269 w56 ho57 hb hg_ hnew_; clear hg_ hnew_; (first | rw [← Ny268.out] at ho57 | (simp only [Int.reduceToNat] at ho57; rw [← Ny268.out] at ho57)); have n0_ := Aside0.mk (Kd.R_below (by (with_reducible repeat (first | apply Kd.R_alloc | apply Kd.R_drewN | apply Kd.R_drew)); exact HO_89.out) hb); have n1_ := Aside0.mk (Kd.R_elder' (by (with_reducible repeat (first | apply Kd.R_alloc | apply Kd.R_drewN | apply Kd.R_drew)); exact HO_96.out) (Kd.R_base ho57) hb); have n2_ := Aside0.mk (Kd.R_lower (Kd.R_new' ho57 (Kd.R_lt (by (with_reducible repeat (first | apply Kd.R_alloc | apply Kd.R_drewN | apply Kd.R_drew)); exact HO_96.out))) (below_size (by repeat (first | (with_reducible first | exact HB.out | apply below_alloc | apply pw_below_drewN | apply below_drew1) | exact HB.out)))); have n3_ := Aside0.mk (below_step (by repeat (first | (with_reducible first | exact HB.out | apply below_alloc | apply pw_below_drewN | apply below_drew1) | exact HB.out)) hb); clear HO_89; clear HO_96; clear HB; have HO_89 := n0_; have HO_96 := n1_; have HO270 := n2_; have HB := n3_; clear n0_ n1_ n2_ n3_; clear hb ho57; obtain ⟨Ao58, co58, eo58⟩ := Kd.R_slice HO270.out; subst eo58))
                                                      go_loopg [109] k4 (fun kq v109 w' => ∃ (x109_5 : Int), v109 = .int .i64 x109_5 ∧ Aside0 (storagebarterlaw01_WireTexts.l2 kq a1 l2 a3 a4 (rdOf ByteArray.empty y260 x91_3) (rd y264 x98_4) y260 (y260.length : Int) x91_3 y264 (y264.length : Int) x98_4 y268 (y268.length : Int) x109_5 = some r) ∧ Aside0 (kq ≤ k4) ∧ Aside0 (Kd.R Kd.string 9 w' w.heap.size (fun _ => True) (.slice (some ad263) y260.length co46) y260) ∧ Aside0 (Kd.R (Kd.int .i64) 3 w' w.heap.size (fun k_ => some k_ ≠ ((.slice Ao58 y268.length co58) : Value).ownBlock) (.slice (some ad267) y264.length co52) y264) ∧ Aside0 (Kd.R (Kd.int .i64) 3 w' w.heap.size (fun k_ => some k_ ≠ ((.slice (some ad267) y264.length co52) : Value).ownBlock) (.slice Ao58 y268.length co58) y268) ∧ Aside0 (Below w.heap.size w w'))
                                                      case atStart => exact ⟨(0), (by first | rfl | (simp; done) | (simp [*]; done)), H', ⟨Nat.le_refl _⟩, ⟨by (with_reducible repeat (first | apply Kd.R_alloc | apply Kd.R_drewN | apply Kd.R_drew)); exact HO_89.out⟩, ⟨by (with_reducible repeat (first | apply Kd.R_alloc | apply Kd.R_drewN | apply Kd.R_drew)); exact Kd.R_mono HO_96.out (fun _ hk => hk.2)⟩, ⟨by (with_reducible repeat (first | apply Kd.R_alloc | apply Kd.R_drewN | apply Kd.R_drew)); exact Kd.R_mono HO270.out (fun _ hk => hk.2)⟩, ⟨by repeat (first | (with_reducible first | exact HB.out | apply below_alloc | apply pw_below_drewN | apply below_drew1) | exact HB.out)⟩⟩
                                                      case round =>
                                                        clear H'
                                                        try clear c1
                                                        try clear c2
                                                        try clear p2
                                                        try clear q2
                                                        try clear hx2
                                                        try clear c3
                                                        try clear c4
                                                        try clear c5
                                                        try clear p6
                                                        try clear c7
                                                        try clear c8
                                                        try clear c11
                                                        try clear c11b0
                                                        try clear c12
                                                        try clear c13
                                                        try clear c15
                                                        try clear c16
                                                        try clear c16b0
                                                        try clear c16b1
                                                        try clear c25
                                                        try clear p26
                                                        try clear q26
                                                        try clear hx26
                                                        try clear c28
                                                        try clear c28b0
                                                        try clear c28b1
                                                        try clear c28b2
                                                        try clear c29
                                                        try clear c29b0
                                                        try clear c29b1
                                                        try clear c31
                                                        try clear c31b0
                                                        try clear c31b1
                                                        try clear c32
                                                        try clear c32b0
                                                        try clear c32b1
                                                        try clear c33
                                                        try clear c33b0
                                                        try clear c33b1
                                                        try clear c33b2
                                                        try clear c34
                                                        try clear c34b0
                                                        try clear c34b1
                                                        try clear c36
                                                        try clear c36b0
                                                        try clear c36b1
                                                        try clear c37
                                                        try clear c37b0
                                                        try clear c37b1
                                                        try clear c39
                                                        try clear c39b0
                                                        try clear c39b1
                                                        try clear c39b2
                                                        try clear c47
                                                        try clear c47b0
                                                        try clear c48
                                                        try clear c48b0
                                                        try clear c49
                                                        try clear c49b0
                                                        try clear c53
                                                        try clear c53b0
                                                        try clear c54
                                                        try clear c54b0
                                                        try clear c55
                                                        try clear c55b0
                                                        try clear hx263_0
                                                        try clear hx267_0
                                                        try clear p2
                                                        try clear p26
                                                        try clear p263
                                                        try clear p267
                                                        try clear p6
                                                        try clear q2
                                                        try clear q26
                                                        try clear q263
                                                        try clear q267
                                                        obtain ⟨x109_5, rfl, HA, HK5, HO_89, HO_96, HO_107, HB⟩ := hrel
                                                        cases gk with
                                                        | zero => exact absurd HA.out (by simp [storagebarterlaw01_WireTexts.l2])
                                                        | succ k5 =>
                                                          have H := HA.out
                                                          clear HA
                                                          simp only [storagebarterlaw01_WireTexts.l2] at H
                                                          by_cases c59 : x109_5 < (y268.length : Int)
                                                          · rw [if_pos c59] at H
                                                            have c59b0 : decide (x109_5 < (y268.length : Int)) = true := decide_eq_true c59
                                                            clear c59
                                                            by_cases c60 : 0 ≤ x109_5
                                                            · rw [if_pos c60] at H
                                                              have c60b0 : decide (0 ≤ x109_5) = true := decide_eq_true c60
                                                              clear c60
                                                              by_cases c61 : x109_5 < (y268.length : Int)
                                                              · rw [if_pos c61] at H
                                                                have c61b0 : decide (x109_5 < (y268.length : Int)) = true := decide_eq_true c61
                                                                clear c61
                                                                replace H := Option.bind_eq_some_iff.mp H
                                                                obtain ⟨⟨t272, t273, t274⟩, A620, H⟩ := H
                                                                replace H : ((storagebarterref01_Text.f k5 (rdOf ByteArray.empty y260 x91_3) (rd y264 x98_4) (rd y268 x109_5)).bind fun bt275 => (if t272.toList = bt275.1.toList then (if t273 = bt275.2.1 then (storagebarterlaw01_WireTexts.j5 k5 a1 l2 a3 a4 (rdOf ByteArray.empty y260 x91_3) (rd y264 x98_4) (rd y268 x109_5) y260 (y260.length : Int) x91_3 y264 (y264.length : Int) x98_4 y268 (y268.length : Int) x109_5 (t274 != bt275.2.2)) else (storagebarterlaw01_WireTexts.j5 k5 a1 l2 a3 a4 (rdOf ByteArray.empty y260 x91_3) (rd y264 x98_4) (rd y268 x109_5) y260 (y260.length : Int) x91_3 y264 (y264.length : Int) x98_4 y268 (y268.length : Int) x109_5 true)) else (storagebarterlaw01_WireTexts.j5 k5 a1 l2 a3 a4 (rdOf ByteArray.empty y260 x91_3) (rd y264 x98_4) (rd y268 x109_5) y260 (y260.length : Int) x91_3 y264 (y264.length : Int) x98_4 y268 (y268.length : Int) x109_5 true))) = some r := H
                                                                have A62 := Aside0.mk A620
                                                                clear A620
                                                                replace H := Option.bind_eq_some_iff.mp H
                                                                obtain ⟨⟨t275, t276, t277⟩, A630, H⟩ := H
                                                                replace H : (if t272.toList = t275.toList then (if t273 = t276 then (storagebarterlaw01_WireTexts.j5 k5 a1 l2 a3 a4 (rdOf ByteArray.empty y260 x91_3) (rd y264 x98_4) (rd y268 x109_5) y260 (y260.length : Int) x91_3 y264 (y264.length : Int) x98_4 y268 (y268.length : Int) x109_5 (t274 != t277)) else (storagebarterlaw01_WireTexts.j5 k5 a1 l2 a3 a4 (rdOf ByteArray.empty y260 x91_3) (rd y264 x98_4) (rd y268 x109_5) y260 (y260.length : Int) x91_3 y264 (y264.length : Int) x98_4 y268 (y268.length : Int) x109_5 true)) else (storagebarterlaw01_WireTexts.j5 k5 a1 l2 a3 a4 (rdOf ByteArray.empty y260 x91_3) (rd y264 x98_4) (rd y268 x109_5) y260 (y260.length : Int) x91_3 y264 (y264.length : Int) x98_4 y268 (y268.length : Int) x109_5 true)) = some r := H
                                                                have A63 := Aside0.mk A630
                                                                clear A630
                                                                have HC64 := Aside0.mk H
                                                                clear H
                                                                have p271 : 0 ≤ (x109_5 : Int) := of_decide_eq_true (by first | (with_reducible assumption) | assumption)
                                                                have q271 : x109_5 < (y268.length : Int) := of_decide_eq_true (by first | (with_reducible assumption) | assumption)
                                                                obtain ⟨ad271, e271, hx271_0⟩ := Kd.at_int (Kd.R_reads' HO_107.out).2.2 x109_5 p271 q271
                                                                cases e271
                                                                replace p271 := eq_true p271
                                                                replace q271 := eq_true q271
                                                                go_upto_region 19 with (first | ((with_reducible refine gate_callee (f := 35) rfl ?_); refine goesL_ (some 117) rfl rfl Try.func35 (by kernel_rfl) rfl #[.string (rdOf ByteArray.empty y260 x91_3), .int .i64 (rd y264 x98_4), .int .i64 (rd y268 x109_5)] rfl (by (try simp only [List.map_toArray, List.map_cons, List.map_nil]); first | done | rfl | (simp only [List.length_drop, List.length_take]; rfl)) ?_; (with_reducible refine (wire_Text.calls k5 (rdOf ByteArray.empty y260 x91_3) (rd y264 x98_4) (rd y268 x109_5) t272 t273 t274 _ A62.out).mono ?_); rintro e w' ⟨rfl, ⟨nd, rfl⟩⟩; refine ⟨_, rfl, ?_⟩; (try (rw [drewN_self wr]; generalize hq_ : World.drewN wr _ = wr; have n0_ : Aside0 (Kd.R (Kd.int .i64) 3 wr w.heap.size (fun k_ => some k_ ≠ (.slice (some ad267) y264.length co52 : Value).ownBlock) (.slice (some ad271) y268.length co58) y268) := ⟨by rw [← hq_]; exact (by (with_reducible repeat (first | apply Kd.R_alloc | apply Kd.R_drewN | apply Kd.R_drew)); exact HO_107.out)⟩; have n1_ : Aside0 (Kd.R Kd.string 9 wr w.heap.size (fun _ => True) (.slice (some ad263) y260.length co46) y260) := ⟨by rw [← hq_]; exact (by (with_reducible repeat (first | apply Kd.R_alloc | apply Kd.R_drewN | apply Kd.R_drew)); exact HO_89.out)⟩; have n2_ : Aside0 (Kd.R (Kd.int .i64) 3 wr w.heap.size (fun k_ => some k_ ≠ (.slice (some ad271) y268.length co58 : Value).ownBlock) (.slice (some ad267) y264.length co52) y264) := ⟨by rw [← hq_]; exact (by (with_reducible repeat (first | apply Kd.R_alloc | apply Kd.R_drewN | apply Kd.R_drew)); exact HO_96.out)⟩; have n3_ : Aside0 (Below w.heap.size w wr) := ⟨by rw [← hq_]; exact (by repeat (first | (with_reducible first | exact HB.out | apply below_alloc | apply pw_below_drewN | apply below_drew1) | exact HB.out))⟩; clear HO_107 HO_89 HO_96 HB hq_; have HO_107 := n0_; have HO_89 := n1_; have HO_96 := n2_; have HB := n3_; clear n0_ n1_ n2_ n3_))) | ((with_reducible refine gate_callee (f := 36) rfl ?_); refine goesL_ (some 125) rfl rfl Try.func36 (by kernel_rfl) rfl #[.string (rdOf ByteArray.empty y260 x91_3), .int .i64 (rd y264 x98_4), .int .i64 (rd y268 x109_5)] rfl (by (try simp only [List.map_toArray, List.map_cons, List.map_nil]); first | done | rfl | (simp only [List.length_drop, List.length_take]; rfl)) ?_; (with_reducible refine (storagebarterref01_Text.calls k5 (rdOf ByteArray.empty y260 x91_3) (rd y264 x98_4) (rd y268 x109_5) t275 t276 t277 _ A63.out).mono ?_); rintro e w' ⟨rfl, ⟨nd, rfl⟩⟩; refine ⟨_, rfl, ?_⟩; (try (rw [drewN_self wr]; generalize hq_ : World.drewN wr _ = wr; have n0_ : Aside0 (Kd.R (Kd.int .i64) 3 wr w.heap.size (fun k_ => some k_ ≠ (.slice (some ad267) y264.length co52 : Value).ownBlock) (.slice (some ad271) y268.length co58) y268) := ⟨by rw [← hq_]; exact (by (with_reducible repeat (first | apply Kd.R_alloc | apply Kd.R_drewN | apply Kd.R_drew)); exact HO_107.out)⟩; have n1_ : Aside0 (Kd.R Kd.string 9 wr w.heap.size (fun _ => True) (.slice (some ad263) y260.length co46) y260) := ⟨by rw [← hq_]; exact (by (with_reducible repeat (first | apply Kd.R_alloc | apply Kd.R_drewN | apply Kd.R_drew)); exact HO_89.out)⟩; have n2_ : Aside0 (Kd.R (Kd.int .i64) 3 wr w.heap.size (fun k_ => some k_ ≠ (.slice (some ad271) y268.length co58 : Value).ownBlock) (.slice (some ad267) y264.length co52) y264) := ⟨by rw [← hq_]; exact (by (with_reducible repeat (first | apply Kd.R_alloc | apply Kd.R_drewN | apply Kd.R_drew)); exact HO_96.out)⟩; have n3_ : Aside0 (Below w.heap.size w wr) := ⟨by rw [← hq_]; exact (by repeat (first | (with_reducible first | exact HB.out | apply below_alloc | apply pw_below_drewN | apply below_drew1) | exact HB.out))⟩; clear HO_107 HO_89 HO_96 HB hq_; have HO_107 := n0_; have HO_89 := n1_; have HO_96 := n2_; have HB := n3_; clear n0_ n1_ n2_ n3_))))
                                                                (try simp only [Act.put, List.setIfInBounds_toArray, List.set_cons_zero, List.set_cons_succ])
                                                                go_cut [141] (fun v141 wc => ∃ (kq : Nat) (x141_63 : Bool), v141 = .bool x141_63 ∧ Aside0 (storagebarterlaw01_WireTexts.j5 kq a1 l2 a3 a4 (rdOf ByteArray.empty y260 x91_3) (rd y264 x98_4) (rd y268 x109_5) y260 (y260.length : Int) x91_3 y264 (y264.length : Int) x98_4 y268 (y268.length : Int) x109_5 x141_63 = some r) ∧ Aside0 (kq ≤ k5) ∧ Aside0 (Kd.R Kd.string 9 wc w.heap.size (fun _ => True) (.slice (some ad263) y260.length co46) y260) ∧ Aside0 (Kd.R (Kd.int .i64) 3 wc w.heap.size (fun k_ => some k_ ≠ ((.slice (some ad271) y268.length co58) : Value).ownBlock) (.slice (some ad267) y264.length co52) y264) ∧ Aside0 (Kd.R (Kd.int .i64) 3 wc w.heap.size (fun k_ => some k_ ≠ ((.slice (some ad267) y264.length co52) : Value).ownBlock) (.slice (some ad271) y268.length co58) y268) ∧ Aside0 (Below w.heap.size w wc))
                                                                case first =>
                                                                  have H := HC64.out
                                                                  clear HC64
                                                                  by_cases c65 : t272.toList = t275.toList
                                                                  · rw [if_pos c65] at H
                                                                    have c65b0 : (t272.toList == t275.toList) = true := beq_iff_eq.mpr c65
                                                                    have c65b1 : (t272.toList != t275.toList) = false := bne_eq_false_iff_eq.mpr c65
                                                                    clear c65
                                                                    (first | rw [c65b0] | (simp only [i64_w, i32_w]; rw [c65b0]) | skip)
                                                                    by_cases c66 : t273 = t276
                                                                    · rw [if_pos c66] at H
                                                                      have c66b0 : (t273 == t276) = true := beq_iff_eq.mpr c66
                                                                      have c66b1 : (t273 != t276) = false := bne_eq_false_iff_eq.mpr c66
                                                                      clear c66
                                                                      have H' := Aside0.mk H
                                                                      clear H
                                                                      go_wp2
                                                                      go_meet
                                                                      case rel => exact ⟨_, ((t274 != t277)), (by first | rfl | (simp; done) | (simp [*]; done)), H', ⟨by have := HJ8.out; have := HJ12.out; have := HK3.out; have := HK4.out; have := HK5.out; first | omega | exact Nat.le_refl _⟩, ⟨by (with_reducible repeat (first | apply Kd.R_alloc | apply Kd.R_drewN | apply Kd.R_drew)); exact HO_89.out⟩, ⟨by (with_reducible repeat (first | apply Kd.R_alloc | apply Kd.R_drewN | apply Kd.R_drew)); exact HO_96.out⟩, ⟨by (with_reducible repeat (first | apply Kd.R_alloc | apply Kd.R_drewN | apply Kd.R_drew)); exact HO_107.out⟩, ⟨by repeat (first | (with_reducible first | exact HB.out | apply below_alloc | apply pw_below_drewN | apply below_drew1) | exact HB.out)⟩⟩
                                                                    · rw [if_neg c66] at H
                                                                      have c66b0 : (t273 == t276) = false := beq_eq_false_iff_ne.mpr c66
                                                                      have c66b1 : (t273 != t276) = true := bne_iff_ne.mpr c66
                                                                      have H' := Aside0.mk H
                                                                      clear H
                                                                      go_wp2
                                                                      go_meet
                                                                      case rel => exact ⟨_, (true), (by first | rfl | (simp; done) | (simp [*]; done)), H', ⟨by have := HJ8.out; have := HJ12.out; have := HK3.out; have := HK4.out; have := HK5.out; first | omega | exact Nat.le_refl _⟩, ⟨by (with_reducible repeat (first | apply Kd.R_alloc | apply Kd.R_drewN | apply Kd.R_drew)); exact HO_89.out⟩, ⟨by (with_reducible repeat (first | apply Kd.R_alloc | apply Kd.R_drewN | apply Kd.R_drew)); exact HO_96.out⟩, ⟨by (with_reducible repeat (first | apply Kd.R_alloc | apply Kd.R_drewN | apply Kd.R_drew)); exact HO_107.out⟩, ⟨by repeat (first | (with_reducible first | exact HB.out | apply below_alloc | apply pw_below_drewN | apply below_drew1) | exact HB.out)⟩⟩
                                                                  · rw [if_neg c65] at H
                                                                    have c65b0 : (t272.toList == t275.toList) = false := beq_eq_false_iff_ne.mpr c65
                                                                    have c65b1 : (t272.toList != t275.toList) = true := bne_iff_ne.mpr c65
                                                                    (first | rw [c65b0] | (simp only [i64_w, i32_w]; rw [c65b0]) | skip)
                                                                    have H' := Aside0.mk H
                                                                    clear H
                                                                    go_wp2
                                                                    go_meet
                                                                    case rel => exact ⟨_, (true), (by first | rfl | (simp; done) | (simp [*]; done)), H', ⟨by have := HJ8.out; have := HJ12.out; have := HK3.out; have := HK4.out; have := HK5.out; first | omega | exact Nat.le_refl _⟩, ⟨by (with_reducible repeat (first | apply Kd.R_alloc | apply Kd.R_drewN | apply Kd.R_drew)); exact HO_89.out⟩, ⟨by (with_reducible repeat (first | apply Kd.R_alloc | apply Kd.R_drewN | apply Kd.R_drew)); exact HO_96.out⟩, ⟨by (with_reducible repeat (first | apply Kd.R_alloc | apply Kd.R_drewN | apply Kd.R_drew)); exact HO_107.out⟩, ⟨by repeat (first | (with_reducible first | exact HB.out | apply below_alloc | apply pw_below_drewN | apply below_drew1) | exact HB.out)⟩⟩
                                                                case rest =>
                                                                  clear HC64
                                                                  try clear c1
                                                                  try clear c2
                                                                  try clear p2
                                                                  try clear q2
                                                                  try clear hx2
                                                                  try clear c3
                                                                  try clear c4
                                                                  try clear c5
                                                                  try clear c6
                                                                  try clear p6
                                                                  try clear c7
                                                                  try clear c8
                                                                  try clear c11
                                                                  try clear c11b0
                                                                  try clear c12
                                                                  try clear c13
                                                                  try clear c15
                                                                  try clear c16
                                                                  try clear c16b0
                                                                  try clear c16b1
                                                                  try clear c25
                                                                  try clear p26
                                                                  try clear q26
                                                                  try clear hx26
                                                                  try clear p27
                                                                  try clear q27
                                                                  try clear hx27
                                                                  try clear c28
                                                                  try clear c28b0
                                                                  try clear c28b1
                                                                  try clear c28b2
                                                                  try clear c29
                                                                  try clear c29b0
                                                                  try clear c29b1
                                                                  try clear c31
                                                                  try clear c31b0
                                                                  try clear c31b1
                                                                  try clear c32
                                                                  try clear c32b0
                                                                  try clear c32b1
                                                                  try clear c33
                                                                  try clear c33b0
                                                                  try clear c33b1
                                                                  try clear c33b2
                                                                  try clear c34
                                                                  try clear c34b0
                                                                  try clear c34b1
                                                                  try clear c35
                                                                  try clear c36
                                                                  try clear c36b0
                                                                  try clear c36b1
                                                                  try clear c37
                                                                  try clear c37b0
                                                                  try clear c37b1
                                                                  try clear c39
                                                                  try clear c39b0
                                                                  try clear c39b1
                                                                  try clear c39b2
                                                                  try clear c47
                                                                  try clear c47b0
                                                                  try clear c48
                                                                  try clear c48b0
                                                                  try clear c49
                                                                  try clear c49b0
                                                                  try clear c53
                                                                  try clear c53b0
                                                                  try clear c54
                                                                  try clear c54b0
                                                                  try clear c55
                                                                  try clear c55b0
                                                                  try clear c59
                                                                  try clear c59b0
                                                                  try clear c60
                                                                  try clear c60b0
                                                                  try clear c61
                                                                  try clear c61b0
                                                                  try clear c65
                                                                  try clear c65b0
                                                                  try clear c65b1
                                                                  try clear c66
                                                                  try clear c66b0
                                                                  try clear c66b1
                                                                  try clear hx263_0
                                                                  try clear hx267_0
                                                                  try clear hx271_0
                                                                  try clear p2
                                                                  try clear p26
                                                                  try clear p263
                                                                  try clear p267
                                                                  try clear p271
                                                                  try clear p6
                                                                  try clear q2
                                                                  try clear q26
                                                                  try clear q263
                                                                  try clear q267
                                                                  try clear q271
                                                                  obtain ⟨kq, x141_63, rfl, HA, HJ63, HO_89, HO_96, HO_107, HB⟩ := hcut
                                                                  cases kq with
                                                                  | zero => exact absurd HA.out (by simp [storagebarterlaw01_WireTexts.j5])
                                                                  | succ kj63 =>
                                                                    have H := HA.out
                                                                    clear HA
                                                                    simp only [storagebarterlaw01_WireTexts.j5] at H
                                                                    by_cases c67 : x141_63 = true
                                                                    · subst c67
                                                                      have H1 : (some false) = some r := by rw [if_pos rfl] at H; exact H
                                                                      clear H
                                                                      have H := H1
                                                                      clear H1
                                                                      obtain rfl := Option.some.inj H
                                                                      go_wp2
                                                                      go_ret
                                                                      exact ⟨by first | rfl | (simp [errW_none, errW_some] <;> rfl) | (simp only [← hji30, ← hji35]; first | rfl | (simp [errW_none, errW_some] <;> rfl)) | (simp [*, errW_none, errW_some] <;> rfl), by repeat (first | (with_reducible first | exact HB.out | apply below_alloc | apply pw_below_drewN | apply below_drew1) | exact HB.out)⟩
                                                                    · replace c67 := Bool.eq_false_iff.mpr c67
                                                                      subst c67
                                                                      have H1 : ((wire_List.f kj63 (rdOf ByteArray.empty y260 x91_3) (rd y264 x98_4) (rd y268 x109_5)).bind fun bt278 => ((storagebarterref01_List.f kj63 (rdOf ByteArray.empty y260 x91_3) (rd y264 x98_4) (rd y268 x109_5)).bind fun bt283 => ((storagebarterref01_Same.f kj63 bt278.1 bt283.1).bind fun t288 => (if t288 = true then (if bt278.2.1 = bt283.2.1 then (if bt278.2.2 = bt283.2.2 then (storagebarterlaw01_WireTexts.l2 kj63 a1 l2 a3 a4 (rdOf ByteArray.empty y260 x91_3) (rd y264 x98_4) y260 (y260.length : Int) x91_3 y264 (y264.length : Int) x98_4 y268 (y268.length : Int) (wrap64 (x109_5 + 1))) else (some false)) else (some false)) else (some false))))) = some r := by rw [if_neg (show ¬ (false = true) by decide)] at H; exact H
                                                                      clear H
                                                                      have H := H1
                                                                      clear H1
                                                                      replace H := Option.bind_eq_some_iff.mp H
                                                                      obtain ⟨⟨t278, t279, t280⟩, A680, H⟩ := H
                                                                      replace H : ((storagebarterref01_List.f kj63 (rdOf ByteArray.empty y260 x91_3) (rd y264 x98_4) (rd y268 x109_5)).bind fun bt283 => ((storagebarterref01_Same.f kj63 t278 bt283.1).bind fun t288 => (if t288 = true then (if t279 = bt283.2.1 then (if t280 = bt283.2.2 then (storagebarterlaw01_WireTexts.l2 kj63 a1 l2 a3 a4 (rdOf ByteArray.empty y260 x91_3) (rd y264 x98_4) y260 (y260.length : Int) x91_3 y264 (y264.length : Int) x98_4 y268 (y268.length : Int) (wrap64 (x109_5 + 1))) else (some false)) else (some false)) else (some false)))) = some r := H
                                                                      have A68 := Aside0.mk A680
                                                                      clear A680
                                                                      replace H := Option.bind_eq_some_iff.mp H
                                                                      obtain ⟨⟨t283, t284, t285⟩, A690, H⟩ := H
                                                                      replace H : ((storagebarterref01_Same.f kj63 t278 t283).bind fun t288 => (if t288 = true then (if t279 = t284 then (if t280 = t285 then (storagebarterlaw01_WireTexts.l2 kj63 a1 l2 a3 a4 (rdOf ByteArray.empty y260 x91_3) (rd y264 x98_4) y260 (y260.length : Int) x91_3 y264 (y264.length : Int) x98_4 y268 (y268.length : Int) (wrap64 (x109_5 + 1))) else (some false)) else (some false)) else (some false))) = some r := H
                                                                      have A69 := Aside0.mk A690
                                                                      clear A690
                                                                      replace H := Option.bind_eq_some_iff.mp H
                                                                      obtain ⟨t288, A700, H⟩ := H
                                                                      replace H : (if t288 = true then (if t279 = t284 then (if t280 = t285 then (storagebarterlaw01_WireTexts.l2 kj63 a1 l2 a3 a4 (rdOf ByteArray.empty y260 x91_3) (rd y264 x98_4) y260 (y260.length : Int) x91_3 y264 (y264.length : Int) x98_4 y268 (y268.length : Int) (wrap64 (x109_5 + 1))) else (some false)) else (some false)) else (some false)) = some r := H
                                                                      have A70 := Aside0.mk A700
                                                                      clear A700
                                                                      by_cases c71 : t288 = true
                                                                      · subst c71
                                                                        have H1 : (if t279 = t284 then (if t280 = t285 then (storagebarterlaw01_WireTexts.l2 kj63 a1 l2 a3 a4 (rdOf ByteArray.empty y260 x91_3) (rd y264 x98_4) y260 (y260.length : Int) x91_3 y264 (y264.length : Int) x98_4 y268 (y268.length : Int) (wrap64 (x109_5 + 1))) else (some false)) else (some false)) = some r := by rw [if_pos rfl] at H; exact H
                                                                        clear H
                                                                        have H := H1
                                                                        clear H1
                                                                        by_cases c72 : t279 = t284
                                                                        · rw [if_pos c72] at H
                                                                          have c72b0 : (t279 == t284) = true := beq_iff_eq.mpr c72
                                                                          have c72b1 : (t279 != t284) = false := bne_eq_false_iff_eq.mpr c72
                                                                          clear c72
                                                                          by_cases c73 : t280 = t285
                                                                          · rw [if_pos c73] at H
                                                                            have c73b0 : (t280 == t285) = true := beq_iff_eq.mpr c73
                                                                            have c73b1 : (t280 != t285) = false := bne_eq_false_iff_eq.mpr c73
                                                                            clear c73
                                                                            have H' := Aside0.mk H
                                                                            clear H
                                                                            go_wp2_with (first | ((with_reducible refine gate_callee (f := 37) rfl ?_); refine goesL_ (some 146) rfl rfl Try.func37 (by kernel_rfl) rfl #[.string (rdOf ByteArray.empty y260 x91_3), .int .i64 (rd y264 x98_4), .int .i64 (rd y268 x109_5)] rfl (by (try simp only [List.map_toArray, List.map_cons, List.map_nil]); first | done | rfl | (simp only [List.length_drop, List.length_take]; rfl)) ?_; (with_reducible refine (wire_List.calls kj63 (rdOf ByteArray.empty y260 x91_3) (rd y264 x98_4) (rd y268 x109_5) t278 t279 t280 _ A68.out).mono ?_); rintro e w74 ⟨v281, rfl, ho0, hb⟩; refine ⟨_, rfl, ?_⟩; have n0_ := Aside0.mk (Kd.R_below (by (with_reducible repeat (first | apply Kd.R_alloc | apply Kd.R_drewN | apply Kd.R_drew)); exact HO_89.out) hb); have n1_ := Aside0.mk (Kd.R_elder' (by (with_reducible repeat (first | apply Kd.R_alloc | apply Kd.R_drewN | apply Kd.R_drew)); exact HO_96.out) (Kd.R_base ho0) hb); have n2_ := Aside0.mk (Kd.R_elder' (by (with_reducible repeat (first | apply Kd.R_alloc | apply Kd.R_drewN | apply Kd.R_drew)); exact HO_107.out) (Kd.R_base ho0) hb); have n3_ := Aside0.mk (Kd.R_lower (Kd.R_new' (Kd.R_new' ho0 (Kd.R_lt (by (with_reducible repeat (first | apply Kd.R_alloc | apply Kd.R_drewN | apply Kd.R_drew)); exact HO_96.out))) (Kd.R_lt (by (with_reducible repeat (first | apply Kd.R_alloc | apply Kd.R_drewN | apply Kd.R_drew)); exact HO_107.out))) (below_size (by repeat (first | (with_reducible first | exact HB.out | apply below_alloc | apply pw_below_drewN | apply below_drew1) | exact HB.out)))); have n4_ := Aside0.mk (below_step (by repeat (first | (with_reducible first | exact HB.out | apply below_alloc | apply pw_below_drewN | apply below_drew1) | exact HB.out)) hb); clear HO_89; clear HO_96; clear HO_107; clear HB; have HO_89 := n0_; have HO_96 := n1_; have HO_107 := n2_; have HO282 := n3_; have HB := n4_; clear n0_ n1_ n2_ n3_ n4_; (try clear hb); (try clear hb2); (try clear hk); (try clear hi); (try clear ho0)) | ((with_reducible refine gate_callee (f := 38) rfl ?_); refine goesL_ (some 154) rfl rfl Try.func38 (by kernel_rfl) rfl #[.string (rdOf ByteArray.empty y260 x91_3), .int .i64 (rd y264 x98_4), .int .i64 (rd y268 x109_5)] rfl (by (try simp only [List.map_toArray, List.map_cons, List.map_nil]); first | done | rfl | (simp only [List.length_drop, List.length_take]; rfl)) ?_; (with_reducible refine (storagebarterref01_List.calls kj63 (rdOf ByteArray.empty y260 x91_3) (rd y264 x98_4) (rd y268 x109_5) t283 t284 t285 _ A69.out).mono ?_); rintro e w75 ⟨v286, rfl, ho0, hb⟩; refine ⟨_, rfl, ?_⟩; have n0_ := Aside0.mk (Kd.R_below (by (with_reducible repeat (first | apply Kd.R_alloc | apply Kd.R_drewN | apply Kd.R_drew)); exact HO_89.out) hb); have n1_ := Aside0.mk (Kd.R_elder' (by (with_reducible repeat (first | apply Kd.R_alloc | apply Kd.R_drewN | apply Kd.R_drew)); exact HO_96.out) (Kd.R_base ho0) hb); have n2_ := Aside0.mk (Kd.R_elder' (by (with_reducible repeat (first | apply Kd.R_alloc | apply Kd.R_drewN | apply Kd.R_drew)); exact HO_107.out) (Kd.R_base ho0) hb); have n3_ := Aside0.mk (Kd.R_elder' (by (with_reducible repeat (first | apply Kd.R_alloc | apply Kd.R_drewN | apply Kd.R_drew)); exact HO282.out) (Kd.R_base ho0) hb); have n4_ := Aside0.mk (Kd.R_lower (Kd.R_new' (Kd.R_new' (Kd.R_new' ho0 (Kd.R_lt (by (with_reducible repeat (first | apply Kd.R_alloc | apply Kd.R_drewN | apply Kd.R_drew)); exact HO_96.out))) (Kd.R_lt (by (with_reducible repeat (first | apply Kd.R_alloc | apply Kd.R_drewN | apply Kd.R_drew)); exact HO_107.out))) (Kd.R_lt (by (with_reducible repeat (first | apply Kd.R_alloc | apply Kd.R_drewN | apply Kd.R_drew)); exact HO282.out))) (below_size (by repeat (first | (with_reducible first | exact HB.out | apply below_alloc | apply pw_below_drewN | apply below_drew1) | exact HB.out)))); have n5_ := Aside0.mk (below_step (by repeat (first | (with_reducible first | exact HB.out | apply below_alloc | apply pw_below_drewN | apply below_drew1) | exact HB.out)) hb); clear HO_89; clear HO_96; clear HO_107; clear HO282; clear HB; have HO_89 := n0_; have HO_96 := n1_; have HO_107 := n2_; have HO282 := n3_; have HO287 := n4_; have HB := n5_; clear n0_ n1_ n2_ n3_ n4_ n5_; (try clear hb); (try clear hb2); (try clear hk); (try clear hi); (try clear ho0); obtain ⟨Ao76, co76, eo76⟩ := Kd.R_slice HO282.out; subst eo76; obtain ⟨Ao77, co77, eo77⟩ := Kd.R_slice HO287.out; subst eo77) | ((with_reducible refine gate_callee (f := 39) rfl ?_); refine goesL_ (some 160) rfl rfl Try.func39 (by kernel_rfl) rfl #[.slice Ao76 t278.length co76, .slice Ao77 t283.length co77] rfl (by (try simp only [List.map_toArray, List.map_cons, List.map_nil]); first | done | rfl | (simp only [List.length_drop, List.length_take]; rfl)) ?_; (with_reducible refine (storagebarterref01_Same.calls kj63 _ _ t278 _ _ t283 true _ ?side1 ?side2 ?side3 ?side4 A70.out).mono ?_); (case side1 => repeat (first | exact (Kd.R_reads' HO282.out).2.2 | (with_reducible refine Kd.C_alloc ?_ _) | (with_reducible refine Kd.C_drewN ?_ _) | (with_reducible refine Kd.C_drew ?_))); (case side2 => exact (Kd.R_reads' HO282.out).2.1); (case side3 => repeat (first | exact (Kd.R_reads' HO287.out).2.2 | (with_reducible refine Kd.C_alloc ?_ _) | (with_reducible refine Kd.C_drewN ?_ _) | (with_reducible refine Kd.C_drew ?_))); (case side4 => exact (Kd.R_reads' HO287.out).2.1); rintro e w' ⟨rfl, ⟨nd, rfl⟩⟩; refine ⟨_, rfl, ?_⟩; (try (rw [drewN_self w75]; generalize hq_ : World.drewN w75 _ = w75; have n0_ : Aside0 (Kd.R (Kd.int .i64) 3 w75 w.heap.size (fun k_ => some k_ ≠ (.slice Ao77 t283.length co77 : Value).ownBlock ∧ some k_ ≠ (.slice (some ad271) y268.length co58 : Value).ownBlock ∧ some k_ ≠ (.slice (some ad267) y264.length co52 : Value).ownBlock) (.slice Ao76 t278.length co76) t278) := ⟨by rw [← hq_]; exact (by (with_reducible repeat (first | apply Kd.R_alloc | apply Kd.R_drewN | apply Kd.R_drew)); exact Kd.R_mono HO282.out (fun _ hk => ⟨hk.2, ⟨hk.1.2, hk.1.1.2⟩⟩))⟩; have n1_ : Aside0 (Kd.R (Kd.int .i64) 3 w75 w.heap.size (fun k_ => some k_ ≠ (.slice Ao76 t278.length co76 : Value).ownBlock ∧ some k_ ≠ (.slice (some ad271) y268.length co58 : Value).ownBlock ∧ some k_ ≠ (.slice (some ad267) y264.length co52 : Value).ownBlock) (.slice Ao77 t283.length co77) t283) := ⟨by rw [← hq_]; exact (by (with_reducible repeat (first | apply Kd.R_alloc | apply Kd.R_drewN | apply Kd.R_drew)); exact Kd.R_mono HO287.out (fun _ hk => ⟨hk.2, ⟨hk.1.2, hk.1.1.2⟩⟩))⟩; have n2_ : Aside0 (Kd.R (Kd.int .i64) 3 w75 w.heap.size (fun k_ => some k_ ≠ (.slice Ao76 t278.length co76 : Value).ownBlock ∧ some k_ ≠ (.slice Ao77 t283.length co77 : Value).ownBlock ∧ some k_ ≠ (.slice (some ad267) y264.length co52 : Value).ownBlock) (.slice (some ad271) y268.length co58) y268) := ⟨by rw [← hq_]; exact (by (with_reducible repeat (first | apply Kd.R_alloc | apply Kd.R_drewN | apply Kd.R_drew)); exact Kd.R_mono HO_107.out (fun _ hk => ⟨hk.1.2, ⟨hk.2, hk.1.1⟩⟩))⟩; have n3_ : Aside0 (Kd.R Kd.string 9 w75 w.heap.size (fun _ => True) (.slice (some ad263) y260.length co46) y260) := ⟨by rw [← hq_]; exact (by (with_reducible repeat (first | apply Kd.R_alloc | apply Kd.R_drewN | apply Kd.R_drew)); exact HO_89.out)⟩; have n4_ : Aside0 (Kd.R (Kd.int .i64) 3 w75 w.heap.size (fun k_ => some k_ ≠ (.slice Ao76 t278.length co76 : Value).ownBlock ∧ some k_ ≠ (.slice Ao77 t283.length co77 : Value).ownBlock ∧ some k_ ≠ (.slice (some ad271) y268.length co58 : Value).ownBlock) (.slice (some ad267) y264.length co52) y264) := ⟨by rw [← hq_]; exact (by (with_reducible repeat (first | apply Kd.R_alloc | apply Kd.R_drewN | apply Kd.R_drew)); exact Kd.R_mono HO_96.out (fun _ hk => ⟨hk.1.2, ⟨hk.2, hk.1.1⟩⟩))⟩; have n5_ : Aside0 (Below w.heap.size w w75) := ⟨by rw [← hq_]; exact (by repeat (first | (with_reducible first | exact HB.out | apply below_alloc | apply pw_below_drewN | apply below_drew1) | exact HB.out))⟩; clear HO282 HO287 HO_107 HO_89 HO_96 HB hq_; have HO282 := n0_; have HO287 := n1_; have HO_107 := n2_; have HO_89 := n3_; have HO_96 := n4_; have HB := n5_; clear n0_ n1_ n2_ n3_ n4_ n5_))))
                                                                            go_roundg kj63
                                                                            case measure => have := HJ8.out; have := HJ12.out; have := HK3.out; have := HK4.out; have := HK5.out; have := HJ63.out; omega
                                                                            case rel => exact ⟨(wrap64 (x109_5 + 1)), (by first | rfl | (simp; done) | (simp [*]; done)), H', ⟨by have := HJ8.out; have := HJ12.out; have := HK3.out; have := HK4.out; have := HK5.out; have := HJ63.out; omega⟩, ⟨by (with_reducible repeat (first | apply Kd.R_alloc | apply Kd.R_drewN | apply Kd.R_drew)); exact HO_89.out⟩, ⟨by (with_reducible repeat (first | apply Kd.R_alloc | apply Kd.R_drewN | apply Kd.R_drew)); exact Kd.R_mono HO_96.out (fun _ hk => by first | exact hk.1.1 | exact hk.2.2 | ((repeat' apply And.intro) <;> first | exact trivial | exact hk.1 | exact hk.2.1 | exact hk.2.2.1 | exact hk.2.2.2.1 | exact hk.2.2.2))⟩, ⟨by (with_reducible repeat (first | apply Kd.R_alloc | apply Kd.R_drewN | apply Kd.R_drew)); exact Kd.R_mono HO_107.out (fun _ hk => by first | exact hk.1.1 | exact hk.2.2 | ((repeat' apply And.intro) <;> first | exact trivial | exact hk.1 | exact hk.2.1 | exact hk.2.2.1 | exact hk.2.2.2.1 | exact hk.2.2.2))⟩, ⟨by repeat (first | (with_reducible first | exact HB.out | apply below_alloc | apply pw_below_drewN | apply below_drew1) | exact HB.out)⟩⟩
                                                                          · rw [if_neg c73] at H
                                                                            have c73b0 : (t280 == t285) = false := beq_eq_false_iff_ne.mpr c73
                                                                            have c73b1 : (t280 != t285) = true := bne_iff_ne.mpr c73
                                                                            obtain rfl := Option.some.inj H
                                                                            go_wp2_with (first | ((with_reducible refine gate_callee (f := 37) rfl ?_); refine goesL_ (some 146) rfl rfl Try.func37 (by kernel_rfl) rfl #[.string (rdOf ByteArray.empty y260 x91_3), .int .i64 (rd y264 x98_4), .int .i64 (rd y268 x109_5)] rfl (by (try simp only [List.map_toArray, List.map_cons, List.map_nil]); first | done | rfl | (simp only [List.length_drop, List.length_take]; rfl)) ?_; (with_reducible refine (wire_List.calls kj63 (rdOf ByteArray.empty y260 x91_3) (rd y264 x98_4) (rd y268 x109_5) t278 t279 t280 _ A68.out).mono ?_); rintro e w78 ⟨v281, rfl, ho0, hb⟩; refine ⟨_, rfl, ?_⟩; have n0_ := Aside0.mk (Kd.R_below (by (with_reducible repeat (first | apply Kd.R_alloc | apply Kd.R_drewN | apply Kd.R_drew)); exact HO_89.out) hb); have n1_ := Aside0.mk (Kd.R_elder' (by (with_reducible repeat (first | apply Kd.R_alloc | apply Kd.R_drewN | apply Kd.R_drew)); exact HO_96.out) (Kd.R_base ho0) hb); have n2_ := Aside0.mk (Kd.R_elder' (by (with_reducible repeat (first | apply Kd.R_alloc | apply Kd.R_drewN | apply Kd.R_drew)); exact HO_107.out) (Kd.R_base ho0) hb); have n3_ := Aside0.mk (Kd.R_lower (Kd.R_new' (Kd.R_new' ho0 (Kd.R_lt (by (with_reducible repeat (first | apply Kd.R_alloc | apply Kd.R_drewN | apply Kd.R_drew)); exact HO_96.out))) (Kd.R_lt (by (with_reducible repeat (first | apply Kd.R_alloc | apply Kd.R_drewN | apply Kd.R_drew)); exact HO_107.out))) (below_size (by repeat (first | (with_reducible first | exact HB.out | apply below_alloc | apply pw_below_drewN | apply below_drew1) | exact HB.out)))); have n4_ := Aside0.mk (below_step (by repeat (first | (with_reducible first | exact HB.out | apply below_alloc | apply pw_below_drewN | apply below_drew1) | exact HB.out)) hb); clear HO_89; clear HO_96; clear HO_107; clear HB; have HO_89 := n0_; have HO_96 := n1_; have HO_107 := n2_; have HO282 := n3_; have HB := n4_; clear n0_ n1_ n2_ n3_ n4_; (try clear hb); (try clear hb2); (try clear hk); (try clear hi); (try clear ho0)) | ((with_reducible refine gate_callee (f := 38) rfl ?_); refine goesL_ (some 154) rfl rfl Try.func38 (by kernel_rfl) rfl #[.string (rdOf ByteArray.empty y260 x91_3), .int .i64 (rd y264 x98_4), .int .i64 (rd y268 x109_5)] rfl (by (try simp only [List.map_toArray, List.map_cons, List.map_nil]); first | done | rfl | (simp only [List.length_drop, List.length_take]; rfl)) ?_; (with_reducible refine (storagebarterref01_List.calls kj63 (rdOf ByteArray.empty y260 x91_3) (rd y264 x98_4) (rd y268 x109_5) t283 t284 t285 _ A69.out).mono ?_); rintro e w79 ⟨v286, rfl, ho0, hb⟩; refine ⟨_, rfl, ?_⟩; have n0_ := Aside0.mk (Kd.R_below (by (with_reducible repeat (first | apply Kd.R_alloc | apply Kd.R_drewN | apply Kd.R_drew)); exact HO_89.out) hb); have n1_ := Aside0.mk (Kd.R_elder' (by (with_reducible repeat (first | apply Kd.R_alloc | apply Kd.R_drewN | apply Kd.R_drew)); exact HO_96.out) (Kd.R_base ho0) hb); have n2_ := Aside0.mk (Kd.R_elder' (by (with_reducible repeat (first | apply Kd.R_alloc | apply Kd.R_drewN | apply Kd.R_drew)); exact HO_107.out) (Kd.R_base ho0) hb); have n3_ := Aside0.mk (Kd.R_elder' (by (with_reducible repeat (first | apply Kd.R_alloc | apply Kd.R_drewN | apply Kd.R_drew)); exact HO282.out) (Kd.R_base ho0) hb); have n4_ := Aside0.mk (Kd.R_lower (Kd.R_new' (Kd.R_new' (Kd.R_new' ho0 (Kd.R_lt (by (with_reducible repeat (first | apply Kd.R_alloc | apply Kd.R_drewN | apply Kd.R_drew)); exact HO_96.out))) (Kd.R_lt (by (with_reducible repeat (first | apply Kd.R_alloc | apply Kd.R_drewN | apply Kd.R_drew)); exact HO_107.out))) (Kd.R_lt (by (with_reducible repeat (first | apply Kd.R_alloc | apply Kd.R_drewN | apply Kd.R_drew)); exact HO282.out))) (below_size (by repeat (first | (with_reducible first | exact HB.out | apply below_alloc | apply pw_below_drewN | apply below_drew1) | exact HB.out)))); have n5_ := Aside0.mk (below_step (by repeat (first | (with_reducible first | exact HB.out | apply below_alloc | apply pw_below_drewN | apply below_drew1) | exact HB.out)) hb); clear HO_89; clear HO_96; clear HO_107; clear HO282; clear HB; have HO_89 := n0_; have HO_96 := n1_; have HO_107 := n2_; have HO282 := n3_; have HO287 := n4_; have HB := n5_; clear n0_ n1_ n2_ n3_ n4_ n5_; (try clear hb); (try clear hb2); (try clear hk); (try clear hi); (try clear ho0); obtain ⟨Ao80, co80, eo80⟩ := Kd.R_slice HO282.out; subst eo80; obtain ⟨Ao81, co81, eo81⟩ := Kd.R_slice HO287.out; subst eo81) | ((with_reducible refine gate_callee (f := 39) rfl ?_); refine goesL_ (some 160) rfl rfl Try.func39 (by kernel_rfl) rfl #[.slice Ao80 t278.length co80, .slice Ao81 t283.length co81] rfl (by (try simp only [List.map_toArray, List.map_cons, List.map_nil]); first | done | rfl | (simp only [List.length_drop, List.length_take]; rfl)) ?_; (with_reducible refine (storagebarterref01_Same.calls kj63 _ _ t278 _ _ t283 true _ ?side1 ?side2 ?side3 ?side4 A70.out).mono ?_); (case side1 => repeat (first | exact (Kd.R_reads' HO282.out).2.2 | (with_reducible refine Kd.C_alloc ?_ _) | (with_reducible refine Kd.C_drewN ?_ _) | (with_reducible refine Kd.C_drew ?_))); (case side2 => exact (Kd.R_reads' HO282.out).2.1); (case side3 => repeat (first | exact (Kd.R_reads' HO287.out).2.2 | (with_reducible refine Kd.C_alloc ?_ _) | (with_reducible refine Kd.C_drewN ?_ _) | (with_reducible refine Kd.C_drew ?_))); (case side4 => exact (Kd.R_reads' HO287.out).2.1); rintro e w' ⟨rfl, ⟨nd, rfl⟩⟩; refine ⟨_, rfl, ?_⟩; (try (rw [drewN_self w79]; generalize hq_ : World.drewN w79 _ = w79; have n0_ : Aside0 (Kd.R (Kd.int .i64) 3 w79 w.heap.size (fun k_ => some k_ ≠ (.slice Ao81 t283.length co81 : Value).ownBlock ∧ some k_ ≠ (.slice (some ad271) y268.length co58 : Value).ownBlock ∧ some k_ ≠ (.slice (some ad267) y264.length co52 : Value).ownBlock) (.slice Ao80 t278.length co80) t278) := ⟨by rw [← hq_]; exact (by (with_reducible repeat (first | apply Kd.R_alloc | apply Kd.R_drewN | apply Kd.R_drew)); exact Kd.R_mono HO282.out (fun _ hk => ⟨hk.2, ⟨hk.1.2, hk.1.1.2⟩⟩))⟩; have n1_ : Aside0 (Kd.R (Kd.int .i64) 3 w79 w.heap.size (fun k_ => some k_ ≠ (.slice Ao80 t278.length co80 : Value).ownBlock ∧ some k_ ≠ (.slice (some ad271) y268.length co58 : Value).ownBlock ∧ some k_ ≠ (.slice (some ad267) y264.length co52 : Value).ownBlock) (.slice Ao81 t283.length co81) t283) := ⟨by rw [← hq_]; exact (by (with_reducible repeat (first | apply Kd.R_alloc | apply Kd.R_drewN | apply Kd.R_drew)); exact Kd.R_mono HO287.out (fun _ hk => ⟨hk.2, ⟨hk.1.2, hk.1.1.2⟩⟩))⟩; have n2_ : Aside0 (Kd.R (Kd.int .i64) 3 w79 w.heap.size (fun k_ => some k_ ≠ (.slice Ao80 t278.length co80 : Value).ownBlock ∧ some k_ ≠ (.slice Ao81 t283.length co81 : Value).ownBlock ∧ some k_ ≠ (.slice (some ad267) y264.length co52 : Value).ownBlock) (.slice (some ad271) y268.length co58) y268) := ⟨by rw [← hq_]; exact (by (with_reducible repeat (first | apply Kd.R_alloc | apply Kd.R_drewN | apply Kd.R_drew)); exact Kd.R_mono HO_107.out (fun _ hk => ⟨hk.1.2, ⟨hk.2, hk.1.1⟩⟩))⟩; have n3_ : Aside0 (Kd.R Kd.string 9 w79 w.heap.size (fun _ => True) (.slice (some ad263) y260.length co46) y260) := ⟨by rw [← hq_]; exact (by (with_reducible repeat (first | apply Kd.R_alloc | apply Kd.R_drewN | apply Kd.R_drew)); exact HO_89.out)⟩; have n4_ : Aside0 (Kd.R (Kd.int .i64) 3 w79 w.heap.size (fun k_ => some k_ ≠ (.slice Ao80 t278.length co80 : Value).ownBlock ∧ some k_ ≠ (.slice Ao81 t283.length co81 : Value).ownBlock ∧ some k_ ≠ (.slice (some ad271) y268.length co58 : Value).ownBlock) (.slice (some ad267) y264.length co52) y264) := ⟨by rw [← hq_]; exact (by (with_reducible repeat (first | apply Kd.R_alloc | apply Kd.R_drewN | apply Kd.R_drew)); exact Kd.R_mono HO_96.out (fun _ hk => ⟨hk.1.2, ⟨hk.2, hk.1.1⟩⟩))⟩; have n5_ : Aside0 (Below w.heap.size w w79) := ⟨by rw [← hq_]; exact (by repeat (first | (with_reducible first | exact HB.out | apply below_alloc | apply pw_below_drewN | apply below_drew1) | exact HB.out))⟩; clear HO282 HO287 HO_107 HO_89 HO_96 HB hq_; have HO282 := n0_; have HO287 := n1_; have HO_107 := n2_; have HO_89 := n3_; have HO_96 := n4_; have HB := n5_; clear n0_ n1_ n2_ n3_ n4_ n5_))))
                                                                            go_ret
                                                                            exact ⟨by first | rfl | (simp [errW_none, errW_some] <;> rfl) | (simp only [← hji30, ← hji35]; first | rfl | (simp [errW_none, errW_some] <;> rfl)) | (simp [*, errW_none, errW_some] <;> rfl), by repeat (first | (with_reducible first | exact HB.out | apply below_alloc | apply pw_below_drewN | apply below_drew1) | exact HB.out)⟩
                                                                        · rw [if_neg c72] at H
                                                                          have c72b0 : (t279 == t284) = false := beq_eq_false_iff_ne.mpr c72
                                                                          have c72b1 : (t279 != t284) = true := bne_iff_ne.mpr c72
                                                                          obtain rfl := Option.some.inj H
                                                                          go_wp2_with (first | ((with_reducible refine gate_callee (f := 37) rfl ?_); refine goesL_ (some 146) rfl rfl Try.func37 (by kernel_rfl) rfl #[.string (rdOf ByteArray.empty y260 x91_3), .int .i64 (rd y264 x98_4), .int .i64 (rd y268 x109_5)] rfl (by (try simp only [List.map_toArray, List.map_cons, List.map_nil]); first | done | rfl | (simp only [List.length_drop, List.length_take]; rfl)) ?_; (with_reducible refine (wire_List.calls kj63 (rdOf ByteArray.empty y260 x91_3) (rd y264 x98_4) (rd y268 x109_5) t278 t279 t280 _ A68.out).mono ?_); rintro e w82 ⟨v281, rfl, ho0, hb⟩; refine ⟨_, rfl, ?_⟩; have n0_ := Aside0.mk (Kd.R_below (by (with_reducible repeat (first | apply Kd.R_alloc | apply Kd.R_drewN | apply Kd.R_drew)); exact HO_89.out) hb); have n1_ := Aside0.mk (Kd.R_elder' (by (with_reducible repeat (first | apply Kd.R_alloc | apply Kd.R_drewN | apply Kd.R_drew)); exact HO_96.out) (Kd.R_base ho0) hb); have n2_ := Aside0.mk (Kd.R_elder' (by (with_reducible repeat (first | apply Kd.R_alloc | apply Kd.R_drewN | apply Kd.R_drew)); exact HO_107.out) (Kd.R_base ho0) hb); have n3_ := Aside0.mk (Kd.R_lower (Kd.R_new' (Kd.R_new' ho0 (Kd.R_lt (by (with_reducible repeat (first | apply Kd.R_alloc | apply Kd.R_drewN | apply Kd.R_drew)); exact HO_96.out))) (Kd.R_lt (by (with_reducible repeat (first | apply Kd.R_alloc | apply Kd.R_drewN | apply Kd.R_drew)); exact HO_107.out))) (below_size (by repeat (first | (with_reducible first | exact HB.out | apply below_alloc | apply pw_below_drewN | apply below_drew1) | exact HB.out)))); have n4_ := Aside0.mk (below_step (by repeat (first | (with_reducible first | exact HB.out | apply below_alloc | apply pw_below_drewN | apply below_drew1) | exact HB.out)) hb); clear HO_89; clear HO_96; clear HO_107; clear HB; have HO_89 := n0_; have HO_96 := n1_; have HO_107 := n2_; have HO282 := n3_; have HB := n4_; clear n0_ n1_ n2_ n3_ n4_; (try clear hb); (try clear hb2); (try clear hk); (try clear hi); (try clear ho0)) | ((with_reducible refine gate_callee (f := 38) rfl ?_); refine goesL_ (some 154) rfl rfl Try.func38 (by kernel_rfl) rfl #[.string (rdOf ByteArray.empty y260 x91_3), .int .i64 (rd y264 x98_4), .int .i64 (rd y268 x109_5)] rfl (by (try simp only [List.map_toArray, List.map_cons, List.map_nil]); first | done | rfl | (simp only [List.length_drop, List.length_take]; rfl)) ?_; (with_reducible refine (storagebarterref01_List.calls kj63 (rdOf ByteArray.empty y260 x91_3) (rd y264 x98_4) (rd y268 x109_5) t283 t284 t285 _ A69.out).mono ?_); rintro e w83 ⟨v286, rfl, ho0, hb⟩; refine ⟨_, rfl, ?_⟩; have n0_ := Aside0.mk (Kd.R_below (by (with_reducible repeat (first | apply Kd.R_alloc | apply Kd.R_drewN | apply Kd.R_drew)); exact HO_89.out) hb); have n1_ := Aside0.mk (Kd.R_elder' (by (with_reducible repeat (first | apply Kd.R_alloc | apply Kd.R_drewN | apply Kd.R_drew)); exact HO_96.out) (Kd.R_base ho0) hb); have n2_ := Aside0.mk (Kd.R_elder' (by (with_reducible repeat (first | apply Kd.R_alloc | apply Kd.R_drewN | apply Kd.R_drew)); exact HO_107.out) (Kd.R_base ho0) hb); have n3_ := Aside0.mk (Kd.R_elder' (by (with_reducible repeat (first | apply Kd.R_alloc | apply Kd.R_drewN | apply Kd.R_drew)); exact HO282.out) (Kd.R_base ho0) hb); have n4_ := Aside0.mk (Kd.R_lower (Kd.R_new' (Kd.R_new' (Kd.R_new' ho0 (Kd.R_lt (by (with_reducible repeat (first | apply Kd.R_alloc | apply Kd.R_drewN | apply Kd.R_drew)); exact HO_96.out))) (Kd.R_lt (by (with_reducible repeat (first | apply Kd.R_alloc | apply Kd.R_drewN | apply Kd.R_drew)); exact HO_107.out))) (Kd.R_lt (by (with_reducible repeat (first | apply Kd.R_alloc | apply Kd.R_drewN | apply Kd.R_drew)); exact HO282.out))) (below_size (by repeat (first | (with_reducible first | exact HB.out | apply below_alloc | apply pw_below_drewN | apply below_drew1) | exact HB.out)))); have n5_ := Aside0.mk (below_step (by repeat (first | (with_reducible first | exact HB.out | apply below_alloc | apply pw_below_drewN | apply below_drew1) | exact HB.out)) hb); clear HO_89; clear HO_96; clear HO_107; clear HO282; clear HB; have HO_89 := n0_; have HO_96 := n1_; have HO_107 := n2_; have HO282 := n3_; have HO287 := n4_; have HB := n5_; clear n0_ n1_ n2_ n3_ n4_ n5_; (try clear hb); (try clear hb2); (try clear hk); (try clear hi); (try clear ho0); obtain ⟨Ao84, co84, eo84⟩ := Kd.R_slice HO282.out; subst eo84; obtain ⟨Ao85, co85, eo85⟩ := Kd.R_slice HO287.out; subst eo85) | ((with_reducible refine gate_callee (f := 39) rfl ?_); refine goesL_ (some 160) rfl rfl Try.func39 (by kernel_rfl) rfl #[.slice Ao84 t278.length co84, .slice Ao85 t283.length co85] rfl (by (try simp only [List.map_toArray, List.map_cons, List.map_nil]); first | done | rfl | (simp only [List.length_drop, List.length_take]; rfl)) ?_; (with_reducible refine (storagebarterref01_Same.calls kj63 _ _ t278 _ _ t283 true _ ?side1 ?side2 ?side3 ?side4 A70.out).mono ?_); (case side1 => repeat (first | exact (Kd.R_reads' HO282.out).2.2 | (with_reducible refine Kd.C_alloc ?_ _) | (with_reducible refine Kd.C_drewN ?_ _) | (with_reducible refine Kd.C_drew ?_))); (case side2 => exact (Kd.R_reads' HO282.out).2.1); (case side3 => repeat (first | exact (Kd.R_reads' HO287.out).2.2 | (with_reducible refine Kd.C_alloc ?_ _) | (with_reducible refine Kd.C_drewN ?_ _) | (with_reducible refine Kd.C_drew ?_))); (case side4 => exact (Kd.R_reads' HO287.out).2.1); rintro e w' ⟨rfl, ⟨nd, rfl⟩⟩; refine ⟨_, rfl, ?_⟩; (try (rw [drewN_self w83]; generalize hq_ : World.drewN w83 _ = w83; have n0_ : Aside0 (Kd.R (Kd.int .i64) 3 w83 w.heap.size (fun k_ => some k_ ≠ (.slice Ao85 t283.length co85 : Value).ownBlock ∧ some k_ ≠ (.slice (some ad271) y268.length co58 : Value).ownBlock ∧ some k_ ≠ (.slice (some ad267) y264.length co52 : Value).ownBlock) (.slice Ao84 t278.length co84) t278) := ⟨by rw [← hq_]; exact (by (with_reducible repeat (first | apply Kd.R_alloc | apply Kd.R_drewN | apply Kd.R_drew)); exact Kd.R_mono HO282.out (fun _ hk => ⟨hk.2, ⟨hk.1.2, hk.1.1.2⟩⟩))⟩; have n1_ : Aside0 (Kd.R (Kd.int .i64) 3 w83 w.heap.size (fun k_ => some k_ ≠ (.slice Ao84 t278.length co84 : Value).ownBlock ∧ some k_ ≠ (.slice (some ad271) y268.length co58 : Value).ownBlock ∧ some k_ ≠ (.slice (some ad267) y264.length co52 : Value).ownBlock) (.slice Ao85 t283.length co85) t283) := ⟨by rw [← hq_]; exact (by (with_reducible repeat (first | apply Kd.R_alloc | apply Kd.R_drewN | apply Kd.R_drew)); exact Kd.R_mono HO287.out (fun _ hk => ⟨hk.2, ⟨hk.1.2, hk.1.1.2⟩⟩))⟩; have n2_ : Aside0 (Kd.R (Kd.int .i64) 3 w83 w.heap.size (fun k_ => some k_ ≠ (.slice Ao84 t278.length co84 : Value).ownBlock ∧ some k_ ≠ (.slice Ao85 t283.length co85 : Value).ownBlock ∧ some k_ ≠ (.slice (some ad267) y264.length co52 : Value).ownBlock) (.slice (some ad271) y268.length co58) y268) := ⟨by rw [← hq_]; exact (by (with_reducible repeat (first | apply Kd.R_alloc | apply Kd.R_drewN | apply Kd.R_drew)); exact Kd.R_mono HO_107.out (fun _ hk => ⟨hk.1.2, ⟨hk.2, hk.1.1⟩⟩))⟩; have n3_ : Aside0 (Kd.R Kd.string 9 w83 w.heap.size (fun _ => True) (.slice (some ad263) y260.length co46) y260) := ⟨by rw [← hq_]; exact (by (with_reducible repeat (first | apply Kd.R_alloc | apply Kd.R_drewN | apply Kd.R_drew)); exact HO_89.out)⟩; have n4_ : Aside0 (Kd.R (Kd.int .i64) 3 w83 w.heap.size (fun k_ => some k_ ≠ (.slice Ao84 t278.length co84 : Value).ownBlock ∧ some k_ ≠ (.slice Ao85 t283.length co85 : Value).ownBlock ∧ some k_ ≠ (.slice (some ad271) y268.length co58 : Value).ownBlock) (.slice (some ad267) y264.length co52) y264) := ⟨by rw [← hq_]; exact (by (with_reducible repeat (first | apply Kd.R_alloc | apply Kd.R_drewN | apply Kd.R_drew)); exact Kd.R_mono HO_96.out (fun _ hk => ⟨hk.1.2, ⟨hk.2, hk.1.1⟩⟩))⟩; have n5_ : Aside0 (Below w.heap.size w w83) := ⟨by rw [← hq_]; exact (by repeat (first | (with_reducible first | exact HB.out | apply below_alloc | apply pw_below_drewN | apply below_drew1) | exact HB.out))⟩; clear HO282 HO287 HO_107 HO_89 HO_96 HB hq_; have HO282 := n0_; have HO287 := n1_; have HO_107 := n2_; have HO_89 := n3_; have HO_96 := n4_; have HB := n5_; clear n0_ n1_ n2_ n3_ n4_ n5_))))
                                                                          go_ret
                                                                          exact ⟨by first | rfl | (simp [errW_none, errW_some] <;> rfl) | (simp only [← hji30, ← hji35]; first | rfl | (simp [errW_none, errW_some] <;> rfl)) | (simp [*, errW_none, errW_some] <;> rfl), by repeat (first | (with_reducible first | exact HB.out | apply below_alloc | apply pw_below_drewN | apply below_drew1) | exact HB.out)⟩
                                                                      · replace c71 := Bool.eq_false_iff.mpr c71
                                                                        subst c71
                                                                        have H1 : (some false) = some r := by rw [if_neg (show ¬ (false = true) by decide)] at H; exact H
                                                                        clear H
                                                                        have H := H1
                                                                        clear H1
                                                                        obtain rfl := Option.some.inj H
                                                                        go_wp2_with (first | ((with_reducible refine gate_callee (f := 37) rfl ?_); refine goesL_ (some 146) rfl rfl Try.func37 (by kernel_rfl) rfl #[.string (rdOf ByteArray.empty y260 x91_3), .int .i64 (rd y264 x98_4), .int .i64 (rd y268 x109_5)] rfl (by (try simp only [List.map_toArray, List.map_cons, List.map_nil]); first | done | rfl | (simp only [List.length_drop, List.length_take]; rfl)) ?_; (with_reducible refine (wire_List.calls kj63 (rdOf ByteArray.empty y260 x91_3) (rd y264 x98_4) (rd y268 x109_5) t278 t279 t280 _ A68.out).mono ?_); rintro e w86 ⟨v281, rfl, ho0, hb⟩; refine ⟨_, rfl, ?_⟩; have n0_ := Aside0.mk (Kd.R_below (by (with_reducible repeat (first | apply Kd.R_alloc | apply Kd.R_drewN | apply Kd.R_drew)); exact HO_89.out) hb); have n1_ := Aside0.mk (Kd.R_elder' (by (with_reducible repeat (first | apply Kd.R_alloc | apply Kd.R_drewN | apply Kd.R_drew)); exact HO_96.out) (Kd.R_base ho0) hb); have n2_ := Aside0.mk (Kd.R_elder' (by (with_reducible repeat (first | apply Kd.R_alloc | apply Kd.R_drewN | apply Kd.R_drew)); exact HO_107.out) (Kd.R_base ho0) hb); have n3_ := Aside0.mk (Kd.R_lower (Kd.R_new' (Kd.R_new' ho0 (Kd.R_lt (by (with_reducible repeat (first | apply Kd.R_alloc | apply Kd.R_drewN | apply Kd.R_drew)); exact HO_96.out))) (Kd.R_lt (by (with_reducible repeat (first | apply Kd.R_alloc | apply Kd.R_drewN | apply Kd.R_drew)); exact HO_107.out))) (below_size (by repeat (first | (with_reducible first | exact HB.out | apply below_alloc | apply pw_below_drewN | apply below_drew1) | exact HB.out)))); have n4_ := Aside0.mk (below_step (by repeat (first | (with_reducible first | exact HB.out | apply below_alloc | apply pw_below_drewN | apply below_drew1) | exact HB.out)) hb); clear HO_89; clear HO_96; clear HO_107; clear HB; have HO_89 := n0_; have HO_96 := n1_; have HO_107 := n2_; have HO282 := n3_; have HB := n4_; clear n0_ n1_ n2_ n3_ n4_; (try clear hb); (try clear hb2); (try clear hk); (try clear hi); (try clear ho0)) | ((with_reducible refine gate_callee (f := 38) rfl ?_); refine goesL_ (some 154) rfl rfl Try.func38 (by kernel_rfl) rfl #[.string (rdOf ByteArray.empty y260 x91_3), .int .i64 (rd y264 x98_4), .int .i64 (rd y268 x109_5)] rfl (by (try simp only [List.map_toArray, List.map_cons, List.map_nil]); first | done | rfl | (simp only [List.length_drop, List.length_take]; rfl)) ?_; (with_reducible refine (storagebarterref01_List.calls kj63 (rdOf ByteArray.empty y260 x91_3) (rd y264 x98_4) (rd y268 x109_5) t283 t284 t285 _ A69.out).mono ?_); rintro e w87 ⟨v286, rfl, ho0, hb⟩; refine ⟨_, rfl, ?_⟩; have n0_ := Aside0.mk (Kd.R_below (by (with_reducible repeat (first | apply Kd.R_alloc | apply Kd.R_drewN | apply Kd.R_drew)); exact HO_89.out) hb); have n1_ := Aside0.mk (Kd.R_elder' (by (with_reducible repeat (first | apply Kd.R_alloc | apply Kd.R_drewN | apply Kd.R_drew)); exact HO_96.out) (Kd.R_base ho0) hb); have n2_ := Aside0.mk (Kd.R_elder' (by (with_reducible repeat (first | apply Kd.R_alloc | apply Kd.R_drewN | apply Kd.R_drew)); exact HO_107.out) (Kd.R_base ho0) hb); have n3_ := Aside0.mk (Kd.R_elder' (by (with_reducible repeat (first | apply Kd.R_alloc | apply Kd.R_drewN | apply Kd.R_drew)); exact HO282.out) (Kd.R_base ho0) hb); have n4_ := Aside0.mk (Kd.R_lower (Kd.R_new' (Kd.R_new' (Kd.R_new' ho0 (Kd.R_lt (by (with_reducible repeat (first | apply Kd.R_alloc | apply Kd.R_drewN | apply Kd.R_drew)); exact HO_96.out))) (Kd.R_lt (by (with_reducible repeat (first | apply Kd.R_alloc | apply Kd.R_drewN | apply Kd.R_drew)); exact HO_107.out))) (Kd.R_lt (by (with_reducible repeat (first | apply Kd.R_alloc | apply Kd.R_drewN | apply Kd.R_drew)); exact HO282.out))) (below_size (by repeat (first | (with_reducible first | exact HB.out | apply below_alloc | apply pw_below_drewN | apply below_drew1) | exact HB.out)))); have n5_ := Aside0.mk (below_step (by repeat (first | (with_reducible first | exact HB.out | apply below_alloc | apply pw_below_drewN | apply below_drew1) | exact HB.out)) hb); clear HO_89; clear HO_96; clear HO_107; clear HO282; clear HB; have HO_89 := n0_; have HO_96 := n1_; have HO_107 := n2_; have HO282 := n3_; have HO287 := n4_; have HB := n5_; clear n0_ n1_ n2_ n3_ n4_ n5_; (try clear hb); (try clear hb2); (try clear hk); (try clear hi); (try clear ho0); obtain ⟨Ao88, co88, eo88⟩ := Kd.R_slice HO282.out; subst eo88; obtain ⟨Ao89, co89, eo89⟩ := Kd.R_slice HO287.out; subst eo89) | ((with_reducible refine gate_callee (f := 39) rfl ?_); refine goesL_ (some 160) rfl rfl Try.func39 (by kernel_rfl) rfl #[.slice Ao88 t278.length co88, .slice Ao89 t283.length co89] rfl (by (try simp only [List.map_toArray, List.map_cons, List.map_nil]); first | done | rfl | (simp only [List.length_drop, List.length_take]; rfl)) ?_; (with_reducible refine (storagebarterref01_Same.calls kj63 _ _ t278 _ _ t283 false _ ?side1 ?side2 ?side3 ?side4 A70.out).mono ?_); (case side1 => repeat (first | exact (Kd.R_reads' HO282.out).2.2 | (with_reducible refine Kd.C_alloc ?_ _) | (with_reducible refine Kd.C_drewN ?_ _) | (with_reducible refine Kd.C_drew ?_))); (case side2 => exact (Kd.R_reads' HO282.out).2.1); (case side3 => repeat (first | exact (Kd.R_reads' HO287.out).2.2 | (with_reducible refine Kd.C_alloc ?_ _) | (with_reducible refine Kd.C_drewN ?_ _) | (with_reducible refine Kd.C_drew ?_))); (case side4 => exact (Kd.R_reads' HO287.out).2.1); rintro e w' ⟨rfl, ⟨nd, rfl⟩⟩; refine ⟨_, rfl, ?_⟩; (try (rw [drewN_self w87]; generalize hq_ : World.drewN w87 _ = w87; have n0_ : Aside0 (Kd.R (Kd.int .i64) 3 w87 w.heap.size (fun k_ => some k_ ≠ (.slice Ao89 t283.length co89 : Value).ownBlock ∧ some k_ ≠ (.slice (some ad271) y268.length co58 : Value).ownBlock ∧ some k_ ≠ (.slice (some ad267) y264.length co52 : Value).ownBlock) (.slice Ao88 t278.length co88) t278) := ⟨by rw [← hq_]; exact (by (with_reducible repeat (first | apply Kd.R_alloc | apply Kd.R_drewN | apply Kd.R_drew)); exact Kd.R_mono HO282.out (fun _ hk => ⟨hk.2, ⟨hk.1.2, hk.1.1.2⟩⟩))⟩; have n1_ : Aside0 (Kd.R (Kd.int .i64) 3 w87 w.heap.size (fun k_ => some k_ ≠ (.slice Ao88 t278.length co88 : Value).ownBlock ∧ some k_ ≠ (.slice (some ad271) y268.length co58 : Value).ownBlock ∧ some k_ ≠ (.slice (some ad267) y264.length co52 : Value).ownBlock) (.slice Ao89 t283.length co89) t283) := ⟨by rw [← hq_]; exact (by (with_reducible repeat (first | apply Kd.R_alloc | apply Kd.R_drewN | apply Kd.R_drew)); exact Kd.R_mono HO287.out (fun _ hk => ⟨hk.2, ⟨hk.1.2, hk.1.1.2⟩⟩))⟩; have n2_ : Aside0 (Kd.R (Kd.int .i64) 3 w87 w.heap.size (fun k_ => some k_ ≠ (.slice Ao88 t278.length co88 : Value).ownBlock ∧ some k_ ≠ (.slice Ao89 t283.length co89 : Value).ownBlock ∧ some k_ ≠ (.slice (some ad267) y264.length co52 : Value).ownBlock) (.slice (some ad271) y268.length co58) y268) := ⟨by rw [← hq_]; exact (by (with_reducible repeat (first | apply Kd.R_alloc | apply Kd.R_drewN | apply Kd.R_drew)); exact Kd.R_mono HO_107.out (fun _ hk => ⟨hk.1.2, ⟨hk.2, hk.1.1⟩⟩))⟩; have n3_ : Aside0 (Kd.R Kd.string 9 w87 w.heap.size (fun _ => True) (.slice (some ad263) y260.length co46) y260) := ⟨by rw [← hq_]; exact (by (with_reducible repeat (first | apply Kd.R_alloc | apply Kd.R_drewN | apply Kd.R_drew)); exact HO_89.out)⟩; have n4_ : Aside0 (Kd.R (Kd.int .i64) 3 w87 w.heap.size (fun k_ => some k_ ≠ (.slice Ao88 t278.length co88 : Value).ownBlock ∧ some k_ ≠ (.slice Ao89 t283.length co89 : Value).ownBlock ∧ some k_ ≠ (.slice (some ad271) y268.length co58 : Value).ownBlock) (.slice (some ad267) y264.length co52) y264) := ⟨by rw [← hq_]; exact (by (with_reducible repeat (first | apply Kd.R_alloc | apply Kd.R_drewN | apply Kd.R_drew)); exact Kd.R_mono HO_96.out (fun _ hk => ⟨hk.1.2, ⟨hk.2, hk.1.1⟩⟩))⟩; have n5_ : Aside0 (Below w.heap.size w w87) := ⟨by rw [← hq_]; exact (by repeat (first | (with_reducible first | exact HB.out | apply below_alloc | apply pw_below_drewN | apply below_drew1) | exact HB.out))⟩; clear HO282 HO287 HO_107 HO_89 HO_96 HB hq_; have HO282 := n0_; have HO287 := n1_; have HO_107 := n2_; have HO_89 := n3_; have HO_96 := n4_; have HB := n5_; clear n0_ n1_ n2_ n3_ n4_ n5_))))
                                                                        go_ret
                                                                        exact ⟨by first | rfl | (simp [errW_none, errW_some] <;> rfl) | (simp only [← hji30, ← hji35]; first | rfl | (simp [errW_none, errW_some] <;> rfl)) | (simp [*, errW_none, errW_some] <;> rfl), by repeat (first | (with_reducible first | exact HB.out | apply below_alloc | apply pw_below_drewN | apply below_drew1) | exact HB.out)⟩
                                                              · rw [if_neg c61] at H
                                                                exact absurd H (by simp)
                                                            · rw [if_neg c60] at H
                                                              exact absurd H (by simp)
                                                          · rw [if_neg c59] at H
                                                            have c59b0 : decide (x109_5 < (y268.length : Int)) = false := decide_eq_false c59
                                                            clear c59
                                                            have H' := Aside0.mk H
                                                            clear H
                                                            go_wp2
                                                            go_roundg k5
                                                            case measure => have := HJ8.out; have := HJ12.out; have := HK3.out; have := HK4.out; have := HK5.out; omega
                                                            case rel => exact ⟨(wrap64 (x98_4 + 1)), (by first | rfl | (simp; done) | (simp [*]; done)), H', ⟨by have := HJ8.out; have := HJ12.out; have := HK3.out; have := HK4.out; have := HK5.out; omega⟩, ⟨by (with_reducible repeat (first | apply Kd.R_alloc | apply Kd.R_drewN | apply Kd.R_drew)); exact HO_89.out⟩, ⟨by (with_reducible repeat (first | apply Kd.R_alloc | apply Kd.R_drewN | apply Kd.R_drew)); exact Kd.R_mono HO_96.out (fun _ hk => trivial)⟩, ⟨by repeat (first | (with_reducible first | exact HB.out | apply below_alloc | apply pw_below_drewN | apply below_drew1) | exact HB.out)⟩⟩
                                                    · rw [if_neg c55] at H
                                                      exact absurd H (by simp)
                                                  · rw [if_neg c54] at H
                                                    exact absurd H (by simp)
                                                · rw [if_neg c53] at H
                                                  have c53b0 : decide (x98_4 < (y264.length : Int)) = false := decide_eq_false c53
                                                  clear c53
                                                  have H' := Aside0.mk H
                                                  clear H
                                                  go_wp2
                                                  go_roundg k4
                                                  case measure => have := HJ8.out; have := HJ12.out; have := HK3.out; have := HK4.out; omega
                                                  case rel => exact ⟨(wrap64 (x91_3 + 1)), (by first | rfl | (simp; done) | (simp [*]; done)), H', ⟨by have := HJ8.out; have := HJ12.out; have := HK3.out; have := HK4.out; omega⟩, ⟨by (with_reducible repeat (first | apply Kd.R_alloc | apply Kd.R_drewN | apply Kd.R_drew)); exact HO_89.out⟩, ⟨by repeat (first | (with_reducible first | exact HB.out | apply below_alloc | apply pw_below_drewN | apply below_drew1) | exact HB.out)⟩⟩
                                          · rw [if_neg c49] at H
                                            exact absurd H (by simp)
                                        · rw [if_neg c48] at H
                                          exact absurd H (by simp)
                                      · rw [if_neg c47] at H
                                        have c47b0 : decide (x91_3 < (y260.length : Int)) = false := decide_eq_false c47
                                        clear c47
                                        obtain rfl := Option.some.inj H
                                        go_wp2
                                        go_ret
                                        exact ⟨by first | rfl | (simp [errW_none, errW_some] <;> rfl) | (simp only [← hji30, ← hji35]; first | rfl | (simp [errW_none, errW_some] <;> rfl)) | (simp [*, errW_none, errW_some] <;> rfl), by repeat (first | (with_reducible first | exact HB.out | apply below_alloc | apply pw_below_drewN | apply below_drew1) | exact HB.out)⟩
                                · rw [if_neg c39] at H
                                  exact absurd H (by simp)
                              · rw [if_neg c37] at H
                                exact absurd H (by simp)
                            · rw [if_neg c36] at H
                              exact absurd H (by simp)
                        · rw [if_neg c33] at H
                          exact absurd H (by simp)
                      · rw [if_neg c32] at H
                        exact absurd H (by simp)
                    · rw [if_neg c31] at H
                      exact absurd H (by simp)
                · rw [if_neg c28] at H
                  exact absurd H (by simp)
  · replace c8 := Bool.eq_false_iff.mpr c8
    subst c8
    have H1 : (some false) = some r := by rw [if_neg (show ¬ (false = true) by decide)] at H; exact H
    clear H
    have H := H1
    clear H1
    obtain rfl := Option.some.inj H
    go_enter Try.func7, Try.ntmps7
    go_wp2_with (first | ((with_reducible refine gate_callee (f := 13) rfl ?_); refine goesL_ (some 29) rfl rfl Try.func13 (by kernel_rfl) rfl #[] rfl (by (try simp only [List.map_toArray, List.map_cons, List.map_nil]); first | done | rfl | (simp only [List.length_drop, List.length_take]; rfl)) ?_; (with_reducible refine (storagebarterlaw01_sane.calls k  false _ A7.out).mono ?_); rintro e w90 ⟨rfl, hb⟩; refine ⟨_, rfl, ?_⟩; have n0_ := Aside0.mk (below_step (by repeat (first | (with_reducible first | exact HB.out | apply below_alloc | apply pw_below_drewN | apply below_drew1) | exact HB.out)) hb); clear HB; have HB := n0_; clear n0_; (try clear hb); (try clear hb2); (try clear hk); (try clear hi)))
    go_ret
    exact ⟨by first | rfl | (simp [errW_none, errW_some] <;> rfl) | (simp [*, errW_none, errW_some] <;> rfl), by repeat (first | (with_reducible first | exact HB.out | apply below_alloc | apply pw_below_drewN | apply below_drew1) | exact HB.out)⟩

/-- THE ONE PURE STATEMENT of storagebarterlaw01_WireTexts: yours. -/
def storagebarterlaw01_WireTexts.Pure : Prop := ∀ (a0 : ByteArray) (a1 : ByteArray) (l2 : List Int) (a3 : Int) (a4 : Int) (a5 : Int), a0.size ≤ 140737488351232 → a1.size ≤ 140737488351232 → l2.length ≤ maxLen → l2.length * 8 ≤ 140737488351232 → (∀ x ∈ l2, (Lit.int .i64 x).wf = true) → (Lit.int .i64 a3).wf = true → (Lit.int .i64 a4).wf = true → (Lit.int .u8 a5).wf = true → ∃ k, storagebarterlaw01_WireTexts.f k a0 a1 l2 a3 a4 a5 = some true
theorem storagebarterlaw01_WireTexts.walk (P : storagebarterlaw01_WireTexts.Pure) (a0 : ByteArray) (a1 : ByteArray) (a2 : Option Addr) (len2 cap2 : Nat) (z2 : List Int) (a3 : Int) (a4 : Int) (a5 : Int) (w : World) (w0 : a0.size ≤ 140737488351232) (w1 : a1.size ≤ 140737488351232) (w2 : (a2 = none ∧ len2 = 0 ∧ cap2 = 0 ∧ z2 = []) ∨ ∃ x, a2 = some x ∧ len2 ≤ cap2 ∧ cap2 ≤ maxLen ∧ z2.length = cap2 ∧ (∀ i, i < z2.length → w.cell? (x.add i) = some (.int .i64 (z2.getD i 0))) ∧ ∀ n ∈ z2, (Lit.int .i64 n).wf = true) (y2 : len2 * 8 ≤ 140737488351232) (w3 : (Lit.int .i64 a3).wf = true) (w4 : (Lit.int .i64 a4).wf = true) (w5 : (Lit.int .u8 a5).wf = true) :
    Calls Try.prog 7 #[.string a0, .string a1, .slice a2 len2 cap2, .int .i64 a3, .int .i64 a4, .int .u8 a5] w fun e w' => e = .returned (.bool true) ∧ Below w.heap.size w w' := by
  obtain ⟨l2, rfl, hr2, hm2, hw2, hc2⟩ := ReadsInt.ofRowC w2
  obtain ⟨k, h⟩ := P a0 a1 l2 a3 a4 a5 w0 w1 hm2 y2 hw2 w3 w4 w5
  refine (storagebarterlaw01_WireTexts.calls k a0 a1 _ _ l2 a3 a4 a5 true w (Kd.C_of_reads (d := (0 : Int)) (h1 := fun _ => rfl) hr2) hc2 h).mono ?_
  rintro e w' ⟨rfl, hd⟩
  exact ⟨rfl, hd⟩

end Go.Proofs.Ytpebhbhdkmpjeaa.Q

/- The printed functions of 'wire' and of its reference, in plain words: what bytes mean as a number. -/
namespace Go.Proofs.Ytpebhbhdkmpjeaa.Gwa
open Go Go.RowKit Go.Proofs.Ytpebhbhdkmpjeaa.Gm Go.Proofs.Ytpebhbhdkmpjeaa.Q Go.Proofs.Ytpebhbhdkmpjeaa.Gput Go.Proofs.YtpebhbhdkmpjeaaW.PrintWords Go.Proofs.YtpebhbhdkmpjeaaW.PrintLast Go.Proofs.YtpebhbhdkmpjeaaW.PrintMore
set_option linter.unusedVariables false

theorem wrap_u64 (x : Int) : IntKind.u64.wrap x = x % 18446744073709551616 := by simp [IntKind.wrap, IntKind.bits, IntKind.signed]
theorem wraps_u64 (n : Int) (h₀ : 0 ≤ n) (h₁ : n < 2 ^ 64) : IntKind.u64.wrap n = n := by rw [wrap_u64]; omega

theorem w64 {x : Int} (h : -9223372036854775808 ≤ x ∧ x ≤ 9223372036854775807) : wrap64 x = x := by unfold wrap64; omega

theorem u8_and127 (x : Int) (h₀ : 0 ≤ x) (h₁ : x < 256) : bits .and .u8 x 127 = x % 128 := bits_mask .u8 8 (by decide) wraps_u8 7 (by decide) x h₀ h₁
theorem u64_and1 (x : Int) (h₀ : 0 ≤ x) (h₁ : x < 18446744073709551616) : bits .and .u64 x 1 = x % 2 := bits_mask .u64 64 (by decide) wraps_u64 1 (by decide) x h₀ h₁

theorem or_comm64 (a b : Nat) (ha : a < 2 ^ 64) (hb : b < 2 ^ 64) : bits .or .u64 (a : Int) (b : Int) = bits .or .u64 (b : Int) (a : Int) := by
  rw [(bits_nat .u64 64 (by decide) wraps_u64 a b ha hb).2, (bits_nat .u64 64 (by decide) wraps_u64 b a hb ha).2, Nat.or_comm]

theorem pow128 (i : Nat) : (128 : Nat) ^ i = 2 ^ (7 * i) := by rw [Nat.pow_mul]

theorem mul_lt64 {i b : Nat} (hi : i ≤ 9) (hb : i = 9 → b ≤ 1) : b % 128 * 128 ^ i + 128 ^ i ≤ 18446744073709551616 := by
  obtain ⟨m, hm, hm2, hm9⟩ := pow_split hi
  rw [hm, ← Nat.succ_mul, Nat.mul_comm]
  refine Nat.mul_le_mul_left _ ?_
  rcases Nat.lt_or_ge i 9 with h | h
  · have := hm9 h; omega
  · have := hb (by omega); omega

theorem shl_part (b i : Nat) (h256 : b < 256) (hi : i ≤ 9) (hb : i = 9 → b ≤ 1) : shl .u64 (IntKind.u64.wrap (bits .and .u8 (b : Int) 127)) (wrap64 (7 * (i : Int))) = ((b % 128 * 128 ^ i : Nat) : Int) := by
  have hlt := mul_lt64 hi hb
  have hpos : 0 < 128 ^ i := Nat.pow_pos (by decide)
  rw [u8_and127 _ (by omega) (by omega), w64 (by omega), wrap_u64]
  unfold shl
  have e1 : ((b : Int) % 128 % 18446744073709551616) = ((b % 128 : Nat) : Int) := by omega
  have e2 : min (7 * (i : Int)).toNat IntKind.u64.bits = 7 * i := by
    have : IntKind.u64.bits = 64 := rfl
    omega
  rw [e1, e2, wrap_u64]
  have e3 : ((b % 128 : Nat) : Int) * 2 ^ (7 * i) = ((b % 128 * 128 ^ i : Nat) : Int) := by
    rw [pow128, Int.natCast_mul, Int.natCast_pow]
    rfl
  rw [e3]
  omega

theorem or_part (u b i : Nat) (h256 : b < 256) (hi : i ≤ 9) (hb : i = 9 → b ≤ 1) (hu : u < 128 ^ i) :
    bits .or .u64 (u : Int) ((b % 128 * 128 ^ i : Nat) : Int) = ((u + b % 128 * 128 ^ i : Nat) : Int) := by
  have hlt := mul_lt64 hi hb
  have hpos : 0 < 128 ^ i := Nat.pow_pos (by decide)
  have h64 : (18446744073709551616 : Nat) = 2 ^ 64 := by decide
  have hx : b % 128 * 128 ^ i < 2 ^ 64 := by rw [← h64]; omega
  have hu64 : u < 2 ^ 64 := by rw [← h64]; omega
  rw [or_comm64 _ _ hu64 hx]
  have hj := bits_join .u64 64 (by decide) wraps_u64 (7 * i) ((b % 128 * 128 ^ i : Nat) : Int) (u : Int) (by omega)
    (by rw [pow128]; have : ((2 : Int) ^ (7 * i)) = ((2 ^ (7 * i) : Nat) : Int) := by simp
        rw [this, ← Int.natCast_emod, Nat.mul_mod_left]; rfl)
    (by exact_mod_cast hx) (by omega) (by rw [pow128] at hu; exact_mod_cast hu) (by exact_mod_cast hu64)
  rw [hj]
  omega

theorem bits_xor64i (a b : Int) : bits .xor .i64 a b = IntKind.i64.wrap ((BitVec.ofInt 64 a ^^^ BitVec.ofInt 64 b).toNat : Int) := rfl

theorem unzig_bits (U : Nat) (h : U < 18446744073709551616) : bits .xor .i64 (wrap64 ((U : Int) / 2)) (wrap64 (-(wrap64 (bits .and .u64 (U : Int) 1)))) = unzig U := by
  rw [u64_and1 _ (by omega) (by omega), w64 (x := (U : Int) / 2) (by omega), w64 (x := (U : Int) % 2) (by omega), w64 (by omega)]
  have ex : ((U : Int) / 2) = ((U / 2 : Nat) : Int) := by omega
  rw [ex, bits_xor64i, BitVec.ofInt_natCast]
  have hlt : U / 2 < 2 ^ 64 := by omega
  unfold unzig
  rcases Nat.mod_two_eq_zero_or_one U with h0 | h1
  · have e0 : (-((U : Int) % 2)) = ((0 : Nat) : Int) := by omega
    rw [e0, BitVec.ofInt_natCast, BitVec.toNat_xor, BitVec.toNat_ofNat, BitVec.toNat_ofNat, Nat.mod_eq_of_lt hlt, Nat.zero_mod, Nat.xor_zero, IntKind.wrap_i64, if_pos h0]
    omega
  · have e1 : (-((U : Int) % 2)) = -1 := by omega
    have hn : BitVec.ofInt 64 (-1) = BitVec.allOnes 64 := by decide
    rw [e1, hn, BitVec.xor_allOnes, BitVec.toNat_not, BitVec.toNat_ofNat, Nat.mod_eq_of_lt hlt, IntKind.wrap_i64, if_neg (by omega)]
    omega

/-- What is told of the bytes from an index on. -/
def told (a : Int) : Nat × Nat × Nat → Int × Int × Int
  | (u, n, 0) => (unzig u, a + n, 0)
  | (_, _, e) => (0, 0, e)

def intAt (s : ByteArray) (a : Int) : Int × Int × Int :=
  if a < 0 ∨ a > s.size then (0, 0, 1) else told a (rdU 0 0 (s.data.toList.drop a.toNat))

theorem bt_at (s : ByteArray) (a : Nat) (h : a < s.size) : bt s (a : Int) = ((s.data.toList.drop a).headD 0).toNat := by
  have h' : a < s.data.size := h
  unfold bt
  rw [dif_pos (by simpa using h)]
  simp only [Int.toNat_natCast]
  rw [List.drop_eq_getElem_cons (by simpa using h')]
  rfl

theorem drop_at (s : ByteArray) (a : Nat) (h : a < s.size) : s.data.toList.drop a = UInt8.ofNat (bt s (a : Int)).toNat :: s.data.toList.drop (a + 1) := by
  have h' : a < s.data.size := h
  rw [bt_at s a h, List.drop_eq_getElem_cons (by simpa using h')]
  simp

theorem bt_lt (s : ByteArray) (i : Int) : 0 ≤ bt s i ∧ bt s i < 256 := by
  unfold bt
  split
  · have := (s[i.toNat]).toNat_lt; omega
  · omega

set_option maxHeartbeats 1000000 in
theorem wire_Int_l0 (s : ByteArray) (a : Nat) (hs : s.size ≤ 9223372036854775000) : ∀ (d i u k : Nat), 9 - i = d → i ≤ 9 → a + i ≤ s.size → u < 128 ^ i → 2 * d + 3 ≤ k →
    wire_Int.l0 k s a u i = some (told a (rdU i u (s.data.toList.drop (a + i)))) := by
  intro d
  induction d with
  | zero =>
    intro i u k hd hi ha hu hk
    obtain rfl : i = 9 := by omega
    obtain ⟨k, rfl⟩ : ∃ m, k = m + 2 := ⟨k - 2, by omega⟩
    have ew : wrap64 ((a : Int) + ((9 : Nat) : Int)) = ((a + 9 : Nat) : Int) := by rw [w64 (by omega)]; omega
    simp only [wire_Int.l0]
    rw [ew]
    by_cases hend : a + 9 = s.size
    · rw [if_pos (by omega), List.drop_of_length_le (by rw [Array.length_toList]; exact Nat.le_of_eq hend.symm)]
      rfl
    · have hlt : a + 9 < s.size := by omega
      have hb := bt_lt s ((a + 9 : Nat) : Int)
      obtain ⟨b, hbn⟩ : ∃ b : Nat, bt s ((a + 9 : Nat) : Int) = b := ⟨(bt s ((a + 9 : Nat) : Int)).toNat, by omega⟩
      rw [if_neg (by omega), if_pos (by omega), if_pos (by omega), drop_at s _ hlt, hbn, rdU, Int.toNat_natCast, u8_ofNat b (by omega), if_pos (by omega)]
      by_cases h1 : 1 < b
      · rw [if_pos (by omega), if_pos (.inl ⟨rfl, h1⟩)]
        simp only [wire_Int.j2]
        rfl
      · rw [if_neg (by omega), if_pos (by omega)]
        by_cases h0 : b = 0
        · rw [if_pos (.inr ⟨by omega, h0⟩)]
          subst h0
          simp only [wire_Int.j2]
          rfl
        · have hb0 : ((b : Int) == 0) = false := by simp; omega
          rw [if_neg (by omega), if_pos (by omega), hb0]
          simp only [wire_Int.j2]
          rw [if_neg (by simp), if_pos (by rw [w64 (by omega)]; omega), if_pos (by omega), shl_part b 9 (by omega) (by omega) (fun _ => by omega), or_part u b 9 (by omega) (by omega) (fun _ => by omega) hu]
          have hlt := mul_lt64 (i := 9) (b := b) (by omega) (fun _ => by omega)
          rw [unzig_bits _ (by omega), ew, w64 (by omega), Nat.mod_eq_of_lt (show b < 128 by omega)]
          simp only [told]
          rfl
  | succ d ih =>
    intro i u k hd hi ha hu hk
    obtain ⟨k, rfl⟩ : ∃ m, k = m + 2 := ⟨k - 2, by omega⟩
    have ew : wrap64 ((a : Int) + (i : Int)) = ((a + i : Nat) : Int) := by rw [w64 (by omega)]; omega
    simp only [wire_Int.l0]
    rw [ew]
    by_cases hend : a + i = s.size
    · rw [if_pos (by omega), List.drop_of_length_le (by rw [Array.length_toList]; exact Nat.le_of_eq hend.symm)]
      rfl
    · have hlt : a + i < s.size := by omega
      have hb := bt_lt s ((a + i : Nat) : Int)
      obtain ⟨b, hbn⟩ : ∃ b : Nat, bt s ((a + i : Nat) : Int) = b := ⟨(bt s ((a + i : Nat) : Int)).toNat, by omega⟩
      have key : ∀ z : Bool, z = decide (0 < i ∧ b = 0) → wire_Int.j2 (k + 1) s a u i b z = some (told a (if (i = 9 ∧ 1 < b) ∨ (0 < i ∧ b = 0) then (0, 0, 2) else if b < 128 then (u + b * 128 ^ i, i + 1, 0) else rdU (i + 1) (u + b % 128 * 128 ^ i) (s.data.toList.drop (a + i + 1)))) := by
        intro z hz
        simp only [wire_Int.j2]
        by_cases hc : 0 < i ∧ b = 0
        · rw [if_pos (by rw [hz]; simp [hc]), if_pos (.inr hc)]
          rfl
        · rw [if_neg (by rw [hz]; simpa using hc), if_neg (show ¬ ((i = 9 ∧ 1 < b) ∨ (0 < i ∧ b = 0)) by rintro (⟨h9, -⟩ | h); omega; exact hc h), if_pos (show 0 ≤ wrap64 (7 * (i : Int)) by rw [w64 (by omega)]; omega), shl_part b i (by omega) hi (fun _ => by omega), or_part u b i (by omega) hi (fun _ => by omega) hu]
          have hlt := mul_lt64 hi (b := b) (fun _ => by omega)
          by_cases h128 : b < 128
          · rw [if_pos (by omega), if_pos h128, unzig_bits _ (by omega), ew, w64 (by omega), Nat.mod_eq_of_lt h128]
            simp only [told]
            rfl
          · rw [if_neg (by omega), if_neg h128, w64 (by omega)]
            have h2 : u + b % 128 * 128 ^ i < 128 ^ (i + 1) := by
              have h3 : b % 128 * 128 ^ i ≤ 127 * 128 ^ i := Nat.mul_le_mul_right _ (by omega)
              have h4 : 128 ^ (i + 1) = 128 ^ i * 128 := Nat.pow_succ 128 i
              omega
            have := ih (i + 1) (u + b % 128 * 128 ^ i) (k) (by omega) (by omega) (by omega) h2 (by omega)
            rw [show ((i + 1 : Nat) : Int) = (i : Int) + 1 by omega] at this
            rw [this, Nat.add_assoc]
      rw [if_neg (by omega), if_pos (by omega), if_pos (by omega), drop_at s _ hlt, hbn, rdU, Int.toNat_natCast, u8_ofNat b (by omega), if_neg (by omega)]
      by_cases hi0 : 0 < i
      · rw [if_pos (by omega)]
        refine key _ ?_
        rw [Bool.eq_iff_iff]; simp; omega
      · rw [if_neg (by omega)]
        exact key _ (by simp; omega)

theorem wire_Int_eq (s : ByteArray) (a : Int) (k : Nat) (hs : s.size ≤ 9223372036854775000) (hk : 24 ≤ k) : wire_Int.f k s a = some (intAt s a) := by
  obtain ⟨k, rfl⟩ : ∃ m, k = m + 1 := ⟨k - 1, by omega⟩
  unfold wire_Int.f intAt
  by_cases h0 : a < 0
  · rw [if_pos h0, if_pos (.inl h0)]
    simp only [wire_Int.j0]
    rfl
  · rw [if_neg h0]
    simp only [wire_Int.j0]
    by_cases h1 : a > (s.size : Int)
    · rw [if_pos (by simpa using h1), if_pos (.inr h1)]
    · rw [if_neg (by simpa using h1), if_neg (by omega)]
      obtain ⟨n, rfl⟩ : ∃ n : Nat, a = n := ⟨a.toNat, by omega⟩
      exact wire_Int_l0 s n hs 9 0 0 k rfl (by omega) (by omega) (by simp) (by omega)

end Go.Proofs.Ytpebhbhdkmpjeaa.Gwa

/- The printed functions of 'wire' and of its reference, in plain words: numbers, texts and lists. -/
namespace Go.Proofs.Ytpebhbhdkmpjeaa.Gwb
open Go Go.RowKit Go.Proofs.Ytpebhbhdkmpjeaa.Gm Go.Proofs.Ytpebhbhdkmpjeaa.Gwa Go.Proofs.Ytpebhbhdkmpjeaa.Q Go.Proofs.Ytpebhbhdkmpjeaa.Gput Go.Proofs.Ytpebhbhdkmpjeaa.Gputl Go.Proofs.YtpebhbhdkmpjeaaW.PrintWords Go.Proofs.YtpebhbhdkmpjeaaW.PrintLast Go.Proofs.YtpebhbhdkmpjeaaW.PrintMore
set_option linter.unusedVariables false

theorem intAt_B (l : List UInt8) (a : Int) : intAt (B l) a = if a < 0 ∨ a > l.length then (0, 0, 1) else told a (rdU 0 0 (l.drop a.toNat)) := by
  unfold intAt
  rw [B_size, B_data]

/-- The next index lies in the text, and behind; the number fits. -/
theorem intAt_ok {l : List UInt8} {a x n : Int} (h : intAt (B l) a = (x, n, 0)) : 0 ≤ a ∧ a < n ∧ n ≤ l.length ∧ n ≤ a + 10 ∧ -9223372036854775808 ≤ x ∧ x ≤ 9223372036854775807 ∧ (l.drop a.toNat).take (n - a).toNat = putI x ∧ ((putI x).length : Int) = n - a := by
  rw [intAt_B] at h
  split at h
  · simp at h
  rename_i hn
  rcases hr : rdU 0 0 (l.drop a.toNat) with ⟨u, c, e⟩
  rw [hr] at h
  cases e with
  | succ e => simp [told] at h; omega
  | zero =>
    simp only [told, Prod.mk.injEq, and_true] at h
    obtain ⟨rfl, rfl⟩ := h
    obtain ⟨v, hu, hc, ht, hl, -, hv⟩ := rdU_inv _ 0 0 u c (by omega) hr
    simp only [Nat.pow_zero, Nat.mul_one, Nat.zero_add] at hu hc hv
    subst hu
    subst hc
    have h10 := grp_len10 u hv
    have hp := grp_pos u
    have hrg := unzig_range hv
    simp only [List.length_drop] at hl
    have e1 : (a + ((grp u).length : Int) - a).toNat = (grp u).length := by omega
    have e2 : putI (unzig u) = grp u := by unfold putI; rw [zig_unzig]
    rw [e1, e2]
    exact ⟨by omega, by omega, by omega, by omega, hrg.1, hrg.2, ht, by omega⟩

theorem intAt_err {l : List UInt8} {a x n e : Int} (h : intAt (B l) a = (x, n, e)) : (e = 0 ∨ (x = 0 ∧ n = 0)) ∧ 0 ≤ e ∧ e ≤ 3 := by
  rw [intAt_B] at h
  split at h
  · simp at h; omega
  rcases hr : rdU 0 0 (l.drop a.toNat) with ⟨u, c, e'⟩
  rw [hr] at h
  have he : ∀ (l : List UInt8) (k u : Nat), (rdU k u l).2.2 ≤ 3 := by
    intro l
    induction l with
    | nil => intro k u; simp [rdU]
    | cons b l ih =>
      intro k u
      rw [rdU]
      split
      · simp
      · split
        · simp
        · exact ih _ _
  have := he (l.drop a.toNat) 0 0
  rw [hr] at this
  cases e' with
  | zero => simp only [told, Prod.mk.injEq] at h; omega
  | succ e' => simp only [told, Prod.mk.injEq] at h; simp at this; omega

/-- What was put is read back. -/
theorem intAt_put (p q : List UInt8) (n : Int) (hn : -9223372036854775808 ≤ n ∧ n ≤ 9223372036854775807) : intAt (B (p ++ (putI n ++ q))) p.length = (n, ((p.length + (putI n).length : Nat) : Int), 0) := by
  rw [intAt_B, if_neg (by simp; omega)]
  simp only [Int.toNat_natCast, List.drop_left']
  have h := rdU_grp q (zig n) 0 0 (by omega) (by simpa using zig_range hn)
  unfold putI
  rw [h]
  simp [told, unzig_zig]

theorem wf64 {n : Int} (h : -9223372036854775808 ≤ n ∧ n ≤ 9223372036854775807) : (Lit.int .i64 n).wf = true := Go.WalkArith.wf_i64 h

theorem wire_PutInt_eq (l : List UInt8) (n : Int) (hl : l.length + 10 ≤ 140737488355328) (hn : -9223372036854775808 ≤ n ∧ n ≤ 9223372036854775807) : wire_PutInt.f (B l) n = some (B (l ++ putI n)) := by
  unfold wire_PutInt.f
  rw [if_pos ⟨by rw [B_size]; exact hl, wf64 hn⟩]
  rfl

theorem strOfNums_one (n : Nat) : strOfNums [(n : Int)] = B [UInt8.ofNat n] := by
  unfold strOfNums B
  simp

theorem ref_PutInt_l0 : ∀ (u : Nat) (l : List UInt8) (k : Nat), l.length + (grp u).length ≤ 9223372036854775807 → (grp u).length ≤ k → storagebarterref01_PutInt.l0 k (B l) u = some (B (l ++ grp u)) := by
  intro u
  induction u using Nat.strongRecOn with
  | _ u ih =>
  intro l k hl hk
  by_cases h127 : 127 < u
  · rw [grp_more h127] at hl hk ⊢
    simp only [List.length_cons] at hl hk
    obtain ⟨k, rfl⟩ : ∃ m, k = m + 1 := ⟨k - 1, by omega⟩
    simp only [storagebarterref01_PutInt.l0]
    rw [if_pos (by omega), or128, Option.bind_some, strOfNums_one, if_pos (by rw [B_size, B_size]; simp; omega), B_append]
    have := ih (u / 128) (by omega) (l ++ [UInt8.ofNat (u % 128 + 128)]) k (by simp; omega) (by omega)
    rw [show ((u : Int) / 128) = ((u / 128 : Nat) : Int) by omega, this]
    simp
  · rw [grp_last h127] at hl hk ⊢
    simp only [List.length_singleton] at hl hk
    obtain ⟨k, rfl⟩ : ∃ m, k = m + 1 := ⟨k - 1, by omega⟩
    simp only [storagebarterref01_PutInt.l0]
    rw [if_neg (by omega), show ((u : Int) % 256) = (u : Int) by omega, Option.bind_some, strOfNums_one, if_pos (by rw [B_size, B_size]; simp; omega), B_append]

theorem ref_PutInt_eq (l : List UInt8) (n : Int) (k : Nat) (hl : l.length + 10 ≤ 9223372036854775807) (hn : -9223372036854775808 ≤ n ∧ n ≤ 9223372036854775807) (hk : 10 ≤ k) : storagebarterref01_PutInt.f k (B l) n = some (B (l ++ putI n)) := by
  unfold storagebarterref01_PutInt.f
  rw [zig_bits n (wf64 hn)]
  have := putI_len hn
  unfold putI at this ⊢
  exact ref_PutInt_l0 (zig n) l k (by omega) (by omega)

set_option maxHeartbeats 1000000 in
theorem ref_Int_l0 (s : ByteArray) (a : Nat) (hs : s.size ≤ 9223372036854775000) : ∀ (d i u k : Nat), 9 - i = d → i ≤ 9 → a + i ≤ s.size → u < 128 ^ i → 3 * d + 4 ≤ k →
    storagebarterref01_Int.l0 k s a u i = some (told a (rdU i u (s.data.toList.drop (a + i)))) := by
  intro d
  induction d with
  | zero =>
    intro i u k hd hi ha hu hk
    obtain rfl : i = 9 := by omega
    obtain ⟨k, rfl⟩ : ∃ m, k = m + 3 := ⟨k - 3, by omega⟩
    have ew : wrap64 ((a : Int) + ((9 : Nat) : Int)) = ((a + 9 : Nat) : Int) := by rw [w64 (by omega)]; omega
    simp only [storagebarterref01_Int.l0]
    rw [ew]
    by_cases hend : a + 9 = s.size
    · rw [if_pos (by omega), List.drop_of_length_le (by rw [Array.length_toList]; exact Nat.le_of_eq hend.symm)]
      rfl
    · have hlt : a + 9 < s.size := by omega
      have hb := bt_lt s ((a + 9 : Nat) : Int)
      obtain ⟨b, hbn⟩ : ∃ b : Nat, bt s ((a + 9 : Nat) : Int) = b := ⟨(bt s ((a + 9 : Nat) : Int)).toNat, by omega⟩
      rw [if_neg (by omega), if_pos (by omega), if_pos (by omega), drop_at s _ hlt, hbn, rdU, Int.toNat_natCast, u8_ofNat b (by omega), if_pos (by omega)]
      have e7 : IntKind.u64.wrap (wrap64 (7 * ((9 : Nat) : Int))) = wrap64 (7 * ((9 : Nat) : Int)) := by rw [w64 (by omega), wrap_u64]; omega
      by_cases h1 : 1 < b
      · rw [if_pos (show (9 = 9 ∧ 1 < b) ∨ (0 < 9 ∧ b = 0) from .inl ⟨rfl, h1⟩), show decide ((b : Int) > 1) = true by simp; omega]
        simp only [storagebarterref01_Int.j2]
        rfl
      · rw [show decide ((b : Int) > 1) = false by simp; omega]
        simp only [storagebarterref01_Int.j2]
        have hlt2 := mul_lt64 (i := 9) (b := b) (by omega) (fun _ => by omega)
        rw [if_neg (show ¬ (false = true) by simp), e7, if_pos (show 0 ≤ wrap64 (7 * ((9 : Nat) : Int)) by rw [w64 (by omega)]; omega), if_neg (show ¬ ((b : Int) > 127) by omega), shl_part b 9 (by omega) (by omega) (fun _ => by omega), or_part u b 9 (by omega) (by omega) (fun _ => by omega) hu]
        by_cases h0 : b = 0
        · rw [if_pos (show (True ∧ 1 < b) ∨ (0 < 9 ∧ b = 0) from .inr ⟨by omega, h0⟩), if_pos (show (b : Int) = 0 by omega)]
          simp only [storagebarterref01_Int.j3]
          rfl
        · rw [if_neg (show ¬ ((True ∧ 1 < b) ∨ (0 < 9 ∧ b = 0)) by omega), if_neg (show ¬ (b : Int) = 0 by omega), if_pos (show b < 128 by omega)]
          simp only [storagebarterref01_Int.j3]
          rw [if_neg (show ¬ (false = true) by simp), u64_and1 _ (by omega) (by omega), ew, w64 (x := ((a + 9 : Nat) : Int) + 1) (by omega), w64 (x := ((u + b % 128 * 128 ^ 9 : Nat) : Int) / 2) (by omega), Nat.mod_eq_of_lt (show b < 128 by omega)]
          rw [Nat.mod_eq_of_lt (show b < 128 by omega)] at hlt2
          simp only [told]
          unfold unzig
          split
          · rw [w64 (x := -(((u + b * 128 ^ 9 : Nat) : Int) / 2)) (by omega), w64 (by omega), if_neg (by omega)]
            rfl
          · rw [if_pos (by omega)]
            rfl
  | succ d ih =>
    intro i u k hd hi ha hu hk
    obtain ⟨k, rfl⟩ : ∃ m, k = m + 3 := ⟨k - 3, by omega⟩
    have ew : wrap64 ((a : Int) + (i : Int)) = ((a + i : Nat) : Int) := by rw [w64 (by omega)]; omega
    simp only [storagebarterref01_Int.l0]
    rw [ew]
    by_cases hend : a + i = s.size
    · rw [if_pos (by omega), List.drop_of_length_le (by rw [Array.length_toList]; exact Nat.le_of_eq hend.symm)]
      rfl
    · have hlt : a + i < s.size := by omega
      have hb := bt_lt s ((a + i : Nat) : Int)
      obtain ⟨b, hbn⟩ : ∃ b : Nat, bt s ((a + i : Nat) : Int) = b := ⟨(bt s ((a + i : Nat) : Int)).toNat, by omega⟩
      have e7 : IntKind.u64.wrap (wrap64 (7 * (i : Int))) = wrap64 (7 * (i : Int)) := by rw [w64 (by omega), wrap_u64]; omega
      have hlt2 := mul_lt64 (i := i) (b := b) (by omega) (fun _ => by omega)
      rw [if_neg (show ¬ (((a + i : Nat) : Int) ≥ (s.size : Int)) by omega), if_pos (show 0 ≤ ((a + i : Nat) : Int) by omega), if_pos (show ((a + i : Nat) : Int) < (s.size : Int) by omega), drop_at s _ hlt, hbn, rdU, Int.toNat_natCast, u8_ofNat b (by omega), if_neg (show ¬ ((i : Int) = 9) by omega)]
      simp only [storagebarterref01_Int.j2]
      rw [if_neg (show ¬ (false = true) by simp), e7, if_pos (show 0 ≤ wrap64 (7 * (i : Int)) by rw [w64 (by omega)]; omega), shl_part b i (by omega) (by omega) (fun _ => by omega), or_part u b i (by omega) (by omega) (fun _ => by omega) hu]
      by_cases h128 : b < 128
      · rw [if_neg (show ¬ ((b : Int) > 127) by omega), Nat.mod_eq_of_lt h128]
        rw [Nat.mod_eq_of_lt h128] at hlt2
        have key : ∀ z : Bool, z = decide (0 < i ∧ b = 0) → storagebarterref01_Int.j3 (k + 1) a ((u + b * 128 ^ i : Nat) : Int) i z = some (told a (if (i = 9 ∧ 1 < b) ∨ (0 < i ∧ b = 0) then (0, 0, 2) else if b < 128 then (u + b * 128 ^ i, i + 1, 0) else rdU (i + 1) (u + b * 128 ^ i) (s.data.toList.drop (a + i + 1)))) := by
          intro z hz
          simp only [storagebarterref01_Int.j3]
          by_cases hc : 0 < i ∧ b = 0
          · rw [if_pos (show z = true by rw [hz]; simp [hc]), if_pos (show (i = 9 ∧ 1 < b) ∨ (0 < i ∧ b = 0) from .inr hc)]
            rfl
          · rw [if_neg (show ¬ z = true by rw [hz]; simpa using hc), if_neg (show ¬ ((i = 9 ∧ 1 < b) ∨ (0 < i ∧ b = 0)) by rintro (⟨h9, -⟩ | h); omega; exact hc h), if_pos h128, u64_and1 _ (by omega) (by omega), ew, w64 (x := ((a + i : Nat) : Int) + 1) (by omega), w64 (x := ((u + b * 128 ^ i : Nat) : Int) / 2) (by omega)]
            simp only [told]
            unfold unzig
            split
            · rw [w64 (x := -(((u + b * 128 ^ i : Nat) : Int) / 2)) (by omega), w64 (by omega), if_neg (by omega)]
              rfl
            · rw [if_pos (by omega)]
              rfl
        by_cases hb0 : b = 0
        · rw [if_pos (show (b : Int) = 0 by omega)]
          refine key _ ?_
          rw [Bool.eq_iff_iff]; simp; omega
        · rw [if_neg (show ¬ (b : Int) = 0 by omega)]
          refine key _ ?_
          simp; omega
      · rw [if_pos (show ((b : Int) > 127) by omega), if_neg (show ¬ ((i = 9 ∧ 1 < b) ∨ (0 < i ∧ b = 0)) by omega), if_neg h128, w64 (by omega)]
        have h2 : u + b % 128 * 128 ^ i < 128 ^ (i + 1) := by
          have h3 : b % 128 * 128 ^ i ≤ 127 * 128 ^ i := Nat.mul_le_mul_right _ (by omega)
          have h4 : 128 ^ (i + 1) = 128 ^ i * 128 := Nat.pow_succ 128 i
          omega
        have := ih (i + 1) (u + b % 128 * 128 ^ i) (k + 1) (by omega) (by omega) (by omega) h2 (by omega)
        rw [show ((i + 1 : Nat) : Int) = (i : Int) + 1 by omega] at this
        rw [this, Nat.add_assoc]

theorem ref_Int_eq (s : ByteArray) (a : Int) (k : Nat) (hs : s.size ≤ 9223372036854775000) (hk : 34 ≤ k) : storagebarterref01_Int.f k s a = some (intAt s a) := by
  obtain ⟨k, rfl⟩ : ∃ m, k = m + 1 := ⟨k - 1, by omega⟩
  unfold storagebarterref01_Int.f intAt
  by_cases h0 : a < 0
  · rw [if_pos h0, if_pos (.inl h0)]
    simp only [storagebarterref01_Int.j0]
    rfl
  · rw [if_neg h0]
    simp only [storagebarterref01_Int.j0]
    by_cases h1 : a > (s.size : Int)
    · rw [if_pos (by simpa using h1), if_pos (.inr h1)]
    · rw [if_neg (by simpa using h1), if_neg (by omega)]
      obtain ⟨n, rfl⟩ : ∃ n : Nat, a = n := ⟨a.toNat, by omega⟩
      exact ref_Int_l0 s n hs 9 0 0 k rfl (by omega) (by omega) (by simp) (by omega)

/-! ### Texts -/

def countAt (l : List UInt8) (a most : Int) : Int × Int × Int :=
  if (intAt (B l) a).2.2 = 0 then (if (intAt (B l) a).1 < 0 then (0, 0, 2) else if (intAt (B l) a).1 > most then (0, 0, 4) else ((intAt (B l) a).1, (intAt (B l) a).2.1, 0)) else (0, 0, (intAt (B l) a).2.2)

theorem wire_count_eq (l : List UInt8) (a m : Int) (k : Nat) (hs : l.length ≤ 9223372036854775000) (hk : 24 ≤ k) : wire_count.f k (B l) a m = some (countAt l a m) := by
  unfold wire_count.f countAt
  rw [wire_Int_eq (B l) a k (by rw [B_size]; exact hs) hk, Option.bind_some]
  split
  · split
    · rfl
    · split <;> rfl
  · rfl

def textAt (l : List UInt8) (a most : Int) : ByteArray × Int × Int :=
  if (countAt l a most).2.2 = 0 then
    (if (countAt l a most).1 > l.length - (countAt l a most).2.1 then (B [], 0, 3)
     else (B ((l.drop (countAt l a most).2.1.toNat).take (countAt l a most).1.toNat), (countAt l a most).2.1 + (countAt l a most).1, 0))
  else (B [], 0, (countAt l a most).2.2)

theorem countAt_ok {l : List UInt8} {a m x n : Int} (h : countAt l a m = (x, n, 0)) : intAt (B l) a = (x, n, 0) ∧ 0 ≤ x ∧ x ≤ m := by
  unfold countAt at h
  rcases hr : intAt (B l) a with ⟨y, c, e⟩
  rw [hr] at h
  simp only at h
  split at h
  · split at h
    · simp at h
    · split at h
      · simp at h
      · simp only [Prod.mk.injEq, and_true] at h
        obtain ⟨rfl, rfl⟩ := h
        rename_i he _ _
        exact ⟨by rw [he], by omega, by omega⟩
  · simp only [Prod.mk.injEq] at h; omega

theorem take_drop_swap (l : List UInt8) (i n : Nat) : (l.take (i + n)).drop i = (l.drop i).take n := by
  rw [List.drop_take]
  congr 1
  omega

theorem text_core (l : List UInt8) (x n : Int) (hs : l.length ≤ 9223372036854775000) (hx : 0 ≤ x ∧ x ≤ 9223372036854775807) (hn : 0 ≤ n ∧ n ≤ l.length) :
    (if x > (wrap64 (((B l).size : Int) - n)) then (some ((⟨#[]⟩ : ByteArray), (0 : Int), (3 : Int))) else (if 0 ≤ n then (if n ≤ (wrap64 (n + x)) then (if (wrap64 (n + x)) ≤ ((B l).size : Int) then (some ((B l).extract (n : Int).toNat ((wrap64 (n + x)) : Int).toNat, wrap64 (n + x), (0 : Int))) else (none)) else (none)) else (none))) =
    some (if x > l.length - n then (B [], 0, 3) else (B ((l.drop n.toNat).take x.toNat), n + x, 0)) := by
  rw [B_size, w64 (by omega)]
  by_cases h : x > (l.length : Int) - n
  · rw [if_pos h, if_pos h]; rfl
  · rw [if_neg h, if_neg h, w64 (by omega), if_pos (by omega), if_pos (by omega), if_pos (by omega), B_extract, ← take_drop_swap, Int.toNat_add (by omega) (by omega)]

theorem wire_Text_eq (l : List UInt8) (a m : Int) (k : Nat) (hs : l.length ≤ 9223372036854775000) (hk : 24 ≤ k) : wire_Text.f k (B l) a m = some (textAt l a m) := by
  unfold wire_Text.f textAt
  rw [wire_count_eq l a m k hs hk, Option.bind_some]
  rcases hc : countAt l a m with ⟨x, n, e⟩
  simp only
  by_cases he : e = 0
  · subst he
    rw [if_pos rfl, if_pos rfl]
    obtain ⟨h1, h2, h3⟩ := countAt_ok hc
    obtain ⟨h4, h5, h6, h7, h8, h9, -⟩ := intAt_ok h1
    exact text_core l x n hs ⟨h2, h9⟩ ⟨by omega, h6⟩
  · rw [if_neg he, if_neg he]
    rfl

theorem ref_Text_eq (l : List UInt8) (a m : Int) (k : Nat) (hs : l.length ≤ 9223372036854775000) (hk : 34 ≤ k) : storagebarterref01_Text.f k (B l) a m = some (textAt l a m) := by
  unfold storagebarterref01_Text.f textAt countAt
  rw [ref_Int_eq (B l) a k (by rw [B_size]; exact hs) hk, Option.bind_some]
  rcases hc : intAt (B l) a with ⟨x, n, e⟩
  simp only
  by_cases he : e = 0
  · subst he
    obtain ⟨h4, h5, h6, h7, h8, h9, -⟩ := intAt_ok hc
    simp only [if_true]
    by_cases h0 : x < 0
    · rw [if_pos h0]; simp only [if_pos h0]; rfl
    · rw [if_neg h0]; simp only [if_neg h0]
      by_cases h1 : x > m
      · rw [if_pos h1]; simp only [if_pos h1]; rfl
      · rw [if_neg h1]; simp only [if_neg h1, if_true]
        exact text_core l x n hs ⟨by omega, h9⟩ ⟨by omega, h6⟩
  · rw [if_neg he]
    simp only [if_neg he]
    rfl

theorem wire_PutText_eq (l t : List UInt8) (hl : l.length + 10 ≤ 140737488355328) (ht : t.length ≤ 140737488355328) : wire_PutText.f (B l) (B t) = some (B (l ++ (putI t.length ++ t))) := by
  unfold wire_PutText.f
  have hr : -9223372036854775808 ≤ (t.length : Int) ∧ (t.length : Int) ≤ 9223372036854775807 := by omega
  have := putI_len hr
  rw [B_size, wire_PutInt_eq l _ hl hr, Option.bind_some, if_pos (by rw [B_size, List.length_append]; omega), B_append, List.append_assoc]

theorem ref_PutText_eq (l t : List UInt8) (k : Nat) (hl : l.length ≤ 4611686018427387903) (ht : t.length ≤ 4611686018427387000) (hk : 10 ≤ k) : storagebarterref01_PutText.f k (B l) (B t) = some (B (l ++ (putI t.length ++ t))) := by
  unfold storagebarterref01_PutText.f
  have hr : -9223372036854775808 ≤ (t.length : Int) ∧ (t.length : Int) ≤ 9223372036854775807 := by omega
  have := putI_len hr
  rw [B_size, ref_PutInt_eq l _ k (by omega) hr hk, Option.bind_some, if_pos (by rw [B_size, List.length_append]; omega), B_append, List.append_assoc]

end Go.Proofs.Ytpebhbhdkmpjeaa.Gwb

/- The sanity check of chapter 1 holds. -/
namespace Go.Proofs.Ytpebhbhdkmpjeaa.Gwc
open Go Go.RowKit Go.Proofs.Ytpebhbhdkmpjeaa.Gm Go.Proofs.Ytpebhbhdkmpjeaa.Gwa Go.Proofs.Ytpebhbhdkmpjeaa.Gwb Go.Proofs.Ytpebhbhdkmpjeaa.Q Go.Proofs.Ytpebhbhdkmpjeaa.Gput Go.Proofs.YtpebhbhdkmpjeaaW.PrintWords Go.Proofs.YtpebhbhdkmpjeaaW.PrintLast Go.Proofs.YtpebhbhdkmpjeaaW.PrintMore
set_option linter.unusedVariables false

theorem law01_sane (k : Nat) (hk : 34 ≤ k) : storagebarterlaw01_sane.f k = some true := by
  unfold storagebarterlaw01_sane.f
  have e1 : intAt (B [128, 1]) 0 = (64, 2, 0) := by rw [intAt_B]; decide
  have e2 : intAt (B [128, 0]) 0 = (0, 0, 2) := by rw [intAt_B]; decide
  have e3 : putI 64 = [128, 1] := by
    unfold putI
    rw [show zig 64 = 128 by decide, grp_more (by omega), grp_last (by omega)]
    decide
  have e4 : putI (-1) = [1] := by
    unfold putI
    rw [show zig (-1) = 1 by decide, grp_last (by omega)]
    decide
  have hw1 := wire_Int_eq (B [128, 1]) 0 k (by rw [B_size]; simp) (by omega)
  have hw2 := wire_Int_eq (B [128, 0]) 0 k (by rw [B_size]; simp) (by omega)
  have hp1 := wire_PutInt_eq [] 64 (by simp) (by omega)
  have hp2 := wire_PutInt_eq [97] (-1) (by simp) (by omega)
  rw [e1] at hw1
  rw [e2] at hw2
  rw [e3] at hp1
  rw [e4] at hp2
  rw [show (⟨#[128, 1]⟩ : ByteArray) = B [128, 1] from rfl, show (⟨#[128, 0]⟩ : ByteArray) = B [128, 0] from rfl, show (⟨#[]⟩ : ByteArray) = B [] from rfl, show (⟨#[97]⟩ : ByteArray) = B [97] from rfl, hw1, Option.bind_some, hw2, Option.bind_some, hp1, Option.bind_some, if_pos (by rw [B_toList]; rfl), hp2, Option.bind_some, if_pos (by rw [B_toList]; rfl)]
  rfl

end Go.Proofs.Ytpebhbhdkmpjeaa.Gwc

/- The printed functions of 'wire' and of its reference, in plain words: lists. -/
namespace Go.Proofs.Ytpebhbhdkmpjeaa.Gwd
open Go Go.RowKit Go.Proofs.Ytpebhbhdkmpjeaa.Gm Go.Proofs.Ytpebhbhdkmpjeaa.Gwa Go.Proofs.Ytpebhbhdkmpjeaa.Gwb Go.Proofs.Ytpebhbhdkmpjeaa.Q Go.Proofs.Ytpebhbhdkmpjeaa.Gput Go.Proofs.Ytpebhbhdkmpjeaa.Gputl Go.Proofs.YtpebhbhdkmpjeaaW.PrintWords Go.Proofs.YtpebhbhdkmpjeaaW.PrintLast Go.Proofs.YtpebhbhdkmpjeaaW.PrintMore
set_option linter.unusedVariables false

/-- So many numbers are read from an index on. -/
def rdN (l : List UInt8) : Nat → Int → List Int → List Int × Int × Int
  | 0, a, acc => (acc, a, 0)
  | n + 1, a, acc => if (intAt (B l) a).2.2 = 0 then rdN l n (intAt (B l) a).2.1 (acc ++ [(intAt (B l) a).1]) else ([], 0, (intAt (B l) a).2.2)

def listAt (l : List UInt8) (a most : Int) : List Int × Int × Int :=
  if (countAt l a most).2.2 = 0 then rdN l (countAt l a most).1.toNat (countAt l a most).2.1 [] else ([], 0, (countAt l a most).2.2)

theorem wire_List_l0 (l : List UInt8) (hs : l.length ≤ 17592186044416) : ∀ (d : Nat) (k : Nat) (a : Int) (acc : List Int) (n i : Nat), (l.length : Int) - a = d → 0 ≤ a → (acc.length : Int) ≤ a → i + d + 30 < 9223372036854775807 → i ≤ n → n ≤ 9223372036854775807 → d + 30 ≤ k →
    wire_List.l0 k (B l) a acc n i = some (rdN l (n - i) a acc) := by
  intro d
  induction d using Nat.strongRecOn with
  | _ d ih =>
  intro k a acc n i hd ha hacc hbig hin hn hk
  obtain ⟨k, rfl⟩ : ∃ m, k = m + 1 := ⟨k - 1, by omega⟩
  simp only [wire_List.l0]
  by_cases h : i < n
  · rw [if_pos (by omega), wire_Int_eq (B l) a k (by rw [B_size]; omega) (by omega), Option.bind_some]
    obtain ⟨m, hm⟩ : ∃ m, n - i = m + 1 := ⟨n - i - 1, by omega⟩
    rw [hm, rdN]
    rcases hi : intAt (B l) a with ⟨x, c, e⟩
    simp only
    by_cases he : e = 0
    · subst he
      obtain ⟨h1, h2, h3, -⟩ := intAt_ok hi
      rw [if_pos rfl, if_pos rfl, if_pos (by omega)]
      have := ih (l.length - c).toNat (by omega) k c (acc ++ [x]) n (i + 1) (by omega) (by omega) (by simp; omega) (by omega) (by omega) hn (by omega)
      rw [w64 (by omega), show ((i : Int) + 1) = ((i + 1 : Nat) : Int) by omega, this, show n - (i + 1) = m by omega]
    · rw [if_neg he, if_neg he]
  · rw [if_neg (by omega), show n - i = 0 by omega]
    rfl

theorem wire_List_eq (l : List UInt8) (a m : Int) (k : Nat) (hs : l.length ≤ 17592186044416) (hk : l.length + 30 ≤ k) : wire_List.f k (B l) a m = some (listAt l a m) := by
  unfold wire_List.f listAt
  rw [wire_count_eq l a m k (by omega) (by omega), Option.bind_some]
  rcases hc : countAt l a m with ⟨x, n, e⟩
  simp only
  by_cases he : e = 0
  · subst he
    obtain ⟨h1, h2, h3⟩ := countAt_ok hc
    obtain ⟨h4, h5, h6, h7, h8, h9, -⟩ := intAt_ok h1
    rw [if_pos rfl, if_pos rfl]
    have := wire_List_l0 l hs (l.length - n).toNat k n [] x.toNat 0 (by omega) (by omega) (by simp; omega) (by omega) (by omega) (by omega) (by omega)
    rw [show (x.toNat : Int) = x by omega] at this
    exact this
  · rw [if_neg he, if_neg he]

theorem ref_List_l0 (l : List UInt8) (hs : l.length ≤ 17592186044416) : ∀ (d : Nat) (k : Nat) (a : Int) (acc : List Int) (n : Int), (l.length : Int) - a = d → 0 ≤ a → (acc.length : Int) ≤ a → d + 40 ≤ k →
    storagebarterref01_List.l0 k (B l) n a acc = some (rdN l (n - acc.length).toNat a acc) := by
  intro d
  induction d using Nat.strongRecOn with
  | _ d ih =>
  intro k a acc n hd ha hacc hk
  obtain ⟨k, rfl⟩ : ∃ m, k = m + 1 := ⟨k - 1, by omega⟩
  simp only [storagebarterref01_List.l0]
  by_cases h : (acc.length : Int) < n
  · rw [if_pos h, ref_Int_eq (B l) a k (by rw [B_size]; omega) (by omega), Option.bind_some]
    obtain ⟨m, hm⟩ : ∃ m, (n - acc.length).toNat = m + 1 := ⟨(n - acc.length).toNat - 1, by omega⟩
    rw [hm, rdN]
    rcases hi : intAt (B l) a with ⟨x, c, e⟩
    simp only
    by_cases he : e = 0
    · subst he
      obtain ⟨h1, h2, h3, -⟩ := intAt_ok hi
      rw [if_pos rfl, if_pos rfl, if_pos (by omega)]
      have := ih (l.length - c).toNat (by omega) k c (acc ++ [x]) n (by omega) (by omega) (by simp; omega) (by omega)
      rw [this, show (n - ((acc ++ [x]).length : Int)).toNat = m by simp; omega]
    · rw [if_neg he, if_neg he]
  · rw [if_neg h, show (n - acc.length).toNat = 0 by omega]
    rfl

theorem ref_List_eq (l : List UInt8) (a m : Int) (k : Nat) (hs : l.length ≤ 17592186044416) (hk : l.length + 40 ≤ k) : storagebarterref01_List.f k (B l) a m = some (listAt l a m) := by
  unfold storagebarterref01_List.f listAt countAt
  rw [ref_Int_eq (B l) a k (by rw [B_size]; omega) (by omega), Option.bind_some]
  rcases hc : intAt (B l) a with ⟨x, n, e⟩
  simp only
  by_cases he : e = 0
  · subst he
    obtain ⟨h4, h5, h6, h7, h8, h9, -⟩ := intAt_ok hc
    simp only [if_true]
    by_cases h0 : x < 0
    · rw [if_pos h0]; simp only [if_pos h0]; rfl
    · rw [if_neg h0]; simp only [if_neg h0]
      by_cases h1 : x > m
      · rw [if_pos h1]; simp only [if_pos h1]; rfl
      · rw [if_neg h1]; simp only [if_neg h1, if_true]
        have := ref_List_l0 l hs (l.length - n).toNat k n [] x (by omega) (by omega) (by simp; omega) (by omega)
        rw [this]
        simp
  · rw [if_neg he]
    simp only [if_neg he]

theorem ref_PutList_l0 (k : Nat) (xs : List Int) (hw : ∀ x ∈ xs, (Lit.int .i64 x).wf = true) (hx : xs.length ≤ 140737488355328) : ∀ (d i : Nat) (l : List UInt8) (j : Nat), xs.length - i = d → i ≤ xs.length → l.length + 10 * d ≤ 9223372036854775000 → d + 20 ≤ j →
    storagebarterref01_PutList.l0 j (B l) xs xs.length i = some (B (l ++ (xs.drop i).flatMap putI)) := by
  intro d
  induction d with
  | zero =>
    intro i l j hd hi hl hj
    obtain ⟨j, rfl⟩ : ∃ m, j = m + 1 := ⟨j - 1, by omega⟩
    simp only [storagebarterref01_PutList.l0]
    rw [if_neg (by omega), List.drop_of_length_le (by omega), List.flatMap_nil, List.append_nil]
  | succ d ih =>
    intro i l j hd hi hl hj
    obtain ⟨j, rfl⟩ : ∃ m, j = m + 1 := ⟨j - 1, by omega⟩
    have hlt : i < xs.length := by omega
    have er : rd xs i = xs[i] := by simp [rd, List.getD, hlt]
    have hr := bounds_i64 (hw _ (List.getElem_mem hlt))
    have hp := putI_len hr
    simp only [storagebarterref01_PutList.l0]
    rw [if_pos (by omega), if_pos (by omega), if_pos (by omega), er, ref_PutInt_eq l _ j (by omega) hr (by omega), Option.bind_some, w64 (by omega), show ((i : Int) + 1) = ((i + 1 : Nat) : Int) by omega, ih (i + 1) _ j (by omega) (by omega) (by rw [List.length_append]; omega) (by omega), List.drop_eq_getElem_cons hlt, List.flatMap_cons, List.append_assoc]

theorem ref_PutList_eq (l : List UInt8) (xs : List Int) (k : Nat) (hw : ∀ x ∈ xs, (Lit.int .i64 x).wf = true) (hx : xs.length ≤ 140737488355328) (hl : l.length ≤ 140737488355328) (hk : xs.length + 20 ≤ k) : storagebarterref01_PutList.f k (B l) xs = some (B (l ++ putL xs)) := by
  unfold storagebarterref01_PutList.f
  have hr : -9223372036854775808 ≤ (xs.length : Int) ∧ (xs.length : Int) ≤ 9223372036854775807 := by omega
  have hp := putI_len hr
  rw [ref_PutInt_eq l _ k (by omega) hr (by omega), Option.bind_some]
  have := ref_PutList_l0 k xs hw hx xs.length 0 (l ++ putI xs.length) k (by omega) (by omega) (by rw [List.length_append]; omega) hk
  rw [show ((0 : Nat) : Int) = 0 from rfl] at this
  rw [this]
  simp [putL]

theorem wire_PutList_eq (l : List UInt8) (xs : List Int) (hw : ∀ x ∈ xs, (Lit.int .i64 x).wf = true) (hx : l.length + 10 * (xs.length + 1) ≤ 140737488355328) : wire_PutList.f (B l) xs = some (B (l ++ putL xs)) := by
  unfold wire_PutList.f
  rw [if_pos ⟨by rw [B_size]; exact hx, List.all_eq_true.2 hw⟩]
  rfl

theorem same_l0 (xs ys : List Int) (hl : xs.length = ys.length) (hx : xs.length ≤ 140737488355328) : ∀ (d i k : Nat), xs.length - i = d → i ≤ xs.length → d < k →
    storagebarterref01_Same.l0 k xs ys xs.length i = some (decide (xs.drop i = ys.drop i)) := by
  intro d
  induction d with
  | zero =>
    intro i k hd hi hk
    obtain ⟨k, rfl⟩ : ∃ m, k = m + 1 := ⟨k - 1, by omega⟩
    simp only [storagebarterref01_Same.l0]
    rw [if_neg (by omega), List.drop_of_length_le (by omega), List.drop_of_length_le (by omega)]
    simp
  | succ d ih =>
    intro i k hd hi hk
    obtain ⟨k, rfl⟩ : ∃ m, k = m + 1 := ⟨k - 1, by omega⟩
    have hlt : i < xs.length := by omega
    have hlt2 : i < ys.length := by omega
    have ex : rd xs i = xs[i] := by simp [rd, List.getD, hlt]
    have ey : rd ys i = ys[i] := by simp [rd, List.getD, hlt2]
    simp only [storagebarterref01_Same.l0]
    rw [if_pos (by omega), if_pos (by omega), if_pos (by omega), if_pos (by omega), ex, ey, List.drop_eq_getElem_cons hlt, List.drop_eq_getElem_cons hlt2]
    by_cases he : xs[i] = ys[i]
    · rw [if_pos he, w64 (by omega), show ((i : Int) + 1) = ((i + 1 : Nat) : Int) by omega, ih (i + 1) k (by omega) (by omega) (by omega)]
      simp only [List.cons.injEq, he, true_and]
    · rw [if_neg he]
      simp only [List.cons.injEq, he, false_and, decide_false]

theorem same_eq (xs ys : List Int) (k : Nat) (hx : xs.length ≤ 140737488355328) (hk : xs.length < k) : storagebarterref01_Same.f k xs ys = some (decide (xs = ys)) := by
  unfold storagebarterref01_Same.f
  by_cases hl : xs.length = ys.length
  · rw [if_pos (by omega)]
    have := same_l0 xs ys hl hx xs.length 0 k (by omega) (by omega) hk
    simpa using this
  · rw [if_neg (by omega)]
    have : xs ≠ ys := fun e => hl (by rw [e])
    simp [this]

/-- What was put as a list is read back. -/
theorem rdN_put (p q : List UInt8) : ∀ (xs : List Int) (pre : List UInt8) (acc : List Int), (∀ x ∈ xs, (Lit.int .i64 x).wf = true) → rdN (pre ++ (xs.flatMap putI ++ q)) xs.length pre.length acc = (acc ++ xs, ((pre.length + (xs.flatMap putI).length : Nat) : Int), 0)
  | [], pre, acc, _ => by simp [rdN]
  | x :: xs, pre, acc, hw => by
    have hr := bounds_i64 (hw x (by simp))
    have hi := intAt_put pre (xs.flatMap putI ++ q) x hr
    have ih := rdN_put p q xs (pre ++ putI x) (acc ++ [x]) (fun y hy => hw y (by simp [hy]))
    simp only [List.length_append, List.append_assoc] at ih
    simp only [List.length_cons, List.flatMap_cons, List.append_assoc, rdN]
    rw [hi]
    simp only [if_true]
    rw [ih]
    simp [Nat.add_assoc]

theorem listAt_put (p q : List UInt8) (xs : List Int) (most : Int) (hw : ∀ x ∈ xs, (Lit.int .i64 x).wf = true) (hx : xs.length ≤ 140737488355328) (hm : (xs.length : Int) ≤ most) : listAt (p ++ (putL xs ++ q)) p.length most = (xs, ((p.length + (putL xs).length : Nat) : Int), 0) := by
  have hr : -9223372036854775808 ≤ (xs.length : Int) ∧ (xs.length : Int) ≤ 9223372036854775807 := by omega
  have hi := intAt_put p (xs.flatMap putI ++ q) xs.length hr
  rw [show putL xs ++ q = putI xs.length ++ (xs.flatMap putI ++ q) by simp [putL]]
  have hc : countAt (p ++ (putI xs.length ++ (xs.flatMap putI ++ q))) p.length most = ((xs.length : Int), ((p.length + (putI xs.length).length : Nat) : Int), 0) := by
    unfold countAt
    rw [hi]
    simp only [if_true]
    rw [if_neg (by omega), if_neg (by omega)]
  unfold listAt
  rw [hc]
  simp only [if_true, Int.toNat_natCast]
  have := rdN_put p q xs (p ++ putI xs.length) [] hw
  simp only [List.length_append, List.append_assoc, List.nil_append] at this
  rw [this]
  simp [putL, Nat.add_assoc]

theorem textAt_put (p q t : List UInt8) (most : Int) (ht : t.length ≤ 140737488355328) (hm : (t.length : Int) ≤ most) : textAt (p ++ (putI t.length ++ (t ++ q))) p.length most = (B t, ((p.length + (putI t.length).length + t.length : Nat) : Int), 0) := by
  have hr : -9223372036854775808 ≤ (t.length : Int) ∧ (t.length : Int) ≤ 9223372036854775807 := by omega
  have hi := intAt_put p (t ++ q) t.length hr
  have hc : countAt (p ++ (putI t.length ++ (t ++ q))) p.length most = ((t.length : Int), ((p.length + (putI t.length).length : Nat) : Int), 0) := by
    unfold countAt
    rw [hi]
    simp only [if_true]
    rw [if_neg (by omega), if_neg (by omega)]
  unfold textAt
  rw [hc]
  simp only [if_true, Int.toNat_natCast]
  rw [if_neg (by simp; omega)]
  rw [← List.append_assoc p, ← List.length_append, List.drop_left, List.take_left]
  simp

/-- Bytes of a number that are cut: too short. -/
theorem intAt_cut (n : Int) (j : Nat) (hn : -9223372036854775808 ≤ n ∧ n ≤ 9223372036854775807) (hj : j < (putI n).length) : intAt (B ((putI n).take j)) 0 = (0, 0, 3) := by
  rw [intAt_B, if_neg (by simp)]
  have h := rdU_cut (zig n) 0 0 j (by omega) (by simpa using zig_range hn) hj
  unfold putI
  simp only [Int.toNat_zero, List.drop_zero]
  rw [h]
  rfl

theorem textAt_cut (t : List UInt8) (j : Nat) (most : Int) (ht : t.length ≤ 140737488355328) (hm : (t.length : Int) ≤ most) (hj : j < (putI t.length ++ t).length) : (textAt ((putI t.length ++ t).take j) 0 most).2.2 = 3 := by
  rw [List.length_append] at hj
  have hr : -9223372036854775808 ≤ (t.length : Int) ∧ (t.length : Int) ≤ 9223372036854775807 := by omega
  rcases Nat.lt_or_ge j (putI t.length).length with h | h
  · have hi := intAt_cut t.length j hr h
    rw [List.take_append_of_le_length (by omega)]
    unfold textAt countAt
    rw [hi]
    simp
  · rw [List.take_append, List.take_of_length_le h]
    have hi := intAt_put [] (t.take (j - (putI t.length).length)) t.length hr
    simp only [List.nil_append, List.length_nil, Nat.zero_add] at hi
    rw [show ((0 : Nat) : Int) = 0 from rfl] at hi
    have hc : countAt (putI t.length ++ t.take (j - (putI t.length).length)) 0 most = ((t.length : Int), (((putI t.length).length : Nat) : Int), 0) := by
      unfold countAt
      rw [hi]
      simp only [if_true]
      rw [if_neg (by omega), if_neg (by omega)]
    unfold textAt
    rw [hc]
    simp only [if_true]
    rw [if_pos (show (t.length : Int) > (((putI t.length ++ t.take (j - (putI t.length).length)).length : Nat) : Int) - (((putI t.length).length : Nat) : Int) by rw [List.length_append, List.length_take]; omega)]

theorem rdN_cut : ∀ (xs : List Int) (pre : List UInt8) (acc : List Int) (j : Nat), (∀ x ∈ xs, (Lit.int .i64 x).wf = true) → j < (xs.flatMap putI).length → (rdN (pre ++ (xs.flatMap putI).take j) xs.length pre.length acc).2.2 = 3
  | [], pre, acc, j, _, hj => by simp at hj
  | x :: xs, pre, acc, j, hw, hj => by
    have hr := bounds_i64 (hw x (by simp))
    simp only [List.flatMap_cons, List.length_cons, rdN] at hj ⊢
    rcases Nat.lt_or_ge j (putI x).length with h | h
    · rw [List.take_append_of_le_length (by omega)]
      have hi : intAt (B (pre ++ (putI x).take j)) pre.length = (0, 0, 3) := by
        have h0 := intAt_cut x j hr h
        rw [intAt_B, if_neg (by simp)] at h0
        rw [intAt_B, if_neg (by simp; omega)]
        simp only [Int.toNat_natCast, List.drop_left', Int.toNat_zero, List.drop_zero] at h0 ⊢
        rcases hz : rdU 0 0 ((putI x).take j) with ⟨u, c, e⟩
        have h3 := rdU_cut (zig x) 0 0 j (by omega) (by simpa using zig_range hr) h
        unfold putI at hz
        rw [h3] at hz
        simp only [Prod.mk.injEq] at hz
        obtain ⟨rfl, rfl, rfl⟩ := hz
        rfl
      rw [hi]
      simp
    · rw [List.take_append, List.take_of_length_le h]
      have hi := intAt_put pre ((xs.flatMap putI).take (j - (putI x).length)) x hr
      rw [hi]
      simp only [if_true]
      have ih := rdN_cut xs (pre ++ putI x) (acc ++ [x]) (j - (putI x).length) (fun y hy => hw y (by simp [hy])) (by rw [List.length_append] at hj; omega)
      simp only [List.length_append, List.append_assoc] at ih
      exact ih

theorem listAt_cut (xs : List Int) (j : Nat) (most : Int) (hw : ∀ x ∈ xs, (Lit.int .i64 x).wf = true) (hx : xs.length ≤ 140737488355328) (hm : (xs.length : Int) ≤ most) (hj : j < (putL xs).length) : (listAt ((putL xs).take j) 0 most).2.2 = 3 := by
  have hr : -9223372036854775808 ≤ (xs.length : Int) ∧ (xs.length : Int) ≤ 9223372036854775807 := by omega
  unfold putL at hj ⊢
  rw [List.length_append] at hj
  rcases Nat.lt_or_ge j (putI xs.length).length with h | h
  · have hi := intAt_cut xs.length j hr h
    rw [List.take_append_of_le_length (by omega)]
    unfold listAt countAt
    rw [hi]
    simp
  · rw [List.take_append, List.take_of_length_le h]
    have hi := intAt_put [] ((xs.flatMap putI).take (j - (putI xs.length).length)) xs.length hr
    simp only [List.nil_append, List.length_nil, Nat.zero_add] at hi
    rw [show ((0 : Nat) : Int) = 0 from rfl] at hi
    have hc : countAt (putI xs.length ++ (xs.flatMap putI).take (j - (putI xs.length).length)) 0 most = ((xs.length : Int), (((putI xs.length).length : Nat) : Int), 0) := by
      unfold countAt
      rw [hi]
      simp only [if_true]
      rw [if_neg (by omega), if_neg (by omega)]
    unfold listAt
    rw [hc]
    simp only [if_true, Int.toNat_natCast]
    exact rdN_cut xs (putI xs.length) [] _ hw (by omega)

end Go.Proofs.Ytpebhbhdkmpjeaa.Gwd

/- The bytes of texts and lists, and what any bytes mean as them, or the error. -/
namespace Go.Proofs.Ytpebhbhdkmpjeaa.Pure
open Go Go.RowKit Go.Proofs.Ytpebhbhdkmpjeaa.Gm Go.Proofs.Ytpebhbhdkmpjeaa.Gwa Go.Proofs.Ytpebhbhdkmpjeaa.Gwb Go.Proofs.Ytpebhbhdkmpjeaa.Gwc Go.Proofs.Ytpebhbhdkmpjeaa.Gwd Go.Proofs.Ytpebhbhdkmpjeaa.Q Go.Proofs.Ytpebhbhdkmpjeaa.Gput Go.Proofs.Ytpebhbhdkmpjeaa.Gputl Go.Proofs.YtpebhbhdkmpjeaaW.PrintWords Go.Proofs.YtpebhbhdkmpjeaaW.PrintLast

theorem mod_cut8 (c : Int) (n : Nat) (hc : 0 ≤ c ∧ c ≤ 255) (hn : 0 < n) (hb : n ≤ 100000000) : ∃ j : Nat, Int.tmod (wrap64 c) (n : Int) = j ∧ j < n := by
  rw [w64 (by omega)]
  rw [Int.tmod_eq_emod_of_nonneg hc.1]
  have h1 := Int.emod_nonneg c (b := (n : Int)) (by omega)
  have h2 := Int.emod_lt_of_pos c (b := (n : Int)) (by omega)
  exact ⟨(c % n).toNat, by omega, by omega⟩

theorem rdN_len (l : List UInt8) : ∀ (n : Nat) (a : Int) (acc : List Int), (acc.length : Int) ≤ a → a ≤ l.length → (rdN l n a acc).1.length ≤ l.length := by
  intro n
  induction n with
  | zero => intro a acc h1 h2; simp only [rdN]; omega
  | succ n ih =>
    intro a acc h1 h2
    simp only [rdN]
    rcases hi : intAt (B l) a with ⟨x, c, e⟩
    simp only
    by_cases he : e = 0
    · subst he
      obtain ⟨h3, h4, h5, -⟩ := intAt_ok hi
      rw [if_pos rfl]
      exact ih c (acc ++ [x]) (by simp; omega) h5
    · rw [if_neg he]
      simp

theorem listAt_len (l : List UInt8) (a m : Int) : (listAt l a m).1.length ≤ l.length := by
  unfold listAt
  rcases hc : countAt l a m with ⟨x, n, e⟩
  simp only
  by_cases he : e = 0
  · subst he
    obtain ⟨h1, -, -⟩ := countAt_ok hc
    obtain ⟨h4, h5, h6, -⟩ := intAt_ok h1
    rw [if_pos rfl]
    exact rdN_len l _ n [] (by simp; omega) h6
  · rw [if_neg he]
    simp

section
variable (x1 : ByteArray) (x2 : List Int) (x3 x4 : Int)

theorem wt_l2 (v : List UInt8) (hv : v.length ≤ 20000) (x18 : Int) (x89 : List ByteArray) (x90 x91 : Int) (x96 : List Int) (x97 x98 : Int) (x107 : List Int) (h107 : x107.length ≤ 100) (K : Nat)
    (hc : ∀ k, K ≤ k → storagebarterlaw01_WireTexts.l1 k x1 x2 x3 x4 (B v) x89 x90 x91 x96 x97 (wrap64 (x98 + 1)) = some true) :
    ∀ (d i k : Nat), x107.length - i = d → i ≤ x107.length → K + 21000 + 2 * d ≤ k → storagebarterlaw01_WireTexts.l2 k x1 x2 x3 x4 (B v) x18 x89 x90 x91 x96 x97 x98 x107 (x107.length : Int) (i : Int) = some true := by
  intro d
  induction d with
  | zero =>
    intro i k hd hi hk
    obtain ⟨k, rfl⟩ : ∃ m, k = m + 1 := ⟨k - 1, by omega⟩
    rw [storagebarterlaw01_WireTexts.l2, if_neg (by omega)]
    exact hc k (by omega)
  | succ d ih =>
    intro i k hd hi hk
    obtain ⟨k, rfl⟩ : ∃ m, k = m + 2 := ⟨k - 2, by omega⟩
    have hlen := listAt_len v x18 (rd x107 (i : Int))
    rw [storagebarterlaw01_WireTexts.l2, if_pos (by omega), if_pos (by omega), if_pos (by omega), wire_Text_eq v _ _ _ (by omega) (by omega), Option.bind_some, ref_Text_eq v _ _ _ (by omega) (by omega), Option.bind_some, if_pos rfl, if_pos rfl,
      storagebarterlaw01_WireTexts.j5, if_neg (by simp), wire_List_eq v _ _ _ (by omega) (by omega), Option.bind_some, ref_List_eq v _ _ _ (by omega) (by omega), Option.bind_some, same_eq _ _ _ (by omega) (by omega), Option.bind_some, if_pos (by simp), if_pos rfl, if_pos rfl,
      w64 (by omega), show ((i : Int) + 1) = ((i + 1 : Nat) : Int) by omega]
    exact ih (i + 1) k (by omega) (by omega) (by omega)

set_option maxRecDepth 100000 in
theorem wt_l1 (v : List UInt8) (hv : v.length ≤ 20000) (x89 : List ByteArray) (x90 x91 : Int) (x96 : List Int) (h96 : x96.length ≤ 100) (K : Nat)
    (hc : ∀ k, K ≤ k → storagebarterlaw01_WireTexts.l0 k x1 x2 x3 x4 x89 x90 (wrap64 (x91 + 1)) = some true) :
    ∀ (d i k : Nat), x96.length - i = d → i ≤ x96.length → K + 1 + 22000 * d ≤ k → storagebarterlaw01_WireTexts.l1 k x1 x2 x3 x4 (B v) x89 x90 x91 x96 (x96.length : Int) (i : Int) = some true := by
  intro d
  induction d with
  | zero =>
    intro i k hd hi hk
    obtain ⟨k, rfl⟩ : ∃ m, k = m + 1 := ⟨k - 1, by omega⟩
    rw [storagebarterlaw01_WireTexts.l1, if_neg (by omega)]
    exact hc k (by omega)
  | succ d ih =>
    intro i k hd hi hk
    obtain ⟨k, rfl⟩ : ∃ m, k = m + 1 := ⟨k - 1, by omega⟩
    rw [storagebarterlaw01_WireTexts.l1, if_pos (by omega), if_pos (by omega), if_pos (by omega), Option.bind_some]
    have hlen4 : ([x4, 5000, (x1.size : Int), (x2.length : Int)] : List Int).length = 4 := rfl
    have hk2 : K + 1 + 22000 * d + 21000 + 2 * 4 ≤ k := by omega
    refine wt_l2 x1 x2 x3 x4 v hv (rd x96 (i : Int)) x89 x90 x91 x96 (x96.length : Int) (i : Int) [x4, 5000, (x1.size : Int), (x2.length : Int)] (by omega) (K + 1 + 22000 * d) ?_ 4 0 k (by omega) (by omega) hk2
    intro j hj
    rw [w64 (by omega), show ((i : Int) + 1) = ((i + 1 : Nat) : Int) by omega]
    exact ih (i + 1) j (by omega) (by omega) (by omega)

set_option maxRecDepth 100000 in
theorem wt_l0 (x89 : List ByteArray) (h89 : x89.length ≤ 100) (hv : ∀ v ∈ x89, v.size ≤ 20000) :
    ∀ (d i k : Nat), x89.length - i = d → i ≤ x89.length → 1 + 50000 * d ≤ k → storagebarterlaw01_WireTexts.l0 k x1 x2 x3 x4 x89 (x89.length : Int) (i : Int) = some true := by
  intro d
  induction d with
  | zero =>
    intro i k hd hi hk
    obtain ⟨k, rfl⟩ : ∃ m, k = m + 1 := ⟨k - 1, by omega⟩
    rw [storagebarterlaw01_WireTexts.l0, if_neg (by omega)]
  | succ d ih =>
    intro i k hd hi hk
    obtain ⟨k, rfl⟩ : ∃ m, k = m + 1 := ⟨k - 1, by omega⟩
    rw [storagebarterlaw01_WireTexts.l0, if_pos (by omega), if_pos (by omega), if_pos (by omega), Option.bind_some]
    have hm : rdOf ByteArray.empty x89 (i : Int) ∈ x89 := by
      unfold rdOf
      rw [Int.toNat_natCast, List.getD_eq_getElem?_getD, List.getElem?_eq_getElem (show i < x89.length by omega), Option.getD_some]
      exact List.getElem_mem _
    have hs := hv _ hm
    obtain ⟨v, e⟩ := exB (rdOf ByteArray.empty x89 (i : Int))
    rw [e] at hs ⊢
    rw [B_size] at hs
    have hlen2 : ([x3, 0] : List Int).length = 2 := rfl
    have hk2 : (1 + 50000 * d) + 1 + 22000 * 2 ≤ k := by omega
    refine wt_l1 x1 x2 x3 x4 v hs x89 (x89.length : Int) (i : Int) [x3, 0] (by omega) (1 + 50000 * d) ?_ 2 0 k (by omega) (by omega) hk2
    intro j hj
    rw [w64 (by omega), show ((i : Int) + 1) = ((i + 1 : Nat) : Int) by omega]
    exact ih (i + 1) j (by omega) (by omega) (by omega)
end

theorem WireTexts : storagebarterlaw01_WireTexts.Pure := by
  intro a0 a1 l at_ most cut hs ht hlm hl8 hl hat hmost hcut
  obtain ⟨s, rfl⟩ := exB a0
  obtain ⟨t, rfl⟩ := exB a1
  rw [B_size] at hs ht
  have hc := bounds_u8 hcut
  have hr := bounds_i64 hmost
  refine ⟨1000000, ?_⟩
  unfold storagebarterlaw01_WireTexts.f
  rw [law01_sane _ (by omega), Option.bind_some, if_pos rfl, B_size, B_size, w64 (by omega)]
  by_cases hbig : ((s.length : Int) + t.length > 4000)
  · rw [if_pos hbig, storagebarterlaw01_WireTexts.j0, if_pos rfl]
  rw [if_neg hbig]
  by_cases hbl : (l.length : Int) > 400
  · rw [storagebarterlaw01_WireTexts.j0, if_pos (by simpa using hbl)]
  have hp := putI_len hr
  have hp0 := putI_pos most
  have hrt : -9223372036854775808 ≤ (t.length : Int) ∧ (t.length : Int) ≤ 9223372036854775807 := by omega
  have hpt := putI_len hrt
  have hpt0 := putI_pos t.length
  have hrl : -9223372036854775808 ≤ (l.length : Int) ∧ (l.length : Int) ≤ 9223372036854775807 := by omega
  have hplen : 0 < (putL l).length ∧ (putL l).length ≤ 10 * (l.length + 1) := by
    have h0 := putI_pos l.length
    have h1 := putI_len hrl
    have h2 := Gputl.flat_len l (List.all_eq_true.2 hl) l.length
    rw [List.take_length] at h2
    unfold putL
    rw [List.length_append]
    omega
  rw [storagebarterlaw01_WireTexts.j0, if_neg (by simpa using hbl), wire_PutText_eq s t (by omega) (by omega), Option.bind_some, ref_PutText_eq s t _ (by omega) (by omega) (by omega), Option.bind_some, if_pos rfl,
    wire_PutList_eq s l hl (by omega), Option.bind_some, ref_PutList_eq s l _ hl (by omega) (by omega) (by omega), Option.bind_some, storagebarterlaw01_WireTexts.j1, if_neg (by simp), show (⟨#[]⟩ : ByteArray) = B [] from rfl,
    ref_PutText_eq [] t _ (by simp) (by omega) (by omega), Option.bind_some, ref_PutList_eq [] l _ hl (by omega) (by simp) (by omega), Option.bind_some]
  simp only [List.nil_append]
  have hT : (putI t.length ++ t).length = (putI t.length).length + t.length := List.length_append
  obtain ⟨j2, e2, h2⟩ := mod_cut8 cut (putI t.length ++ t).length (by omega) (by omega) (by omega)
  obtain ⟨j3, e3, h3⟩ := mod_cut8 cut (putL l).length (by omega) hplen.1 (by omega)
  rw [B_size, B_size, if_pos (by omega), if_neg (by omega), e2, if_pos (by omega), if_pos (by omega), B_size, if_pos (by omega), if_neg (by omega), e3, if_pos (by omega), if_pos (by omega), ref_PutInt_eq [] most _ (by simp) hr (by omega), Option.bind_some, B_size, B_size, List.nil_append, if_pos (by omega), Option.bind_some]
  refine wt_l0 (B t) l at_ most _ (by simp) ?_ 8 0 _ rfl (by simp) (by omega)
  intro v hv
  simp only [List.mem_cons, List.not_mem_nil, or_false] at hv
  rcases hv with rfl | rfl | rfl | rfl | rfl | rfl | rfl | rfl <;> simp only [B_append, B_extract, B_size, List.length_append, List.length_drop, List.length_take] <;> omega

end Go.Proofs.Ytpebhbhdkmpjeaa.Pure

namespace Go.Proofs.Ytpebhbhdkmpjeaa.wireTexts
open Go.ChangeShapes Go.WideShapes Go.ChangeAt Go.RowKit
open Go.ChangeMaps (open_string shut_string)
set_option linter.unusedVariables false
theorem own : ownKnob Try.prog.godebug = none := by kernel_rfl
theorem laidOut : laidOutB Try.prog = true := by kernel_rfl
def IsRow (k : IntKind) (w : World) (a : Option Addr) (len cap : Nat) (zs : List Int) : Prop :=
  (a = none ∧ len = 0 ∧ cap = 0 ∧ zs = []) ∨
  ∃ x, a = some x ∧ len ≤ cap ∧ cap ≤ maxLen ∧ zs.length = cap ∧ (∀ i, i < zs.length → w.cell? (x.add i) = some (.int k (zs.getD i 0))) ∧ ∀ n ∈ zs, (Lit.int k n).wf = true
set_option maxRecDepth 100000 in
theorem lifted (os : Os) (started : os.Started) (H : Type) (enc : TypeId × Value → H) :
    ReturnsInHanded {} Try.checked os 7 .any (Rows.wireTextsSpec.pre6 enc Try.prog Try.f7 Rows.wireTextsRow.domain false) (Rows.wireTextsSpec.post enc Try.prog Try.f7 false true false false) := by
  refine returnsInHanded_of_change_sized (C := Try.checked) own started (by kernel_rfl) Try.func7
    (ChangeSpec.witness6 (enc := enc) (C := Try.checked) false ⟨#[], #[.string ByteArray.empty, .string ByteArray.empty, .slice none 0 0, .int .i64 0, .int .i64 0, .int .u8 0], []⟩ 8 (by kernel_rfl) (by kernel_rfl) (by kernel_rfl) (by kernel_rfl)) ?_
  intro W base args ds gs before hval0 hW hcnd hsz0 _
  have hsz : (DataW.weightsEach Try.prog (Try.f7.params.toList ++ Rows.wireTextsSpec.plain.varTypes Try.prog) (ds ++ gs)).all (· ≤ reachBytes) = true := hsz0
  have hval : ∀ (j : Nat) t v, Try.f7.params[j]? = some t → args[j]? = some v → Value.okWide Try.prog W .any base t v := hval0
  have hW' := hW
  obtain ⟨p, q, hA0, hV, rfl, hfz, hnd⟩ := hW
  have hA : DataW.TrodAll enc Try.prog W 0 (fun _ => true) true Try.f7.params.toList args.toList ds p := hA0
  rw [Try.params7] at hA hval hsz
  obtain ⟨v0, vs0, d0, ds0, p0, q0, hargs, rfl, rfl, h0, r0⟩ := trodAll_cons hA
  obtain ⟨v1, vs1, d1, ds1, p1, q1, rfl, rfl, rfl, h1, r1⟩ := trodAll_cons r0
  obtain ⟨v2, vs2, d2, ds2, p2, q2, rfl, rfl, rfl, h2, r2⟩ := trodAll_cons r1
  obtain ⟨v3, vs3, d3, ds3, p3, q3, rfl, rfl, rfl, h3, r3⟩ := trodAll_cons r2
  obtain ⟨v4, vs4, d4, ds4, p4, q4, rfl, rfl, rfl, h4, r4⟩ := trodAll_cons r3
  obtain ⟨v5, vs5, d5, ds5, p5, q5, rfl, rfl, rfl, h5, r5⟩ := trodAll_cons r4
  obtain ⟨rfl, rfl, rfl⟩ := trodAll_nil r5
  obtain rfl : args = #[v0, v1, v2, v3, v4, v5] := by cases args; simp_all
  obtain ⟨rfl, rfl⟩ := trodVars_none hV
  obtain ⟨a0, rfl, rfl, rfl, y0⟩ := open_string Try.underlying9 (hval 0 9 v0 rfl rfl) h0
  have w0 : a0.size ≤ 140737488351232 := by
    have z := sized_string hsz (j := 0) (t := 9) rfl rfl
    rw [Array.length_toList] at z
    exact z
  obtain ⟨a1, rfl, rfl, rfl, y1⟩ := open_string Try.underlying9 (hval 1 9 v1 rfl rfl) h1
  have w1 : a1.size ≤ 140737488351232 := by
    have z := sized_string hsz (j := 1) (t := 9) rfl rfl
    rw [Array.length_toList] at z
    exact z
  obtain ⟨a2, len2, cap2, rfl⟩ := okWide_slice Try.underlying27 (hval 2 27 v2 rfl rfl)
  have k2 := h2
  have lt2 : ∀ x ∈ p2, x.block < W.heap.size := by obtain ⟨m, hm⟩ := k2; exact DataW.trod_lt m _ _ _ hm
  obtain ⟨z2, w2⟩ : ∃ zs, IsRow .i64 W a2 len2 cap2 zs := by
    obtain ⟨fuel, hf⟩ := h2
    rcases open_ints Try.underlying27 Try.underlying3 (by kernel_rfl) hf with ⟨hcs, _⟩ | ⟨x, l, c, zs, hcs, _, hl, hm, hz, _, hcell, hwz⟩
    · simp [Value.cells] at hcs
      obtain ⟨rfl, rfl, rfl⟩ := hcs
      exact ⟨[], .inl ⟨rfl, rfl, rfl, rfl⟩⟩
    · simp [Value.cells] at hcs
      obtain ⟨rfl, rfl, rfl⟩ := hcs
      exact ⟨zs, .inr ⟨_, rfl, hl, hm, by simpa using hz, hcell, hwz⟩⟩
  have y2 : len2 * 8 ≤ 140737488351232 := Go.Proofs.YtpebhbhdkmpjeaaW.PrintWords.sized_ints hsz (j := 2) (t := 27) rfl rfl Try.underlying27 Try.underlying3 (by kernel_rfl) (by kernel_rfl) h2
  obtain ⟨a3, rfl, rfl, rfl, w3⟩ := open_int Try.underlying3 (hval 3 3 v3 rfl rfl) h3
  obtain ⟨a4, rfl, rfl, rfl, w4⟩ := open_int Try.underlying3 (hval 4 3 v4 rfl rfl) h4
  obtain ⟨a5, rfl, rfl, rfl, w5⟩ := open_int Try.underlying5 (hval 5 5 v5 rfl rfl) h5
  clear hA0 hval0 hsz0 hsz
  refine (Q.storagebarterlaw01_WireTexts.walk Pure.WireTexts a0 a1 a2 len2 cap2 z2 a3 a4 a5 W w0 w1 w2 y2 w3 w4 w5).mono fun e W' ⟨he, bel⟩ => ?_
  subst he
  exact ⟨_, rfl, _, _, _, [], _, [], hW', trodAll_mk1 (shut_bool Try.underlying4 _), (trodAll_cons_mk (shut_string Try.underlying9 y0) (trodAll_cons_mk (shut_string Try.underlying9 y1) (trodAll_cons_mk (Below.trod laidOut (by kernel_rfl) (of_decide_eq_true (by kernel_rfl)) k2 bel lt2) (trodAll_cons_mk (shut_int Try.underlying3 w3) (trodAll_cons_mk (shut_int Try.underlying3 w4) (trodAll_cons_mk (shut_int Try.underlying5 w5) trodAll_mk0)))))), rfl, bel.frame _, fun h => by cases h⟩
theorem over : Rows.wireTextsRow.holds Try.pinned (OpenSpec.ofChange Rows.wireTextsSpec) :=
  OpenClaim.holds_of_wide 7 Try.f7 rfl rfl rfl rfl rfl rfl rfl ⟨rfl, rfl, rfl, rfl, rfl⟩ rfl rfl rfl rfl rfl (by kernel_rfl) Try.func7 (by kernel_rfl)
    (of_decide_eq_true (by kernel_rfl)) (by unfold Func.isWrapper; first | (rw [if_pos (by decide +kernel)]; kernel_rfl) | (rw [if_neg (by decide +kernel)]; exact ⟨rfl, rfl⟩))
    (fun os started H enc _ => lifted os started H enc)
theorem proved : Rows.WireTextsSaid := over
#print axioms proved
end Go.Proofs.Ytpebhbhdkmpjeaa.wireTexts
namespace Go.Proofs.Ytpebhbhdkmpjeaa
/-- The row, under a short name, for the claim. -/
theorem wireTexts_holds : Rows.WireTextsSaid := wireTexts.proved
end Go.Proofs.Ytpebhbhdkmpjeaa
