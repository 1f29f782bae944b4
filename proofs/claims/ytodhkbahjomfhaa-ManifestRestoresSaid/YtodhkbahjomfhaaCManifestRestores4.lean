/- A version leads back to its text from its chunks in any order, among others, unless one of these clashes with them: for all choices and texts. -/
import Derived.Test.YtodhkbahjomfhaaCManifestRestores2
import Derived.Test.YtodhkbahjomfhaaCManifestRestores3
import Derived.Test.YtodhkbahjomfhaaRows
import Derived.SliceStrings
import Derived.WalkKit
import Derived.ProofKit
import Derived.OpenShut
import Derived.ShutString
import Derived.ChangeOld
import Derived.Below
import Derived.SizedLaws
import Derived.Test.YtodhkbahjomfhaaWSized
namespace Go.Proofs.Ytodhkbahjomfhaa.Q
open Go.RowKit Go.Proofs.YtodhkbahjomfhaaW.PrintWords Go.Proofs.YtodhkbahjomfhaaW.PrintLast Go.Proofs.YtodhkbahjomfhaaW.PrintMore Go.Proofs.Ytodhkbahjomfhaa.Gput Go.Proofs.Ytodhkbahjomfhaa.Gputl
attribute [local go_sem] max2_int min2_int max_two min_two max_three min_three max_four min_four   -- for this text's walks alone
set_option linter.unusedVariables false
set_option linter.unusedSimpArgs false

/-! ### storagebarterlaw08_all: function 21 -/
mutual
noncomputable def storagebarterlaw08_all.l0 : Nat → List ByteArray → List ByteArray → Int → Int → Option (Bool)
  | 0, _, _, _, _ => none
  | k + 1, x0, x10, x11, x12 => if x12 < x11 then (if 0 ≤ x12 then (if x12 < (x10.length : Int) then (storagebarterlaw08_all.l1 k x0 (rdOf ByteArray.empty x10 x12) false x10 x11 x12 x0 (x0.length : Int) 0) else (none)) else (none)) else (some true)
noncomputable def storagebarterlaw08_all.l1 : Nat → List ByteArray → ByteArray → Bool → List ByteArray → Int → Int → List ByteArray → Int → Int → Option (Bool)
  | 0, _, _, _, _, _, _, _, _, _ => none
  | k + 1, x0, x6, x7, x10, x11, x12, x16, x17, x18 => if x18 < x17 then (if 0 ≤ x18 then (if x18 < (x16.length : Int) then (if x7 = true then (storagebarterlaw08_all.l1 k x0 x6 true x10 x11 x12 x16 x17 (wrap64 (x18 + 1))) else (storagebarterlaw08_all.l1 k x0 x6 (x6.toList == (rdOf ByteArray.empty x16 x18).toList) x10 x11 x12 x16 x17 (wrap64 (x18 + 1)))) else (none)) else (none)) else (if x7 = true then (storagebarterlaw08_all.l0 k x0 x10 x11 (wrap64 (x12 + 1))) else (some false))
end
noncomputable def storagebarterlaw08_all.f (k : Nat) (l0 : List ByteArray) (l1 : List ByteArray) : Option (Bool) := storagebarterlaw08_all.l0 k l0 l1 (l1.length : Int) 0
theorem storagebarterlaw08_all.mono_l : ∀ k, (∀ y0 y1 y2 y3, LeO (storagebarterlaw08_all.l0 k y0 y1 y2 y3) (storagebarterlaw08_all.l0 (k + 1) y0 y1 y2 y3)) ∧ (∀ y0 y1 y2 y3 y4 y5 y6 y7 y8, LeO (storagebarterlaw08_all.l1 k y0 y1 y2 y3 y4 y5 y6 y7 y8) (storagebarterlaw08_all.l1 (k + 1) y0 y1 y2 y3 y4 y5 y6 y7 y8))
  | 0 => ⟨fun _ _ _ _ r h => by simp [storagebarterlaw08_all.l0] at h, fun _ _ _ _ _ _ _ _ _ r h => by simp [storagebarterlaw08_all.l1] at h⟩
  | k + 1 => by
    obtain ⟨ih0, ih1⟩ := storagebarterlaw08_all.mono_l k
    refine ⟨?_, ?_⟩
    · intro y0 y1 y2 y3
      unfold storagebarterlaw08_all.l0
      repeat' first
      | (with_reducible exact ih0 _ _ _ _)
      | (with_reducible exact ih1 _ _ _ _ _ _ _ _ _)
      | (with_reducible exact LeO.refl _)
      | (with_reducible exact LeO.none _)
      | (with_reducible refine LeO.ite ?_ ?_)
      | (with_reducible refine LeO.bind ?_ (fun _ => ?_))
      | exact ih0 _ _ _ _
      | exact ih1 _ _ _ _ _ _ _ _ _
      | exact LeO.none _
      | refine LeO.ite ?_ ?_
      | refine LeO.bind ?_ (fun _ => ?_)
    · intro y0 y1 y2 y3 y4 y5 y6 y7 y8
      unfold storagebarterlaw08_all.l1
      repeat' first
      | (with_reducible exact ih0 _ _ _ _)
      | (with_reducible exact ih1 _ _ _ _ _ _ _ _ _)
      | (with_reducible exact LeO.refl _)
      | (with_reducible exact LeO.none _)
      | (with_reducible refine LeO.ite ?_ ?_)
      | (with_reducible refine LeO.bind ?_ (fun _ => ?_))
      | exact ih0 _ _ _ _
      | exact ih1 _ _ _ _ _ _ _ _ _
      | exact LeO.none _
      | refine LeO.ite ?_ ?_
      | refine LeO.bind ?_ (fun _ => ?_)
theorem storagebarterlaw08_all.mono : ∀ a0 a1 k, LeO (storagebarterlaw08_all.f k a0 a1) (storagebarterlaw08_all.f (k + 1) a0 a1) := by
  intro a0 a1 k
  obtain ⟨ih0, ih1⟩ := storagebarterlaw08_all.mono_l k
  unfold storagebarterlaw08_all.f
  repeat' first
      | (with_reducible exact ih0 _ _ _ _)
      | (with_reducible exact ih1 _ _ _ _ _ _ _ _ _)
      | (with_reducible exact LeO.refl _)
      | (with_reducible exact LeO.none _)
      | (with_reducible refine LeO.ite ?_ ?_)
      | (with_reducible refine LeO.bind ?_ (fun _ => ?_))
      | exact ih0 _ _ _ _
      | exact ih1 _ _ _ _ _ _ _ _ _
      | exact LeO.none _
      | refine LeO.ite ?_ ?_
      | refine LeO.bind ?_ (fun _ => ?_)
set_option maxHeartbeats 8000000 in
set_option maxRecDepth 100000 in
theorem storagebarterlaw08_all.calls (k : Nat) (A0 : Option Addr) (c0 : Nat) (l0 : List ByteArray) (A1 : Option Addr) (c1 : Nat) (l1 : List ByteArray) (r : Bool) (w : World) (hr0 : Kd.C Kd.string w A0 l0.length l0) (hc0 : l0.length ≤ c0) (hr1 : Kd.C Kd.string w A1 l1.length l1) (hc1 : l1.length ≤ c1) (h : storagebarterlaw08_all.f k l0 l1 = some r) :
    Calls Try.prog 21 #[.slice A0 l0.length c0, .slice A1 l1.length c1] w fun e w' => e = .returned (.bool r) ∧ Drawn0 w w' := by
  have HR0 := Aside0.mk hr0
  have HC0 := Aside0.mk hc0
  clear hr0 hc0
  have HR1 := Aside0.mk hr1
  have HC1 := Aside0.mk hc1
  clear hr1 hc1
  have H : (storagebarterlaw08_all.l0 k l0 l1 (l1.length : Int) 0) = some r := h
  clear h
  have H' := Aside0.mk H
  clear H
  go_enter Try.func21, Try.ntmps21
  go_wp2
  go_loopg [12] k (fun kq v12 w' => ∃ (x12_1 : Int), v12 = .int .i64 x12_1 ∧ Aside0 (storagebarterlaw08_all.l0 kq l0 l1 (l1.length : Int) x12_1 = some r) ∧ Aside0 (kq ≤ k) ∧ Drawn0 w w')
  case atStart => exact ⟨(0), (by first | rfl | (simp; done) | (simp [*]; done)), H', ⟨Nat.le_refl _⟩, by repeat (first | exact Drawn0.refl _ | apply Drawn0.step)⟩
  case round =>
    clear H'
    try clear c1
    try clear c2
    try clear p2
    obtain ⟨x12_1, rfl, HA, HK1, ⟨m1, rfl⟩⟩ := hrel
    cases gk with
    | zero => exact absurd HA.out (by simp [storagebarterlaw08_all.l0])
    | succ k1 =>
      have H := HA.out
      clear HA
      simp only [storagebarterlaw08_all.l0] at H
      by_cases c3 : x12_1 < (l1.length : Int)
      · rw [if_pos c3] at H
        have c3b0 : decide (x12_1 < (l1.length : Int)) = true := decide_eq_true c3
        clear c3
        by_cases c4 : 0 ≤ x12_1
        · rw [if_pos c4] at H
          have c4b0 : decide (0 ≤ x12_1) = true := decide_eq_true c4
          clear c4
          by_cases c5 : x12_1 < (l1.length : Int)
          · rw [if_pos c5] at H
            have c5b0 : decide (x12_1 < (l1.length : Int)) = true := decide_eq_true c5
            clear c5
            have H' := Aside0.mk H
            clear H
            have p206 : 0 ≤ (x12_1 : Int) := of_decide_eq_true (by first | (with_reducible assumption) | assumption)
            have q206 : x12_1 < (l1.length : Int) := of_decide_eq_true (by first | (with_reducible assumption) | assumption)
            obtain ⟨ad206, e206, hx206_0⟩ := Kd.at_string HR1.out x12_1 p206 q206
            cases e206
            replace p206 := eq_true p206
            replace q206 := eq_true q206
            go_wp2
            go_loopg [7, 18] k1 (fun kq v7 v18 w' => ∃ (x7_2 : Bool) (x18_2 : Int), v7 = .bool x7_2 ∧ v18 = .int .i64 x18_2 ∧ Aside0 (storagebarterlaw08_all.l1 kq l0 (rdOf ByteArray.empty l1 x12_1) x7_2 l1 (l1.length : Int) x12_1 l0 (l0.length : Int) x18_2 = some r) ∧ Aside0 (kq ≤ k1) ∧ Drawn0 w w')
            case atStart => exact ⟨(false), (0), (by first | rfl | (simp; done) | (simp [*]; done)), (by first | rfl | (simp; done) | (simp [*]; done)), H', ⟨Nat.le_refl _⟩, by repeat (first | exact Drawn0.refl _ | apply Drawn0.step)⟩
            case round =>
              clear H'
              try clear c1
              try clear c2
              try clear p2
              try clear q2
              try clear hx2
              try clear c3
              try clear c3b0
              try clear c4
              try clear c4b0
              try clear c5
              try clear c5b0
              try clear hx206_0
              try clear p2
              try clear p206
              try clear q206
              obtain ⟨x7_2, x18_2, rfl, rfl, HA, HK2, ⟨m2, rfl⟩⟩ := hrel
              cases gk with
              | zero => exact absurd HA.out (by simp [storagebarterlaw08_all.l1])
              | succ k2 =>
                have H := HA.out
                clear HA
                simp only [storagebarterlaw08_all.l1] at H
                by_cases c6 : x18_2 < (l0.length : Int)
                · rw [if_pos c6] at H
                  have c6b0 : decide (x18_2 < (l0.length : Int)) = true := decide_eq_true c6
                  clear c6
                  by_cases c7 : 0 ≤ x18_2
                  · rw [if_pos c7] at H
                    have c7b0 : decide (0 ≤ x18_2) = true := decide_eq_true c7
                    clear c7
                    by_cases c8 : x18_2 < (l0.length : Int)
                    · rw [if_pos c8] at H
                      have c8b0 : decide (x18_2 < (l0.length : Int)) = true := decide_eq_true c8
                      clear c8
                      by_cases c9 : x7_2 = true
                      · subst c9
                        have H1 : (storagebarterlaw08_all.l1 k2 l0 (rdOf ByteArray.empty l1 x12_1) true l1 (l1.length : Int) x12_1 l0 (l0.length : Int) (wrap64 (x18_2 + 1))) = some r := by rw [if_pos rfl] at H; exact H
                        clear H
                        have H := H1
                        clear H1
                        have H' := Aside0.mk H
                        clear H
                        have p207 : 0 ≤ (x18_2 : Int) := of_decide_eq_true (by first | (with_reducible assumption) | assumption)
                        have q207 : x18_2 < (l0.length : Int) := of_decide_eq_true (by first | (with_reducible assumption) | assumption)
                        obtain ⟨ad207, e207, hx207_0⟩ := Kd.at_string HR0.out x18_2 p207 q207
                        cases e207
                        replace p207 := eq_true p207
                        replace q207 := eq_true q207
                        go_wp2
                        go_roundg k2
                        case measure => have := HK1.out; have := HK2.out; omega
                        case rel => exact ⟨(true), (wrap64 (x18_2 + 1)), (by first | rfl | (simp; done) | (simp [*]; done)), (by first | rfl | (simp; done) | (simp [*]; done)), H', ⟨by have := HK1.out; have := HK2.out; omega⟩, by repeat (first | exact Drawn0.refl _ | apply Drawn0.step)⟩
                      · replace c9 := Bool.eq_false_iff.mpr c9
                        subst c9
                        have H1 : (storagebarterlaw08_all.l1 k2 l0 (rdOf ByteArray.empty l1 x12_1) ((rdOf ByteArray.empty l1 x12_1).toList == (rdOf ByteArray.empty l0 x18_2).toList) l1 (l1.length : Int) x12_1 l0 (l0.length : Int) (wrap64 (x18_2 + 1))) = some r := by rw [if_neg (show ¬ (false = true) by decide)] at H; exact H
                        clear H
                        have H := H1
                        clear H1
                        have H' := Aside0.mk H
                        clear H
                        have p207 : 0 ≤ (x18_2 : Int) := of_decide_eq_true (by first | (with_reducible assumption) | assumption)
                        have q207 : x18_2 < (l0.length : Int) := of_decide_eq_true (by first | (with_reducible assumption) | assumption)
                        obtain ⟨ad207, e207, hx207_0⟩ := Kd.at_string HR0.out x18_2 p207 q207
                        cases e207
                        replace p207 := eq_true p207
                        replace q207 := eq_true q207
                        go_wp2
                        go_roundg k2
                        case measure => have := HK1.out; have := HK2.out; omega
                        case rel => exact ⟨(((rdOf ByteArray.empty l1 x12_1).toList == (rdOf ByteArray.empty l0 x18_2).toList)), (wrap64 (x18_2 + 1)), (by first | rfl | (simp; done) | (simp [*]; done)), (by first | rfl | (simp; done) | (simp [*]; done)), H', ⟨by have := HK1.out; have := HK2.out; omega⟩, by repeat (first | exact Drawn0.refl _ | apply Drawn0.step)⟩
                    · rw [if_neg c8] at H
                      exact absurd H (by simp)
                  · rw [if_neg c7] at H
                    exact absurd H (by simp)
                · rw [if_neg c6] at H
                  have c6b0 : decide (x18_2 < (l0.length : Int)) = false := decide_eq_false c6
                  clear c6
                  by_cases c10 : x7_2 = true
                  · subst c10
                    have H1 : (storagebarterlaw08_all.l0 k2 l0 l1 (l1.length : Int) (wrap64 (x12_1 + 1))) = some r := by rw [if_pos rfl] at H; exact H
                    clear H
                    have H := H1
                    clear H1
                    have H' := Aside0.mk H
                    clear H
                    go_wp2
                    go_roundg k2
                    case measure => have := HK1.out; have := HK2.out; omega
                    case rel => exact ⟨(wrap64 (x12_1 + 1)), (by first | rfl | (simp; done) | (simp [*]; done)), H', ⟨by have := HK1.out; have := HK2.out; omega⟩, by repeat (first | exact Drawn0.refl _ | apply Drawn0.step)⟩
                  · replace c10 := Bool.eq_false_iff.mpr c10
                    subst c10
                    have H1 : (some false) = some r := by rw [if_neg (show ¬ (false = true) by decide)] at H; exact H
                    clear H
                    have H := H1
                    clear H1
                    obtain rfl := Option.some.inj H
                    go_wp2
                    go_ret
                    exact ⟨by first | rfl | (simp; done) | (simp [*]; done), by repeat (first | exact Drawn0.refl _ | apply Drawn0.step)⟩
          · rw [if_neg c5] at H
            exact absurd H (by simp)
        · rw [if_neg c4] at H
          exact absurd H (by simp)
      · rw [if_neg c3] at H
        have c3b0 : decide (x12_1 < (l1.length : Int)) = false := decide_eq_false c3
        clear c3
        obtain rfl := Option.some.inj H
        go_wp2
        go_ret
        exact ⟨by first | rfl | (simp; done) | (simp [*]; done), by repeat (first | exact Drawn0.refl _ | apply Drawn0.step)⟩

end Go.Proofs.Ytodhkbahjomfhaa.Q

namespace Go.Proofs.Ytodhkbahjomfhaa.Q
open Go.RowKit Go.Proofs.YtodhkbahjomfhaaW.PrintWords Go.Proofs.YtodhkbahjomfhaaW.PrintLast Go.Proofs.YtodhkbahjomfhaaW.PrintMore Go.Proofs.Ytodhkbahjomfhaa.Gput Go.Proofs.Ytodhkbahjomfhaa.Gputl
attribute [local go_sem] max2_int min2_int max_two min_two max_three min_three max_four min_four   -- for this text's walks alone
set_option linter.unusedVariables false
set_option linter.unusedSimpArgs false

/-! ### storagebarterlaw08_ManifestRestores: function 3 -/
mutual
noncomputable def storagebarterlaw08_ManifestRestores.j0 : Nat → List Int → List ByteArray → Int → Bool → Option (Bool)
  | 0, _, _, _, _ => none
  | k + 1, x0, x1, x2, x28 => if x28 = true then (some true) else ((storagebartermake_New.f x0).bind fun bt211 => ((storagebartermake_Chunks.f k bt211.1 bt211.2).bind fun bt214 => ((storagebartermake_Deck_Next.f bt211.1 bt214.2 9).bind fun bt218 => ((manifest_Of.f (wrap64 (1 + bt218.1)) bt214.1).bind fun bt220 => (if bt220.2.2 = 0 then (storagebarterlaw08_ManifestRestores.l0 k x1 x2 bt214.1 (⟨#[]⟩ : ByteArray) bt214.1 (bt214.1.length : Int) 0 bt220.1 bt220.2.1) else (some (bt220.2.2 == 8)))))))
noncomputable def storagebarterlaw08_ManifestRestores.l0 : Nat → List ByteArray → Int → List ByteArray → ByteArray → List ByteArray → Int → Int → Int → List (S78) → Option (Bool)
  | 0, _, _, _, _, _, _, _, _, _ => none
  | k + 1, x1, x2, x8, x11, x45, x46, x47, x226000, x226001 => if x47 < x46 then (if 0 ≤ x47 then (if x47 < (x45.length : Int) then (if x11.size + (rdOf ByteArray.empty x45 x47).size ≤ 9223372036854775807 then (storagebarterlaw08_ManifestRestores.l0 k x1 x2 x8 (x11 ++ (rdOf ByteArray.empty x45 x47)) x45 x46 (wrap64 (x47 + 1)) x226000 x226001) else (none)) else (none)) else (none)) else (if ([] : List ByteArray).length + x1.length < 8796093022208 then (storagebarterlaw08_ManifestRestores.l1 k x1 x2 x8 x11 (([] : List ByteArray) ++ x1) x226000 x226001) else (none))
noncomputable def storagebarterlaw08_ManifestRestores.j3 : Nat → List ByteArray → ByteArray → List ByteArray → Int → List (S78) → Option (Bool)
  | 0, _, _, _, _, _ => none
  | k + 1, x8, x11, x14, x226000, x226001 => (manifest_Restore.f x226000 x226001 x14).bind fun bt234 => (if bt234.2 = 0 then ((manifest_Size.f k x226000 x226001).bind fun bt236 => (if bt236.2 = 0 then (if bt236.1 = (x11.size : Int) then (some (bt234.1.toList == x11.toList)) else (some false)) else (some false))) else (if bt234.2 = 8 then ((manifest_Size.f k x226000 x226001).bind fun bt238 => (if bt238.2 = 0 then (if bt238.1 = (x11.size : Int) then (some true) else (some false)) else (some false))) else (if (x8.length : Int) > 0 then ((storagebarterlaw08_all.f k x14 x8).bind fun t240 => (if t240 = true then (some false) else ((manifest_Size.f k x226000 x226001).bind fun bt241 => (if bt241.2 = 0 then (if bt241.1 = (x11.size : Int) then (some true) else (some false)) else (some false))))) else ((manifest_Size.f k x226000 x226001).bind fun bt243 => (if bt243.2 = 0 then (if bt243.1 = (x11.size : Int) then (some true) else (some false)) else (some false))))))
noncomputable def storagebarterlaw08_ManifestRestores.l1 : Nat → List ByteArray → Int → List ByteArray → ByteArray → List ByteArray → Int → List (S78) → Option (Bool)
  | 0, _, _, _, _, _, _, _ => none
  | k + 1, x1, x2, x8, x11, x14, x226000, x226001 => if (x8.length : Int) > 0 then (if (x14.length : Int) < (wrap64 ((x1.length : Int) + (x8.length : Int))) then (if (x8.length : Int) = 0 then (none) else (if 0 ≤ (Int.tmod (wrap64 ((x14.length : Int) + (wrap64 (x2)))) (x8.length : Int)) then (if (Int.tmod (wrap64 ((x14.length : Int) + (wrap64 (x2)))) (x8.length : Int)) < (x8.length : Int) then (if x14.length < 8796093022208 then (storagebarterlaw08_ManifestRestores.l1 k x1 x2 x8 x11 (x14 ++ [rdOf ByteArray.empty x8 (Int.tmod (wrap64 ((x14.length : Int) + (wrap64 (x2)))) (x8.length : Int))]) x226000 x226001) else (none)) else (none)) else (none))) else (storagebarterlaw08_ManifestRestores.j3 k x8 x11 x14 x226000 x226001)) else (storagebarterlaw08_ManifestRestores.j3 k x8 x11 x14 x226000 x226001)
end
noncomputable def storagebarterlaw08_ManifestRestores.f (k : Nat) (l0 : List Int) (l1 : List ByteArray) (a2 : Int) : Option (Bool) := (storagebarterlaw08_sane.f k).bind fun t208 => (if t208 = true then ((storagebartermake_Few.f l0).bind fun t209 => (if t209 = true then ((storagebarterlaw08_small.f k l1).bind fun t210 => (storagebarterlaw08_ManifestRestores.j0 k l0 l1 a2 (!t210))) else (storagebarterlaw08_ManifestRestores.j0 k l0 l1 a2 true))) else (some false))
theorem storagebarterlaw08_ManifestRestores.mono_l : ∀ k, (∀ y0 y1 y2 y3, LeO (storagebarterlaw08_ManifestRestores.j0 k y0 y1 y2 y3) (storagebarterlaw08_ManifestRestores.j0 (k + 1) y0 y1 y2 y3)) ∧ (∀ y0 y1 y2 y3 y4 y5 y6 y7 y8, LeO (storagebarterlaw08_ManifestRestores.l0 k y0 y1 y2 y3 y4 y5 y6 y7 y8) (storagebarterlaw08_ManifestRestores.l0 (k + 1) y0 y1 y2 y3 y4 y5 y6 y7 y8)) ∧ (∀ y0 y1 y2 y3 y4, LeO (storagebarterlaw08_ManifestRestores.j3 k y0 y1 y2 y3 y4) (storagebarterlaw08_ManifestRestores.j3 (k + 1) y0 y1 y2 y3 y4)) ∧ (∀ y0 y1 y2 y3 y4 y5 y6, LeO (storagebarterlaw08_ManifestRestores.l1 k y0 y1 y2 y3 y4 y5 y6) (storagebarterlaw08_ManifestRestores.l1 (k + 1) y0 y1 y2 y3 y4 y5 y6))
  | 0 => ⟨fun _ _ _ _ r h => by simp [storagebarterlaw08_ManifestRestores.j0] at h, fun _ _ _ _ _ _ _ _ _ r h => by simp [storagebarterlaw08_ManifestRestores.l0] at h, fun _ _ _ _ _ r h => by simp [storagebarterlaw08_ManifestRestores.j3] at h, fun _ _ _ _ _ _ _ r h => by simp [storagebarterlaw08_ManifestRestores.l1] at h⟩
  | k + 1 => by
    obtain ⟨ih0, ih1, ih2, ih3⟩ := storagebarterlaw08_ManifestRestores.mono_l k
    refine ⟨?_, ?_, ?_, ?_⟩
    · intro y0 y1 y2 y3
      unfold storagebarterlaw08_ManifestRestores.j0
      repeat' first
      | (with_reducible exact ih0 _ _ _ _)
      | (with_reducible exact ih1 _ _ _ _ _ _ _ _ _)
      | (with_reducible exact ih2 _ _ _ _ _)
      | (with_reducible exact ih3 _ _ _ _ _ _ _)
      | (with_reducible exact manifest_Size.mono _ _ _)
      | (with_reducible exact storagebarterlaw08_all.mono _ _ _)
      | (with_reducible exact storagebarterlaw08_sane.mono _)
      | (with_reducible exact storagebarterlaw08_small.mono _ _)
      | (with_reducible exact storagebartermake_Chunks.mono _ _ _)
      | (with_reducible exact LeO.refl _)
      | (with_reducible exact LeO.none _)
      | (with_reducible refine LeO.ite ?_ ?_)
      | (with_reducible refine LeO.bind ?_ (fun _ => ?_))
      | exact ih0 _ _ _ _
      | exact ih1 _ _ _ _ _ _ _ _ _
      | exact ih2 _ _ _ _ _
      | exact ih3 _ _ _ _ _ _ _
      | exact manifest_Size.mono _ _ _
      | exact storagebarterlaw08_all.mono _ _ _
      | exact storagebarterlaw08_sane.mono _
      | exact storagebarterlaw08_small.mono _ _
      | exact storagebartermake_Chunks.mono _ _ _
      | exact LeO.none _
      | refine LeO.ite ?_ ?_
      | refine LeO.bind ?_ (fun _ => ?_)
    · intro y0 y1 y2 y3 y4 y5 y6 y7 y8
      unfold storagebarterlaw08_ManifestRestores.l0
      repeat' first
      | (with_reducible exact ih0 _ _ _ _)
      | (with_reducible exact ih1 _ _ _ _ _ _ _ _ _)
      | (with_reducible exact ih2 _ _ _ _ _)
      | (with_reducible exact ih3 _ _ _ _ _ _ _)
      | (with_reducible exact manifest_Size.mono _ _ _)
      | (with_reducible exact storagebarterlaw08_all.mono _ _ _)
      | (with_reducible exact storagebarterlaw08_sane.mono _)
      | (with_reducible exact storagebarterlaw08_small.mono _ _)
      | (with_reducible exact storagebartermake_Chunks.mono _ _ _)
      | (with_reducible exact LeO.refl _)
      | (with_reducible exact LeO.none _)
      | (with_reducible refine LeO.ite ?_ ?_)
      | (with_reducible refine LeO.bind ?_ (fun _ => ?_))
      | exact ih0 _ _ _ _
      | exact ih1 _ _ _ _ _ _ _ _ _
      | exact ih2 _ _ _ _ _
      | exact ih3 _ _ _ _ _ _ _
      | exact manifest_Size.mono _ _ _
      | exact storagebarterlaw08_all.mono _ _ _
      | exact storagebarterlaw08_sane.mono _
      | exact storagebarterlaw08_small.mono _ _
      | exact storagebartermake_Chunks.mono _ _ _
      | exact LeO.none _
      | refine LeO.ite ?_ ?_
      | refine LeO.bind ?_ (fun _ => ?_)
    · intro y0 y1 y2 y3 y4
      unfold storagebarterlaw08_ManifestRestores.j3
      repeat' first
      | (with_reducible exact ih0 _ _ _ _)
      | (with_reducible exact ih1 _ _ _ _ _ _ _ _ _)
      | (with_reducible exact ih2 _ _ _ _ _)
      | (with_reducible exact ih3 _ _ _ _ _ _ _)
      | (with_reducible exact manifest_Size.mono _ _ _)
      | (with_reducible exact storagebarterlaw08_all.mono _ _ _)
      | (with_reducible exact storagebarterlaw08_sane.mono _)
      | (with_reducible exact storagebarterlaw08_small.mono _ _)
      | (with_reducible exact storagebartermake_Chunks.mono _ _ _)
      | (with_reducible exact LeO.refl _)
      | (with_reducible exact LeO.none _)
      | (with_reducible refine LeO.ite ?_ ?_)
      | (with_reducible refine LeO.bind ?_ (fun _ => ?_))
      | exact ih0 _ _ _ _
      | exact ih1 _ _ _ _ _ _ _ _ _
      | exact ih2 _ _ _ _ _
      | exact ih3 _ _ _ _ _ _ _
      | exact manifest_Size.mono _ _ _
      | exact storagebarterlaw08_all.mono _ _ _
      | exact storagebarterlaw08_sane.mono _
      | exact storagebarterlaw08_small.mono _ _
      | exact storagebartermake_Chunks.mono _ _ _
      | exact LeO.none _
      | refine LeO.ite ?_ ?_
      | refine LeO.bind ?_ (fun _ => ?_)
    · intro y0 y1 y2 y3 y4 y5 y6
      unfold storagebarterlaw08_ManifestRestores.l1
      repeat' first
      | (with_reducible exact ih0 _ _ _ _)
      | (with_reducible exact ih1 _ _ _ _ _ _ _ _ _)
      | (with_reducible exact ih2 _ _ _ _ _)
      | (with_reducible exact ih3 _ _ _ _ _ _ _)
      | (with_reducible exact manifest_Size.mono _ _ _)
      | (with_reducible exact storagebarterlaw08_all.mono _ _ _)
      | (with_reducible exact storagebarterlaw08_sane.mono _)
      | (with_reducible exact storagebarterlaw08_small.mono _ _)
      | (with_reducible exact storagebartermake_Chunks.mono _ _ _)
      | (with_reducible exact LeO.refl _)
      | (with_reducible exact LeO.none _)
      | (with_reducible refine LeO.ite ?_ ?_)
      | (with_reducible refine LeO.bind ?_ (fun _ => ?_))
      | exact ih0 _ _ _ _
      | exact ih1 _ _ _ _ _ _ _ _ _
      | exact ih2 _ _ _ _ _
      | exact ih3 _ _ _ _ _ _ _
      | exact manifest_Size.mono _ _ _
      | exact storagebarterlaw08_all.mono _ _ _
      | exact storagebarterlaw08_sane.mono _
      | exact storagebarterlaw08_small.mono _ _
      | exact storagebartermake_Chunks.mono _ _ _
      | exact LeO.none _
      | refine LeO.ite ?_ ?_
      | refine LeO.bind ?_ (fun _ => ?_)
theorem storagebarterlaw08_ManifestRestores.mono : ∀ a0 a1 a2 k, LeO (storagebarterlaw08_ManifestRestores.f k a0 a1 a2) (storagebarterlaw08_ManifestRestores.f (k + 1) a0 a1 a2) := by
  intro a0 a1 a2 k
  obtain ⟨ih0, ih1, ih2, ih3⟩ := storagebarterlaw08_ManifestRestores.mono_l k
  unfold storagebarterlaw08_ManifestRestores.f
  repeat' first
      | (with_reducible exact ih0 _ _ _ _)
      | (with_reducible exact ih1 _ _ _ _ _ _ _ _ _)
      | (with_reducible exact ih2 _ _ _ _ _)
      | (with_reducible exact ih3 _ _ _ _ _ _ _)
      | (with_reducible exact manifest_Size.mono _ _ _)
      | (with_reducible exact storagebarterlaw08_all.mono _ _ _)
      | (with_reducible exact storagebarterlaw08_sane.mono _)
      | (with_reducible exact storagebarterlaw08_small.mono _ _)
      | (with_reducible exact storagebartermake_Chunks.mono _ _ _)
      | (with_reducible exact LeO.refl _)
      | (with_reducible exact LeO.none _)
      | (with_reducible refine LeO.ite ?_ ?_)
      | (with_reducible refine LeO.bind ?_ (fun _ => ?_))
      | exact ih0 _ _ _ _
      | exact ih1 _ _ _ _ _ _ _ _ _
      | exact ih2 _ _ _ _ _
      | exact ih3 _ _ _ _ _ _ _
      | exact manifest_Size.mono _ _ _
      | exact storagebarterlaw08_all.mono _ _ _
      | exact storagebarterlaw08_sane.mono _
      | exact storagebarterlaw08_small.mono _ _
      | exact storagebartermake_Chunks.mono _ _ _
      | exact LeO.none _
      | refine LeO.ite ?_ ?_
      | refine LeO.bind ?_ (fun _ => ?_)
set_option maxHeartbeats 8000000 in
set_option maxRecDepth 100000 in
theorem storagebarterlaw08_ManifestRestores.calls (k : Nat) (A0 : Option Addr) (c0 : Nat) (l0 : List Int) (A1 : Option Addr) (c1 : Nat) (l1 : List ByteArray) (a2 : Int) (r : Bool) (w : World) (hr0 : Kd.C (Kd.int .i64) w A0 l0.length l0) (hc0 : l0.length ≤ c0) (hr1 : Kd.C Kd.string w A1 l1.length l1) (hc1 : l1.length ≤ c1) (h : storagebarterlaw08_ManifestRestores.f k l0 l1 a2 = some r) (hrt : r = true) :
    Calls Try.prog 3 #[.slice A0 l0.length c0, .slice A1 l1.length c1, .int .u8 a2] w fun e w' => e = .returned (.bool r) ∧ Below w.heap.size w w' := by
  have hu32 := Try.underlying32
  have HR0 := Aside0.mk hr0
  have HC0 := Aside0.mk hc0
  clear hr0 hc0
  have HR1 := Aside0.mk hr1
  have HC1 := Aside0.mk hc1
  clear hr1 hc1
  have HB := Aside0.mk (Below.refl w.heap.size w)
  have H : ((storagebarterlaw08_sane.f k).bind fun t208 => (if t208 = true then ((storagebartermake_Few.f l0).bind fun t209 => (if t209 = true then ((storagebarterlaw08_small.f k l1).bind fun t210 => (storagebarterlaw08_ManifestRestores.j0 k l0 l1 a2 (!t210))) else (storagebarterlaw08_ManifestRestores.j0 k l0 l1 a2 true))) else (some false))) = some r := h
  clear h
  have RT_ := Aside0.mk hrt
  clear hrt
  replace H := Option.bind_eq_some_iff.mp H
  obtain ⟨t208, A40, H⟩ := H
  try dsimp only at H
  have A4 := Aside0.mk A40
  clear A40
  by_cases c5 : t208 = true
  · subst c5
    rw [if_pos rfl] at H
    have HC6 := Aside0.mk H
    clear H
    go_enter Try.func3, Try.ntmps3
    go_upto_region 3 with (first | ((with_reducible refine gate_callee (f := 13) rfl ?_); refine goesL_ (some 19) rfl rfl Try.func13 (by kernel_rfl) rfl #[] rfl (by (try simp only [List.map_toArray, List.map_cons, List.map_nil]); first | done | rfl | (simp only [List.length_drop, List.length_take]; rfl)) ?_; (with_reducible refine (storagebarterlaw08_sane.calls k  true _ A4.out).mono ?_); rintro e w7 ⟨rfl, hb⟩; refine ⟨_, rfl, ?_⟩; have n0_ := Aside0.mk (below_step (by repeat (first | (with_reducible first | exact HB.out | apply below_alloc | apply pw_below_drewN | apply below_drew1) | exact HB.out)) hb); clear HB; have HB := n0_; clear n0_; (try clear hb); (try clear hb2); (try clear hk); (try clear hi)))
    (try simp only [Act.put, List.setIfInBounds_toArray, List.set_cons_zero, List.set_cons_succ])
    go_cut [28] (fun v28 wc => ∃ (kq : Nat) (x28_5 : Bool), v28 = .bool x28_5 ∧ Aside0 (storagebarterlaw08_ManifestRestores.j0 kq l0 l1 a2 x28_5 = some r) ∧ Aside0 (kq ≤ k) ∧ Aside0 (Below w.heap.size w wc))
    case first =>
      have H := HC6.out
      clear HC6
      replace H := Option.bind_eq_some_iff.mp H
      obtain ⟨t209, A80, H⟩ := H
      try dsimp only at H
      have A8 := Aside0.mk A80
      clear A80
      by_cases c9 : t209 = true
      focus
        subst c9
        rw [if_pos rfl] at H
        replace H := Option.bind_eq_some_iff.mp H
        obtain ⟨t210, A100, H⟩ := H
        try dsimp only at H
        have A10 := Aside0.mk A100
        clear A100
        have H' := Aside0.mk H
        clear H
      rotate_left 1
      focus
        replace c9 := Bool.eq_false_iff.mpr c9
        subst c9
        rw [if_neg (show ¬ (false = true) by decide)] at H
        have H' := Aside0.mk H
        clear H
      rotate_left 1
      all_goals (go_wp2_with (first | ((with_reducible refine gate_callee (f := 14) rfl ?_); refine goesL_ (some 22) rfl rfl Try.func14 (by kernel_rfl) rfl #[.slice A0 l0.length c0] rfl (by (try simp only [List.map_toArray, List.map_cons, List.map_nil]); first | done | rfl | (simp only [List.length_drop, List.length_take]; rfl)) ?_; (with_reducible refine (storagebartermake_Few.calls _ _ l0 true _ ?side1 ?side2 A8.out).mono ?_); (case side1 => repeat (first | exact (Kd.C_below HR0.out HB.out) | (with_reducible refine Kd.C_alloc ?_ _) | (with_reducible refine Kd.C_drewN ?_ _) | (with_reducible refine Kd.C_drew ?_))); (case side2 => exact HC0.out); rintro e w' ⟨rfl, ⟨nd, rfl⟩⟩; refine ⟨_, rfl, ?_⟩) | (go_at_call 15; (with_reducible refine (storagebarterlaw08_small.calls k _ _ l1 t210 _ ?side1 ?side2 A10.out).mono ?_); (case side1 => repeat (first | exact (Kd.C_below HR1.out (by repeat (first | (with_reducible first | exact HB.out | apply below_alloc | apply pw_below_drewN | apply below_drew1) | exact HB.out))) | (with_reducible refine Kd.C_alloc ?_ _) | (with_reducible refine Kd.C_drewN ?_ _) | (with_reducible refine Kd.C_drew ?_))); (case side2 => exact HC1.out); rintro e w' ⟨rfl, ⟨nd, rfl⟩⟩) | ((with_reducible refine gate_callee (f := 14) rfl ?_); refine goesL_ (some 22) rfl rfl Try.func14 (by kernel_rfl) rfl #[.slice A0 l0.length c0] rfl (by (try simp only [List.map_toArray, List.map_cons, List.map_nil]); first | done | rfl | (simp only [List.length_drop, List.length_take]; rfl)) ?_; (with_reducible refine (storagebartermake_Few.calls _ _ l0 false _ ?side1 ?side2 A8.out).mono ?_); (case side1 => repeat (first | exact (Kd.C_below HR0.out HB.out) | (with_reducible refine Kd.C_alloc ?_ _) | (with_reducible refine Kd.C_drewN ?_ _) | (with_reducible refine Kd.C_drew ?_))); (case side2 => exact HC0.out); rintro e w' ⟨rfl, ⟨nd, rfl⟩⟩; refine ⟨_, rfl, ?_⟩)))
      · go_meet
        case rel => exact ⟨_, (!t210), (by first | rfl | (simp; done) | (simp [*]; done)), H', ⟨by first | omega | exact Nat.le_refl _⟩, ⟨by repeat (first | (with_reducible first | exact HB.out | apply below_alloc | apply pw_below_drewN | apply below_drew1) | exact HB.out)⟩⟩
      · go_meet
        case rel => exact ⟨_, (true), (by first | rfl | (simp; done) | (simp [*]; done)), H', ⟨by first | omega | exact Nat.le_refl _⟩, ⟨by repeat (first | (with_reducible first | exact HB.out | apply below_alloc | apply pw_below_drewN | apply below_drew1) | exact HB.out)⟩⟩
    case rest =>
      clear HC6
      try clear c1
      try clear p2
      try clear c3
      try clear c5
      try clear c9
      obtain ⟨kq, x28_5, rfl, HA, HJ5, HB⟩ := hcut
      cases kq with
      | zero => exact absurd HA.out (by simp [storagebarterlaw08_ManifestRestores.j0])
      | succ kj5 =>
        have H := HA.out
        clear HA
        simp only [storagebarterlaw08_ManifestRestores.j0] at H
        by_cases c11 : x28_5 = true
        · subst c11
          rw [if_pos rfl] at H
          obtain rfl := Option.some.inj H
          go_wp2
          go_ret
          exact ⟨by first | rfl | (simp [errW_none, errW_some] <;> rfl) | (simp [*, errW_none, errW_some] <;> rfl), by repeat (first | (with_reducible first | exact HB.out | apply below_alloc | apply pw_below_drewN | apply below_drew1) | exact HB.out)⟩
        · replace c11 := Bool.eq_false_iff.mpr c11
          subst c11
          rw [if_neg (show ¬ (false = true) by decide)] at H
          replace H := Option.bind_eq_some_iff.mp H
          obtain ⟨⟨t211, t212⟩, A120, H⟩ := H
          try dsimp only at H
          have A12 := Aside0.mk A120
          clear A120
          replace H := Option.bind_eq_some_iff.mp H
          obtain ⟨⟨t214, t217⟩, A130, H⟩ := H
          try dsimp only at H
          have A13 := Aside0.mk A130
          clear A130
          replace H := Option.bind_eq_some_iff.mp H
          obtain ⟨⟨t218, t219⟩, A140, H⟩ := H
          try dsimp only at H
          have A14 := Aside0.mk A140
          clear A140
          replace H := Option.bind_eq_some_iff.mp H
          obtain ⟨⟨t220, t221, t224⟩, A150, H⟩ := H
          try dsimp only at H
          have A15 := Aside0.mk A150
          clear A150
          by_cases c16 : t224 = 0
          · rw [if_pos c16] at H
            have c16b0 : (t224 == 0) = true := beq_iff_eq.mpr c16
            have c16b1 : (t224 != 0) = false := bne_eq_false_iff_eq.mpr c16
            clear c16
            have H' := Aside0.mk H
            clear H
            go_wp2_with (first | ((with_reducible refine gate_callee (f := 16) rfl ?_); refine goesL_ (some 30) rfl rfl Try.func16 (by kernel_rfl) rfl #[.slice A0 l0.length c0] rfl (by (try simp only [List.map_toArray, List.map_cons, List.map_nil]); first | done | rfl | (simp only [List.length_drop, List.length_take]; rfl)) ?_; (with_reducible refine (storagebartermake_New.calls _ _ l0 t211 t212 w _ ?side1 ?side2 ?side3 A12.out).mono ?_); (case side1 => repeat (first | (with_reducible first | exact HB.out | apply below_alloc | apply pw_below_drewN | apply below_drew1) | exact HB.out)); (case side2 => exact HR0.out); (case side3 => exact HC0.out); rintro e w17 ⟨g213, rfl, hi, hb, hb2⟩; refine ⟨_, rfl, ?_⟩; have n0_ := Aside0.mk (hb); have n1_ := Aside0.mk (hi); clear HB; have HB := n0_; have HI213 := n1_; clear n0_ n1_; (try clear hb); (try clear hb2); (try clear hk); (try clear hi)) | ((with_reducible refine gate_callee (f := 17) rfl ?_); refine goesL_ (some 32) rfl rfl Try.func17 (by kernel_rfl) rfl #[.pointer (some ⟨g213, 0, none⟩)] rfl (by (try simp only [List.map_toArray, List.map_cons, List.map_nil]); first | done | rfl | (simp only [List.length_drop, List.length_take]; rfl)) ?_; (with_reducible refine (storagebartermake_Chunks.calls kj5 g213 t211 t212 t214 t217 w _ ?side1 ?side2 A13.out).mono ?_); (case side1 => repeat (first | (with_reducible first | exact HI213.out | apply IsS86.alloc | apply IsS86.drewN | apply IsS86.drew | apply IsS86.set_1) | exact HI213.out)); (case side2 => repeat (first | (with_reducible first | exact HB.out | apply below_alloc | apply pw_below_drewN | apply below_drew1 | refine below_set ?_ (IsS86.ge HI213.out)) | exact HB.out)); rintro e w18 ⟨v215, rfl, ho0, hi, hb, hk⟩; refine ⟨_, rfl, ?_⟩; have n0_ := Aside0.mk (Kd.R_lower ho0 (below_size (by repeat (first | (with_reducible first | exact HB.out | apply below_alloc | apply pw_below_drewN | apply below_drew1 | refine below_set ?_ (IsS86.ge HI213.out)) | exact HB.out)))); have n1_ := Aside0.mk (hb); have n2_ := Aside0.mk (hi); clear HB; clear HI213; have HO216 := n0_; have HB := n1_; have HI213 := n2_; clear n0_ n1_ n2_; (try clear hb); (try clear hb2); (try clear hk); (try clear hi); (try clear ho0)) | ((with_reducible refine gate_callee (f := 19) rfl ?_); refine goesL_ (some 35) rfl rfl Try.func19 (by kernel_rfl) rfl #[.pointer (some ⟨g213, 0, none⟩), .int .i64 9] rfl (by (try simp only [List.map_toArray, List.map_cons, List.map_nil]); first | done | rfl | (simp only [List.length_drop, List.length_take]; rfl)) ?_; (with_reducible refine (storagebartermake_Deck_Next.calls g213 t211 t217 9 t218 t219 w _ ?side1 ?side2 A14.out).mono ?_); (case side1 => repeat (first | (with_reducible first | exact HI213.out | apply IsS86.alloc | apply IsS86.drewN | apply IsS86.drew | apply IsS86.set_1) | exact HI213.out)); (case side2 => repeat (first | (with_reducible first | exact HB.out | apply below_alloc | apply pw_below_drewN | apply below_drew1 | refine below_set ?_ (IsS86.ge HI213.out)) | exact HB.out)); rintro e w19 ⟨rfl, hi, hb, hk⟩; refine ⟨_, rfl, ?_⟩; have n0_ := Aside0.mk (Kd.R_mono (Kd.R_keep (IsS86.apart (show IsS86 w _ g213 t211 t217 from by repeat (first | (with_reducible first | exact HI213.out | apply IsS86.alloc | apply IsS86.drewN | apply IsS86.drew | apply IsS86.set_1) | exact HI213.out)) (by (with_reducible repeat (first | apply Kd.R_alloc | apply Kd.R_drewN | apply Kd.R_drew)); exact HO216.out) (by decide)) hk (fun _ h => h.2)) (fun _ h => h.1)); have n1_ := Aside0.mk (hb); have n2_ := Aside0.mk (hi); clear HO216; clear HB; clear HI213; have HO216 := n0_; have HB := n1_; have HI213 := n2_; clear n0_ n1_ n2_; (try clear hb); (try clear hb2); (try clear hk); (try clear hi); obtain ⟨Ao20, co20, eo20⟩ := Kd.R_slice HO216.out; subst eo20) | ((with_reducible refine gate_callee (f := 18) rfl ?_); refine goesL_ (some 38) rfl rfl Try.func18 (by kernel_rfl) rfl #[.int .i64 (wrap64 (1 + t218)), .slice Ao20 t214.length co20] rfl (by (try simp only [List.map_toArray, List.map_cons, List.map_nil]); first | done | rfl | (simp only [List.length_drop, List.length_take]; rfl)) ?_; (with_reducible refine (manifest_Of.calls (wrap64 (1 + t218)) _ _ t214 t220 t221 t224 _ ?side1 ?side2 A15.out).mono ?_); (case side1 => repeat (first | exact (Kd.R_reads' HO216.out).2.2 | (with_reducible refine Kd.C_alloc ?_ _) | (with_reducible refine Kd.C_drewN ?_ _) | (with_reducible refine Kd.C_drew ?_))); (case side2 => exact (Kd.R_reads' HO216.out).2.1); rintro e w21 ⟨v222, rfl, ho0, hb⟩; refine ⟨_, rfl, ?_⟩; have n0_ := Aside0.mk (Kd.R_below (by (with_reducible repeat (first | apply Kd.R_alloc | apply Kd.R_drewN | apply Kd.R_drew)); exact HO216.out) hb); have n1_ := Aside0.mk (Kd.R_lower ho0 (below_size (by repeat (first | (with_reducible first | exact HB.out | apply below_alloc | apply pw_below_drewN | apply below_drew1 | refine below_set ?_ (IsS86.ge HI213.out)) | exact HB.out)))); have n2_ := Aside0.mk (IsS86.below (by repeat (first | (with_reducible first | exact HI213.out | apply IsS86.alloc | apply IsS86.drewN | apply IsS86.drew | apply IsS86.set_1) | exact HI213.out)) hb); have n3_ := Aside0.mk (below_step (by repeat (first | (with_reducible first | exact HB.out | apply below_alloc | apply pw_below_drewN | apply below_drew1 | refine below_set ?_ (IsS86.ge HI213.out)) | exact HB.out)) hb); clear HO216; clear HI213; clear HB; have HO216 := n0_; have HO223 := n1_; have HI213 := n2_; have HB := n3_; clear n0_ n1_ n2_ n3_; (try clear hb); (try clear hb2); (try clear hk); (try clear hi); (try clear ho0)) | ((with_reducible refine gate_dst (N := 9) rfl ?_); (try (refine gate_guard (by rfl) ?_; dsimp only)); refine box_event ?hg (N := 9) ?hd (cs := #[.int .i64 0, .slice none 0 0]) (t := 32) ?hr ?_; (case hd => rfl); (case hg => rfl); (case hr => first | (go_simp; done) | (go_simp; rfl)); intro gb225 hg w22 hbox hb; have n0_ := Aside0.mk (Kd.R_below (by (with_reducible repeat (first | apply Kd.R_alloc | apply Kd.R_drewN | apply Kd.R_drew)); exact HO216.out) hb); have n1_ := Aside0.mk (Kd.R_below (by (with_reducible repeat (first | apply Kd.R_alloc | apply Kd.R_drewN | apply Kd.R_drew)); exact HO223.out) hb); have n2_ := Aside0.mk (IsS86.below (by repeat (first | (with_reducible first | exact HI213.out | apply IsS86.alloc | apply IsS86.drewN | apply IsS86.drew | apply IsS86.set_1) | exact HI213.out)) hb); have n3_ := Aside0.mk (below_step (by repeat (first | (with_reducible first | exact HB.out | apply below_alloc | apply pw_below_drewN | apply below_drew1 | refine below_set ?_ (IsS86.ge HI213.out)) | exact HB.out)) hb); have n4_ := Aside0.mk (hbox); have n5_ := Aside0.mk ((by rw [hg]; exact (below_size (by repeat (first | (with_reducible first | exact HB.out | apply below_alloc | apply pw_below_drewN | apply below_drew1 | refine below_set ?_ (IsS86.ge HI213.out)) | exact HB.out))) : w.heap.size ≤ gb225)); have n6_ := Aside0.mk ((by rw [hg]; exact (below_size (by repeat (first | (with_reducible first | exact HB.out | apply below_alloc | apply pw_below_drewN | apply below_drew1 | refine below_set ?_ (IsS86.ge HI213.out)) | exact HB.out))) : w.heap.size ≤ gb225)); have n7_ := Aside0.mk ((by rw [hg]; exact Nat.ne_of_lt (IsS86.lt (show IsS86 w _ g213 t211 t219 from by repeat (first | (with_reducible first | exact HI213.out | apply IsS86.alloc | apply IsS86.drewN | apply IsS86.drew | apply IsS86.set_1) | exact HI213.out))) : g213 ≠ gb225)); have n8_ := Aside0.mk ((by rw [hg]; exact Nat.ne_of_gt (IsS86.lt (show IsS86 w _ g213 t211 t219 from by repeat (first | (with_reducible first | exact HI213.out | apply IsS86.alloc | apply IsS86.drewN | apply IsS86.drew | apply IsS86.set_1) | exact HI213.out))) : gb225 ≠ g213)); clear HO216; clear HO223; clear HI213; clear HB; have HO216 := n0_; have HO223 := n1_; have HI213 := n2_; have HB := n3_; have BK225 := n4_; have GW225 := n5_; have GE225 := n6_; have NB213_225 := n7_; have NB225_213 := n8_; clear n0_ n1_ n2_ n3_ n4_ n5_ n6_ n7_ n8_; clear hb hbox hg; have hnb23 := NB225_213.out; have hnc23 := NB213_225.out; have hcz24_0 : w22.cell? ⟨gb225, 0, none⟩ = some (.int .i64 0) := (blk_cell BK225.out 0).trans rfl; have hcz24_1 : w22.cell? ⟨gb225, 1, none⟩ = some (.slice none 0 0) := (blk_cell BK225.out 1).trans rfl; have hfz24_0 := blk_frozen BK225.out 0; have hfz24_1 := blk_frozen BK225.out 1; obtain ⟨Ao25, co25, eo25⟩ := Kd.R_slice HO223.out; subst eo25))
            go_loopg [11, 47] kj5 (fun kq v11 v47 w' => ∃ (x11_2 : ByteArray) (x47_2 : Int), v11 = .string x11_2 ∧ v47 = .int .i64 x47_2 ∧ Aside0 (storagebarterlaw08_ManifestRestores.l0 kq l1 a2 t214 x11_2 t214 (t214.length : Int) x47_2 t220 t221 = some r) ∧ Aside0 (kq ≤ kj5) ∧ Aside0 (Kd.R Kd.string 9 w' w.heap.size (fun _ => True) (.slice Ao20 t214.length co20) t214) ∧ Aside0 (Kd.R Kd.string 9 w' w.heap.size (fun _ => True) (.slice Ao20 t214.length co20) t214) ∧ Aside0 (Kd.R k78 78 w' w.heap.size (fun _ => True) (.slice Ao25 t221.length co25) t221) ∧ Aside0 (w'.heap[gb225]? = some (.cells #[.int .i64 t220, (.slice Ao25 t221.length co25)] 32 (0, 0))) ∧ Aside0 (Below w.heap.size w w'))
            case atStart => exact ⟨((⟨#[]⟩ : ByteArray)), (0), (by first | rfl | (simp; done) | (simp [*]; done)), (by first | rfl | (simp; done) | (simp [*]; done)), H', ⟨Nat.le_refl _⟩, ⟨by (with_reducible repeat (first | apply Kd.R_alloc | apply Kd.R_drewN | apply Kd.R_drew)); exact Kd.R_mono (Kd.R_far (p := ⟨gb225, 1, none⟩) (Kd.R_far (p := ⟨gb225, 0, none⟩) (Kd.R_types HO216.out BK225.out (by decide)) (fun _ hk => hk.2) (.int .i64 t220)) (fun _ hk => hk.2) (.slice Ao25 t221.length co25)) (fun _ hk => trivial)⟩, ⟨by (with_reducible repeat (first | apply Kd.R_alloc | apply Kd.R_drewN | apply Kd.R_drew)); exact Kd.R_mono (Kd.R_far (p := ⟨gb225, 1, none⟩) (Kd.R_far (p := ⟨gb225, 0, none⟩) (Kd.R_types HO216.out BK225.out (by decide)) (fun _ hk => hk.2) (.int .i64 t220)) (fun _ hk => hk.2) (.slice Ao25 t221.length co25)) (fun _ hk => trivial)⟩, ⟨by (with_reducible repeat (first | apply Kd.R_alloc | apply Kd.R_drewN | apply Kd.R_drew)); exact Kd.R_mono (Kd.R_far (p := ⟨gb225, 1, none⟩) (Kd.R_far (p := ⟨gb225, 0, none⟩) (Kd.R_types HO223.out BK225.out (by decide)) (fun _ hk => hk.2) (.int .i64 t220)) (fun _ hk => hk.2) (.slice Ao25 t221.length co25)) (fun _ hk => trivial)⟩, ⟨by (with_reducible repeat (first | refine blk_drewN ?_ _ | refine blk_drew ?_ | refine blk_alloc ?_ _)); refine blk_put (cs := #[.int .i64 t220, .slice none 0 0]) ?_ 1 _ rfl; (with_reducible repeat (first | refine blk_drewN ?_ _ | refine blk_drew ?_ | refine blk_alloc ?_ _)); refine blk_put (cs := #[.int .i64 0, .slice none 0 0]) ?_ 0 _ rfl; (with_reducible repeat (first | refine blk_drewN ?_ _ | refine blk_drew ?_ | refine blk_alloc ?_ _)); exact BK225.out⟩, ⟨by repeat (first | (with_reducible first | exact HB.out | apply below_alloc | apply pw_below_drewN | apply below_drew1 | refine below_set ?_ (IsS86.ge HI213.out) | refine below_set ?_ GE225.out) | exact HB.out)⟩⟩
            case round =>
              clear H'
              try clear c1
              try clear c2
              try clear p2
              try clear c3
              try clear c5
              try clear p6
              try clear c9
              try clear c11
              try clear c13
              try clear c14
              try clear c16
              try clear c16b0
              try clear c16b1
              try clear c17
              try clear c18
              try clear c19
              try clear c23
              try clear hcz24_0
              try clear hcz24_1
              try clear hfz24_0
              try clear hfz24_1
              try clear p2
              obtain ⟨x11_2, x47_2, rfl, rfl, HA, HK2, HO_8, HO_45, HO_226001, BK225, HB⟩ := hrel
              cases gk with
              | zero => exact absurd HA.out (by simp [storagebarterlaw08_ManifestRestores.l0])
              | succ k2 =>
                have H := HA.out
                clear HA
                simp only [storagebarterlaw08_ManifestRestores.l0] at H
                by_cases c26 : x47_2 < (t214.length : Int)
                · rw [if_pos c26] at H
                  have c26b0 : decide (x47_2 < (t214.length : Int)) = true := decide_eq_true c26
                  clear c26
                  by_cases c27 : 0 ≤ x47_2
                  · rw [if_pos c27] at H
                    have c27b0 : decide (0 ≤ x47_2) = true := decide_eq_true c27
                    clear c27
                    by_cases c28 : x47_2 < (t214.length : Int)
                    · rw [if_pos c28] at H
                      have c28b0 : decide (x47_2 < (t214.length : Int)) = true := decide_eq_true c28
                      clear c28
                      by_cases c29 : x11_2.size + (rdOf ByteArray.empty t214 x47_2).size ≤ 9223372036854775807
                      · rw [if_pos c29] at H
                        have c29b0 := eq_true c29
                        have c29b1 : decide (x11_2.size + (rdOf ByteArray.empty t214 x47_2).size ≤ 9223372036854775807) = true := decide_eq_true c29
                        try have c29b2 : (9223372036854775807 < x11_2.size + (rdOf ByteArray.empty t214 x47_2).size) = False := eq_false (Nat.not_lt.2 c29)
                        have H' := Aside0.mk H
                        clear H
                        have p226 : 0 ≤ (x47_2 : Int) := of_decide_eq_true (by first | (with_reducible assumption) | assumption)
                        have q226 : x47_2 < (t214.length : Int) := of_decide_eq_true (by first | (with_reducible assumption) | assumption)
                        obtain ⟨ad226, e226, hx226_0⟩ := Kd.at_string (Kd.R_reads' HO_45.out).2.2 x47_2 p226 q226
                        cases e226
                        replace p226 := eq_true p226
                        replace q226 := eq_true q226
                        go_wp2
                        go_roundg k2
                        case measure => have := HJ5.out; have := HK2.out; omega
                        case rel => exact ⟨(x11_2 ++ (rdOf ByteArray.empty t214 x47_2)), (wrap64 (x47_2 + 1)), (by first | rfl | (simp; done) | (simp [*]; done)), (by first | rfl | (simp; done) | (simp [*]; done)), H', ⟨by have := HJ5.out; have := HK2.out; omega⟩, ⟨by (with_reducible repeat (first | apply Kd.R_alloc | apply Kd.R_drewN | apply Kd.R_drew)); exact HO_8.out⟩, ⟨by (with_reducible repeat (first | apply Kd.R_alloc | apply Kd.R_drewN | apply Kd.R_drew)); exact HO_45.out⟩, ⟨by (with_reducible repeat (first | apply Kd.R_alloc | apply Kd.R_drewN | apply Kd.R_drew)); exact HO_226001.out⟩, ⟨by (with_reducible repeat (first | refine blk_drewN ?_ _ | refine blk_drew ?_ | refine blk_alloc ?_ _)); exact BK225.out⟩, ⟨by repeat (first | (with_reducible first | exact HB.out | apply below_alloc | apply pw_below_drewN | apply below_drew1 | refine below_set ?_ GE225.out) | exact HB.out)⟩⟩
                      · rw [if_neg c29] at H
                        exact absurd H (by simp)
                    · rw [if_neg c28] at H
                      exact absurd H (by simp)
                  · rw [if_neg c27] at H
                    exact absurd H (by simp)
                · rw [if_neg c26] at H
                  have c26b0 : decide (x47_2 < (t214.length : Int)) = false := decide_eq_false c26
                  clear c26
                  by_cases c30 : ([] : List ByteArray).length + l1.length < 8796093022208
                  · rw [if_pos c30] at H
                    have LMc30 := Aside0.mk c30
                    clear c30
                    obtain ⟨y227, hy227⟩ : ∃ y_ : List ByteArray, y_ = (([] : List ByteArray) ++ l1) := ⟨_, rfl⟩
                    replace H : (storagebarterlaw08_ManifestRestores.l1 k2 l1 a2 t214 x11_2 y227 t220 t221) = some r := by first | (rw [hy227]; with_reducible exact H) | (have H2_ := (Option.bind_some _ _).symm.trans H; rw [hy227]; with_reducible exact H2_) | (have H2_ := (Option.bind_some _ _).symm.trans H; with_reducible exact H2_) | with_reducible exact H | (rw [hy227]; exact H) | exact H
                    have Ny227 := Aside0.mk hy227
                    clear hy227
                    have HC31 := Aside0.mk H
                    clear H
                    go_upto_block 2 with (first | ((with_reducible refine gate_builtin (b := .append) (xs := #[_, .tmp 55]) rfl ?_); (try (refine gate_guard (by rfl) ?_; dsimp only)); at_builtin; refine Kd.R_append_rows Kd.string (w0 := w) w.heap.size rfl _ (.tmp 55) 23 9 (.string ⟨#[]⟩) 16 rfl Try.underlying23 info9 rfl (by decide) (by omega) (.slice none 0 0) ([] : List ByteArray) l1 _ _ _ (fun k_ => some k_ ≠ (.slice Ao20 t214.length co20 : Value).ownBlock ∧ some k_ ≠ (.slice Ao20 t214.length co20 : Value).ownBlock) (fun _ => False) rfl rfl ?aO ?aR (fun _ _ h => h) (fun _ h => h.elim) ?aF ?aB ?aS ?aL ?_; (case aR => repeat (first | exact (Kd.C_below HR1.out HB.out) | (with_reducible refine Kd.C_alloc ?_ _) | (with_reducible refine Kd.C_drewN ?_ _) | (with_reducible refine Kd.C_drew ?_))); (case aB => exact (by repeat (first | (with_reducible first | exact HB.out | apply below_alloc | apply pw_below_drewN | apply below_drew1 | refine below_set ?_ GE225.out) | exact HB.out))); (case aF => exact (fun k_ hk => ⟨Kd.fresh' (Kd.R_lt (by (with_reducible repeat (first | apply Kd.R_alloc | apply Kd.R_drewN | apply Kd.R_drew)); exact HO_8.out)) k_ hk, Kd.fresh' (Kd.R_lt (by (with_reducible repeat (first | apply Kd.R_alloc | apply Kd.R_drewN | apply Kd.R_drew)); exact HO_45.out)) k_ hk⟩)); (case aO => exact ((Kd.R_nil _ _ _ _ (fun k_ => some k_ ≠ (.slice Ao20 t214.length co20 : Value).ownBlock ∧ some k_ ≠ (.slice Ao20 t214.length co20 : Value).ownBlock)))); (case aS => exact (below_size (by repeat (first | (with_reducible first | exact HB.out | apply below_alloc | apply pw_below_drewN | apply below_drew1 | refine below_set ?_ GE225.out) | exact HB.out)))); (case aL => have := LMc30.out; omega); intro v228 w32 ho hb hg hat; rw [← Ny227.out] at ho; have n0_ := Aside0.mk (Kd.R_after (Kd.R_apart_nil (by (with_reducible repeat (first | apply Kd.R_alloc | apply Kd.R_drewN | apply Kd.R_drew)); exact HO_8.out)) hg hat); have n1_ := Aside0.mk (Kd.R_after (Kd.R_apart_nil (by (with_reducible repeat (first | apply Kd.R_alloc | apply Kd.R_drewN | apply Kd.R_drew)); exact HO_45.out)) hg hat); have n2_ := Aside0.mk (Kd.R_grown (by (with_reducible repeat (first | apply Kd.R_alloc | apply Kd.R_drewN | apply Kd.R_drew)); exact HO_226001.out) hg (fun _ _ => by simp [Value.ownBlock])); have n3_ := Aside0.mk (blk_grown (g := gb225) (o := .cells #[.int .i64 t220, .slice Ao25 t221.length co25] 32 (0, 0)) (by (with_reducible repeat (first | refine blk_drewN ?_ _ | refine blk_drew ?_ | refine blk_alloc ?_ _)); exact BK225.out) hg (by simp [Value.ownBlock])); have n4_ := Aside0.mk (hb); have n5_ := Aside0.mk (ho); clear HO_8; clear HO_45; clear HO_226001; clear BK225; clear HB; have HO_8 := n0_; have HO_45 := n1_; have HO_226001 := n2_; have BK225 := n3_; have HB := n4_; have HO229 := n5_; clear n0_ n1_ n2_ n3_ n4_ n5_; clear ho hb hg hat))
                    (try simp only [Act.put, List.setIfInBounds_toArray, List.set_cons_zero, List.set_cons_succ])
                    go_cut [14] (fun v14 wc => ∃ (kq : Nat) (x14_30 : List ByteArray), Aside0 (storagebarterlaw08_ManifestRestores.j3 kq t214 x11_2 x14_30 t220 t221 = some r) ∧ Aside0 (kq ≤ k2) ∧ Aside0 (Kd.R Kd.string 9 wc w.heap.size (fun k_ => some k_ ≠ (v14 : Value).ownBlock) (.slice Ao20 t214.length co20) t214) ∧ Aside0 (Kd.R Kd.string 9 wc w.heap.size (fun k_ => some k_ ≠ ((.slice Ao20 t214.length co20) : Value).ownBlock) v14 x14_30) ∧ Aside0 (Kd.R k78 78 wc w.heap.size (fun _ => True) (.slice Ao25 t221.length co25) t221) ∧ Aside0 (wc.heap[gb225]? = some (.cells #[.int .i64 t220, (.slice Ao25 t221.length co25)] 32 (0, 0))) ∧ Aside0 (Below w.heap.size w wc))
                    case first =>
                      have H := HC31.out
                      clear HC31
                      have H' := Aside0.mk H
                      clear H
                      go_wp2
                      go_loopg [14] k2 (fun kq v14 w' => ∃ (x14_3 : List ByteArray), Aside0 (storagebarterlaw08_ManifestRestores.l1 kq l1 a2 t214 x11_2 x14_3 t220 t221 = some r) ∧ Aside0 (kq ≤ k2) ∧ Aside0 (Kd.R Kd.string 9 w' w.heap.size (fun k_ => some k_ ≠ (v14 : Value).ownBlock) (.slice Ao20 t214.length co20) t214) ∧ Aside0 (Kd.R Kd.string 9 w' w.heap.size (fun k_ => some k_ ≠ ((.slice Ao20 t214.length co20) : Value).ownBlock) v14 x14_3) ∧ Aside0 (Kd.R k78 78 w' w.heap.size (fun _ => True) (.slice Ao25 t221.length co25) t221) ∧ Aside0 (w'.heap[gb225]? = some (.cells #[.int .i64 t220, (.slice Ao25 t221.length co25)] 32 (0, 0))) ∧ Aside0 (Below w.heap.size w w'))
                      case atStart => exact ⟨(y227), H', ⟨Nat.le_refl _⟩, ⟨by (with_reducible repeat (first | apply Kd.R_alloc | apply Kd.R_drewN | apply Kd.R_drew)); exact Kd.R_mono HO_8.out (fun _ hk => hk.2)⟩, ⟨by (with_reducible repeat (first | apply Kd.R_alloc | apply Kd.R_drewN | apply Kd.R_drew)); exact Kd.R_mono HO229.out (fun _ hk => hk.1)⟩, ⟨by (with_reducible repeat (first | apply Kd.R_alloc | apply Kd.R_drewN | apply Kd.R_drew)); exact HO_226001.out⟩, ⟨by (with_reducible repeat (first | refine blk_drewN ?_ _ | refine blk_drew ?_ | refine blk_alloc ?_ _)); exact BK225.out⟩, ⟨by repeat (first | (with_reducible first | exact HB.out | apply below_alloc | apply pw_below_drewN | apply below_drew1 | refine below_set ?_ GE225.out) | exact HB.out)⟩⟩
                      case round =>
                        clear H'
                        try clear c1
                        try clear c2
                        try clear p2
                        try clear q2
                        try clear hx2
                        try clear c3
                        try clear c5
                        try clear p6
                        try clear c9
                        try clear c11
                        try clear c13
                        try clear c14
                        try clear c16
                        try clear c16b0
                        try clear c16b1
                        try clear c17
                        try clear c18
                        try clear c19
                        try clear p22
                        try clear q22
                        try clear hx22
                        try clear c23
                        try clear c26
                        try clear c26b0
                        try clear c27
                        try clear c27b0
                        try clear c28
                        try clear c28b0
                        try clear c29
                        try clear c29b0
                        try clear c29b1
                        try clear c29b2
                        try clear c30
                        try clear hcz24_0
                        try clear hcz24_1
                        try clear hfz24_0
                        try clear hfz24_1
                        try clear hx226_0
                        try clear p2
                        try clear p226
                        try clear p6
                        try clear q226
                        obtain ⟨x14_3, HA, HK3, HO_8, HO_14, HO_226001, BK225, HB⟩ := hrel
                        cases gk with
                        | zero => exact absurd HA.out (by simp [storagebarterlaw08_ManifestRestores.l1])
                        | succ k3 =>
                          have H := HA.out
                          clear HA
                          simp only [storagebarterlaw08_ManifestRestores.l1] at H
                          by_cases c33 : (t214.length : Int) > 0
                          · rw [if_pos c33] at H
                            have c33b0 : decide (0 < (t214.length : Int)) = true := decide_eq_true c33
                            have c33b1 : decide (0 < t214.length) = true := decide_eq_true (by omega)
                            clear c33
                            (first | rw [c33b0] | (simp only [i64_w, i32_w]; rw [c33b0]) | skip)
                            by_cases c34 : (x14_3.length : Int) < (wrap64 ((l1.length : Int) + (t214.length : Int)))
                            · rw [if_pos c34] at H
                              have c34b0 : decide ((x14_3.length : Int) < (wrap64 ((l1.length : Int) + (t214.length : Int)))) = true := decide_eq_true c34
                              clear c34
                              by_cases c35 : (t214.length : Int) = 0
                              · rw [if_pos c35] at H
                                exact absurd H (by simp)
                              · rw [if_neg c35] at H
                                have c35b0 : ((t214.length : Int) == 0) = false := beq_eq_false_iff_ne.mpr c35
                                have c35b1 : ((t214.length : Int) != 0) = true := bne_iff_ne.mpr c35
                                have c35b2 : ¬ (t214 = []) := fun h_ => c35 (by rw [h_]; rfl)
                                obtain ⟨ji36, hji36⟩ : ∃ j_ : Int, (Int.tmod (wrap64 ((x14_3.length : Int) + (wrap64 (a2)))) (t214.length : Int)) = j_ := ⟨_, rfl⟩
                                replace H : (if 0 ≤ (ji36) then (if (ji36) < (t214.length : Int) then (if x14_3.length < 8796093022208 then (storagebarterlaw08_ManifestRestores.l1 k3 l1 a2 t214 x11_2 (x14_3 ++ [rdOf ByteArray.empty t214 (ji36)]) t220 t221) else (none)) else (none)) else (none)) = some r := by first | (rw [hji36] at H; exact H) | (simp only [hji36] at H ⊢; exact H)
                                by_cases c37 : 0 ≤ (ji36)
                                · rw [if_pos c37] at H
                                  have c37b0 : decide (0 ≤ (ji36)) = true := decide_eq_true c37
                                  clear c37
                                  by_cases c38 : (ji36) < (t214.length : Int)
                                  · rw [if_pos c38] at H
                                    have c38b0 : decide ((ji36) < (t214.length : Int)) = true := decide_eq_true c38
                                    clear c38
                                    by_cases c39 : x14_3.length < 8796093022208
                                    · rw [if_pos c39] at H
                                      have LMc39 := Aside0.mk c39
                                      clear c39
                                      obtain ⟨y231, hy231⟩ : ∃ y_ : List ByteArray, y_ = (x14_3 ++ [rdOf ByteArray.empty t214 (ji36)]) := ⟨_, rfl⟩
                                      replace H : (storagebarterlaw08_ManifestRestores.l1 k3 l1 a2 t214 x11_2 y231 t220 t221) = some r := by first | (rw [hy231]; with_reducible exact H) | (have H2_ := (Option.bind_some _ _).symm.trans H; rw [hy231]; with_reducible exact H2_) | (have H2_ := (Option.bind_some _ _).symm.trans H; with_reducible exact H2_) | with_reducible exact H | (rw [hy231]; exact H) | exact H
                                      have Ny231 := Aside0.mk hy231
                                      clear hy231
                                      have H' := Aside0.mk H
                                      clear H
                                      obtain ⟨Ao40, co40, eo40⟩ := Kd.R_slice HO_14.out
                                      subst eo40
                                      have p230 : 0 ≤ ((ji36) : Int) := of_decide_eq_true (by first | (with_reducible assumption) | assumption)
                                      have q230 : (ji36) < (t214.length : Int) := of_decide_eq_true (by first | (with_reducible assumption) | assumption)
                                      obtain ⟨ad230, e230, hx230_0⟩ := Kd.at_string (Kd.R_reads' HO_8.out).2.2 (ji36) p230 q230
                                      cases e230
                                      replace p230 := eq_true p230
                                      replace q230 := eq_true q230
                                      go_wp2_with (first | ((with_reducible refine gate_builtin (b := .append) (xs := #[.tmp 70, .tmp 82]) rfl ?_); (try (refine gate_guard (by rfl) ?_; dsimp only)); at_builtin; refine Kd.R_append Kd.string (w0 := w) w.heap.size rfl (.tmp 70) (.tmp 82) 23 9 (.string ⟨#[]⟩) 16 rfl Try.underlying23 info9 rfl (by decide) (by omega) (.slice Ao40 x14_3.length co40) x14_3 (rdOf ByteArray.empty t214 (ji36)) [.string (rdOf ByteArray.empty t214 (ji36))] (fun k_ => some k_ ≠ (.slice (some ad230) t214.length co20 : Value).ownBlock) (fun _ => False) rfl rfl ?aP (fun _ hk => hk.elim) ?aF ?aO ?aB ?aS ?aL ?_; (case aP => exact rfl); (case aB => exact (by repeat (first | (with_reducible first | exact HB.out | apply below_alloc | apply pw_below_drewN | apply below_drew1 | refine below_set ?_ GE225.out) | exact HB.out))); (case aF => exact (fun k_ hk => Kd.fresh' (Kd.R_lt (by (with_reducible repeat (first | apply Kd.R_alloc | apply Kd.R_drewN | apply Kd.R_drew)); exact HO_8.out)) k_ hk)); (case aO => exact (by (with_reducible repeat (first | apply Kd.R_alloc | apply Kd.R_drewN | apply Kd.R_drew)); exact HO_14.out)); (case aS => exact (below_size (by repeat (first | (with_reducible first | exact HB.out | apply below_alloc | apply pw_below_drewN | apply below_drew1 | refine below_set ?_ GE225.out) | exact HB.out)))); (case aL => have := LMc39.out; omega); intro v232 w41 ho hb hg hat; rw [← Ny231.out] at ho; have n0_ := Aside0.mk (Kd.R_after (ok := (fun _ => True)) (by (with_reducible repeat (first | apply Kd.R_alloc | apply Kd.R_drewN | apply Kd.R_drew)); exact Kd.R_mono HO_8.out (fun _ hk => ⟨trivial, hk⟩)) hg hat); have n1_ := Aside0.mk (Kd.R_over' (by (with_reducible repeat (first | apply Kd.R_alloc | apply Kd.R_drewN | apply Kd.R_drew)); exact HO_226001.out) (Kd.R_typed (by (with_reducible repeat (first | apply Kd.R_alloc | apply Kd.R_drewN | apply Kd.R_drew)); exact HO_14.out)) (by decide) hg); have n2_ := Aside0.mk (blk_grown (g := gb225) (o := .cells #[.int .i64 t220, .slice Ao25 t221.length co25] 32 (0, 0)) (by (with_reducible repeat (first | refine blk_drewN ?_ _ | refine blk_drew ?_ | refine blk_alloc ?_ _)); exact BK225.out) hg (Kd.R_ne HO_14.out BK225.out (by decide))); have n3_ := Aside0.mk (hb); have n4_ := Aside0.mk (ho); clear HO_8; clear HO_226001; clear BK225; clear HB; clear HO_14; have HO_8 := n0_; have HO_226001 := n1_; have BK225 := n2_; have HB := n3_; have HO233 := n4_; clear n0_ n1_ n2_ n3_ n4_; clear ho hb hg hat))
                                      go_roundg k3
                                      case measure => have := HJ5.out; have := HK2.out; have := HK3.out; omega
                                      case rel => exact ⟨(y231), H', ⟨by have := HJ5.out; have := HK2.out; have := HK3.out; omega⟩, ⟨by (with_reducible repeat (first | apply Kd.R_alloc | apply Kd.R_drewN | apply Kd.R_drew)); exact Kd.R_mono HO_8.out (fun _ hk => hk.2)⟩, ⟨by (with_reducible repeat (first | apply Kd.R_alloc | apply Kd.R_drewN | apply Kd.R_drew)); exact HO233.out⟩, ⟨by (with_reducible repeat (first | apply Kd.R_alloc | apply Kd.R_drewN | apply Kd.R_drew)); exact HO_226001.out⟩, ⟨by (with_reducible repeat (first | refine blk_drewN ?_ _ | refine blk_drew ?_ | refine blk_alloc ?_ _)); exact BK225.out⟩, ⟨by repeat (first | (with_reducible first | exact HB.out | apply below_alloc | apply pw_below_drewN | apply below_drew1 | refine below_set ?_ GE225.out) | exact HB.out)⟩⟩
                                    · rw [if_neg c39] at H
                                      exact absurd H (by simp)
                                  · rw [if_neg c38] at H
                                    exact absurd H (by simp)
                                · rw [if_neg c37] at H
                                  exact absurd H (by simp)
                            · rw [if_neg c34] at H
                              have c34b0 : decide ((x14_3.length : Int) < (wrap64 ((l1.length : Int) + (t214.length : Int)))) = false := decide_eq_false c34
                              clear c34
                              have H' := Aside0.mk H
                              clear H
                              obtain ⟨Ao42, co42, eo42⟩ := Kd.R_slice HO_14.out
                              subst eo42
                              go_wp2
                              go_meet
                              case rel => exact ⟨_, (x14_3), H', ⟨by have := HJ5.out; have := HK2.out; have := HK3.out; first | omega | exact Nat.le_refl _⟩, ⟨by (with_reducible repeat (first | apply Kd.R_alloc | apply Kd.R_drewN | apply Kd.R_drew)); exact HO_8.out⟩, ⟨by (with_reducible repeat (first | apply Kd.R_alloc | apply Kd.R_drewN | apply Kd.R_drew)); exact HO_14.out⟩, ⟨by (with_reducible repeat (first | apply Kd.R_alloc | apply Kd.R_drewN | apply Kd.R_drew)); exact HO_226001.out⟩, ⟨by (with_reducible repeat (first | refine blk_drewN ?_ _ | refine blk_drew ?_ | refine blk_alloc ?_ _)); exact BK225.out⟩, ⟨by repeat (first | (with_reducible first | exact HB.out | apply below_alloc | apply pw_below_drewN | apply below_drew1 | refine below_set ?_ GE225.out) | exact HB.out)⟩⟩
                          · rw [if_neg c33] at H
                            have c33b0 : decide (0 < (t214.length : Int)) = false := decide_eq_false c33
                            have c33b1 : decide (0 < t214.length) = false := decide_eq_false (by omega)
                            clear c33
                            (first | rw [c33b0] | (simp only [i64_w, i32_w]; rw [c33b0]) | skip)
                            have H' := Aside0.mk H
                            clear H
                            go_wp2
                            go_meet
                            case rel => exact ⟨_, (x14_3), H', ⟨by have := HJ5.out; have := HK2.out; have := HK3.out; first | omega | exact Nat.le_refl _⟩, ⟨by (with_reducible repeat (first | apply Kd.R_alloc | apply Kd.R_drewN | apply Kd.R_drew)); exact HO_8.out⟩, ⟨by (with_reducible repeat (first | apply Kd.R_alloc | apply Kd.R_drewN | apply Kd.R_drew)); exact HO_14.out⟩, ⟨by (with_reducible repeat (first | apply Kd.R_alloc | apply Kd.R_drewN | apply Kd.R_drew)); exact HO_226001.out⟩, ⟨by (with_reducible repeat (first | refine blk_drewN ?_ _ | refine blk_drew ?_ | refine blk_alloc ?_ _)); exact BK225.out⟩, ⟨by repeat (first | (with_reducible first | exact HB.out | apply below_alloc | apply pw_below_drewN | apply below_drew1 | refine below_set ?_ GE225.out) | exact HB.out)⟩⟩
                    case rest =>
                      clear HC31
                      try clear c1
                      try clear c2
                      try clear p2
                      try clear q2
                      try clear hx2
                      try clear c3
                      try clear c5
                      try clear p6
                      try clear c9
                      try clear c11
                      try clear c13
                      try clear c14
                      try clear c16
                      try clear c16b0
                      try clear c16b1
                      try clear c17
                      try clear c18
                      try clear c19
                      try clear p22
                      try clear q22
                      try clear hx22
                      try clear c23
                      try clear p23
                      try clear q23
                      try clear hx23
                      try clear c26
                      try clear c26b0
                      try clear c27
                      try clear c27b0
                      try clear c28
                      try clear c28b0
                      try clear c29
                      try clear c29b0
                      try clear c29b1
                      try clear c29b2
                      try clear c30
                      try clear c33
                      try clear c33b0
                      try clear c33b1
                      try clear c34
                      try clear c34b0
                      try clear c35
                      try clear c35b0
                      try clear c35b1
                      try clear c35b2
                      try clear c37
                      try clear c37b0
                      try clear c38
                      try clear c38b0
                      try clear c39
                      try clear hcz24_0
                      try clear hcz24_1
                      try clear hfz24_0
                      try clear hfz24_1
                      try clear hx226_0
                      try clear hx230_0
                      try clear p2
                      try clear p22
                      try clear p226
                      try clear p230
                      try clear p6
                      try clear q2
                      try clear q22
                      try clear q226
                      try clear q230
                      obtain ⟨kq, x14_30, HA, HJ30, HO_8, HO_14, HO_226001, BK225, HB⟩ := hcut
                      cases kq with
                      | zero => exact absurd HA.out (by simp [storagebarterlaw08_ManifestRestores.j3])
                      | succ kj30 =>
                        have H := HA.out
                        clear HA
                        simp only [storagebarterlaw08_ManifestRestores.j3] at H
                        replace H := Option.bind_eq_some_iff.mp H
                        obtain ⟨⟨t234, t235⟩, A430, H⟩ := H
                        try dsimp only at H
                        have A43 := Aside0.mk A430
                        clear A430
                        by_cases c44 : t235 = 0
                        · rw [if_pos c44] at H
                          have c44b0 : (t235 == 0) = true := beq_iff_eq.mpr c44
                          have c44b1 : (t235 != 0) = false := bne_eq_false_iff_eq.mpr c44
                          clear c44
                          replace H := Option.bind_eq_some_iff.mp H
                          obtain ⟨⟨t236, t237⟩, A450, H⟩ := H
                          try dsimp only at H
                          have A45 := Aside0.mk A450
                          clear A450
                          by_cases c46 : t237 = 0
                          · rw [if_pos c46] at H
                            have c46b0 : (t237 == 0) = true := beq_iff_eq.mpr c46
                            have c46b1 : (t237 != 0) = false := bne_eq_false_iff_eq.mpr c46
                            clear c46
                            by_cases c47 : t236 = (x11_2.size : Int)
                            · rw [if_pos c47] at H
                              have c47b0 : (t236 == (x11_2.size : Int)) = true := beq_iff_eq.mpr c47
                              have c47b1 : (t236 != (x11_2.size : Int)) = false := bne_eq_false_iff_eq.mpr c47
                              clear c47
                              obtain rfl := Option.some.inj H
                              have hcz48_0 : wc.cell? ⟨gb225, 0, none⟩ = some (.int .i64 t220) := (blk_cell BK225.out 0).trans rfl
                              have hcz48_1 : wc.cell? ⟨gb225, 1, none⟩ = some (.slice Ao25 t221.length co25) := (blk_cell BK225.out 1).trans rfl
                              have hfz48_0 := blk_frozen BK225.out 0
                              have hfz48_1 := blk_frozen BK225.out 1
                              obtain ⟨Ao49, co49, eo49⟩ := Kd.R_slice HO_14.out
                              subst eo49
                              go_wp2_with (first | ((with_reducible refine gate_callee (f := 20) rfl ?_); refine goesL_ (some 87) rfl rfl Try.func20 (by kernel_rfl) rfl #[.agg #[.int .i64 t220, .slice Ao25 t221.length co25], .slice Ao49 x14_30.length co49] rfl (by (try simp only [List.map_toArray, List.map_cons, List.map_nil]); first | done | rfl | (simp only [List.length_drop, List.length_take]; rfl)) ?_; (with_reducible refine (manifest_Restore.calls t220 _ _ t221 _ _ x14_30 t234 t235 _ ?side1 ?side2 ?side3 ?side4 A43.out).mono ?_); (case side1 => repeat (first | exact (Kd.R_reads' HO_226001.out).2.2 | (with_reducible refine Kd.C_alloc ?_ _) | (with_reducible refine Kd.C_drewN ?_ _) | (with_reducible refine Kd.C_drew ?_))); (case side2 => exact (Kd.R_reads' HO_226001.out).2.1); (case side3 => repeat (first | exact (Kd.R_reads' HO_14.out).2.2 | (with_reducible refine Kd.C_alloc ?_ _) | (with_reducible refine Kd.C_drewN ?_ _) | (with_reducible refine Kd.C_drew ?_))); (case side4 => exact (Kd.R_reads' HO_14.out).2.1); rintro e w50 ⟨rfl, hb⟩; refine ⟨_, rfl, ?_⟩; have n0_ := Aside0.mk (Kd.R_below (by (with_reducible repeat (first | apply Kd.R_alloc | apply Kd.R_drewN | apply Kd.R_drew)); exact HO_8.out) hb); have n1_ := Aside0.mk (Kd.R_below (by (with_reducible repeat (first | apply Kd.R_alloc | apply Kd.R_drewN | apply Kd.R_drew)); exact HO_14.out) hb); have n2_ := Aside0.mk (Kd.R_below (by (with_reducible repeat (first | apply Kd.R_alloc | apply Kd.R_drewN | apply Kd.R_drew)); exact HO_226001.out) hb); have n3_ := Aside0.mk (blk_below (g := gb225) (o := .cells #[.int .i64 t220, .slice Ao25 t221.length co25] 32 (0, 0)) (by (with_reducible repeat (first | refine blk_drewN ?_ _ | refine blk_drew ?_ | refine blk_alloc ?_ _)); exact BK225.out) hb); have n4_ := Aside0.mk (below_step (by repeat (first | (with_reducible first | exact HB.out | apply below_alloc | apply pw_below_drewN | apply below_drew1 | refine below_set ?_ GE225.out) | exact HB.out)) hb); clear HO_8; clear HO_14; clear HO_226001; clear BK225; clear HB; have HO_8 := n0_; have HO_14 := n1_; have HO_226001 := n2_; have BK225 := n3_; have HB := n4_; clear n0_ n1_ n2_ n3_ n4_; (try clear hb); (try clear hb2); (try clear hk); (try clear hi); have hcz51_0 : w50.cell? ⟨gb225, 0, none⟩ = some (.int .i64 t220) := (blk_cell BK225.out 0).trans rfl; have hcz51_1 : w50.cell? ⟨gb225, 1, none⟩ = some (.slice Ao25 t221.length co25) := (blk_cell BK225.out 1).trans rfl; have hfz51_0 := blk_frozen BK225.out 0; have hfz51_1 := blk_frozen BK225.out 1) | ((with_reducible refine gate_callee (f := 22) rfl ?_); refine goesL_ (some 108) rfl rfl Try.func22 (by kernel_rfl) rfl #[.agg #[.int .i64 t220, .slice Ao25 t221.length co25]] rfl (by (try simp only [List.map_toArray, List.map_cons, List.map_nil]); first | done | rfl | (simp only [List.length_drop, List.length_take]; rfl)) ?_; (with_reducible refine (manifest_Size.calls kj30 t220 _ _ t221 t236 t237 _ ?side1 ?side2 A45.out).mono ?_); (case side1 => repeat (first | exact (Kd.R_reads' HO_226001.out).2.2 | (with_reducible refine Kd.C_alloc ?_ _) | (with_reducible refine Kd.C_drewN ?_ _) | (with_reducible refine Kd.C_drew ?_))); (case side2 => exact (Kd.R_reads' HO_226001.out).2.1); rintro e w52 ⟨rfl, hb⟩; refine ⟨_, rfl, ?_⟩; have n0_ := Aside0.mk (Kd.R_below (by (with_reducible repeat (first | apply Kd.R_alloc | apply Kd.R_drewN | apply Kd.R_drew)); exact HO_8.out) hb); have n1_ := Aside0.mk (Kd.R_below (by (with_reducible repeat (first | apply Kd.R_alloc | apply Kd.R_drewN | apply Kd.R_drew)); exact HO_14.out) hb); have n2_ := Aside0.mk (Kd.R_below (by (with_reducible repeat (first | apply Kd.R_alloc | apply Kd.R_drewN | apply Kd.R_drew)); exact HO_226001.out) hb); have n3_ := Aside0.mk (blk_below (g := gb225) (o := .cells #[.int .i64 t220, .slice Ao25 t221.length co25] 32 (0, 0)) (by (with_reducible repeat (first | refine blk_drewN ?_ _ | refine blk_drew ?_ | refine blk_alloc ?_ _)); exact BK225.out) hb); have n4_ := Aside0.mk (below_step (by repeat (first | (with_reducible first | exact HB.out | apply below_alloc | apply pw_below_drewN | apply below_drew1 | refine below_set ?_ GE225.out) | exact HB.out)) hb); clear HO_8; clear HO_14; clear HO_226001; clear BK225; clear HB; have HO_8 := n0_; have HO_14 := n1_; have HO_226001 := n2_; have BK225 := n3_; have HB := n4_; clear n0_ n1_ n2_ n3_ n4_; (try clear hb); (try clear hb2); (try clear hk); (try clear hi)))
                              go_ret
                              exact ⟨by first | rfl | (simp [errW_none, errW_some] <;> rfl) | (simp [*, errW_none, errW_some] <;> rfl), by repeat (first | (with_reducible first | exact HB.out | apply below_alloc | apply pw_below_drewN | apply below_drew1 | refine below_set ?_ GE225.out) | exact HB.out)⟩
                            · rw [if_neg c47] at H
                              exact absurd (H.trans (congrArg some RT_.out)) (by simp)
                          · rw [if_neg c46] at H
                            exact absurd (H.trans (congrArg some RT_.out)) (by simp)
                        · rw [if_neg c44] at H
                          have c44b0 : (t235 == 0) = false := beq_eq_false_iff_ne.mpr c44
                          have c44b1 : (t235 != 0) = true := bne_iff_ne.mpr c44
                          by_cases c53 : t235 = 8
                          · rw [if_pos c53] at H
                            have c53b0 : (t235 == 8) = true := beq_iff_eq.mpr c53
                            have c53b1 : (t235 != 8) = false := bne_eq_false_iff_eq.mpr c53
                            clear c53
                            replace H := Option.bind_eq_some_iff.mp H
                            obtain ⟨⟨t238, t239⟩, A540, H⟩ := H
                            try dsimp only at H
                            have A54 := Aside0.mk A540
                            clear A540
                            by_cases c55 : t239 = 0
                            · rw [if_pos c55] at H
                              have c55b0 : (t239 == 0) = true := beq_iff_eq.mpr c55
                              have c55b1 : (t239 != 0) = false := bne_eq_false_iff_eq.mpr c55
                              clear c55
                              by_cases c56 : t238 = (x11_2.size : Int)
                              · rw [if_pos c56] at H
                                have c56b0 : (t238 == (x11_2.size : Int)) = true := beq_iff_eq.mpr c56
                                have c56b1 : (t238 != (x11_2.size : Int)) = false := bne_eq_false_iff_eq.mpr c56
                                clear c56
                                obtain rfl := Option.some.inj H
                                have hcz57_0 : wc.cell? ⟨gb225, 0, none⟩ = some (.int .i64 t220) := (blk_cell BK225.out 0).trans rfl
                                have hcz57_1 : wc.cell? ⟨gb225, 1, none⟩ = some (.slice Ao25 t221.length co25) := (blk_cell BK225.out 1).trans rfl
                                have hfz57_0 := blk_frozen BK225.out 0
                                have hfz57_1 := blk_frozen BK225.out 1
                                obtain ⟨Ao58, co58, eo58⟩ := Kd.R_slice HO_14.out
                                subst eo58
                                go_wp2_with (first | ((with_reducible refine gate_callee (f := 20) rfl ?_); refine goesL_ (some 87) rfl rfl Try.func20 (by kernel_rfl) rfl #[.agg #[.int .i64 t220, .slice Ao25 t221.length co25], .slice Ao58 x14_30.length co58] rfl (by (try simp only [List.map_toArray, List.map_cons, List.map_nil]); first | done | rfl | (simp only [List.length_drop, List.length_take]; rfl)) ?_; (with_reducible refine (manifest_Restore.calls t220 _ _ t221 _ _ x14_30 t234 t235 _ ?side1 ?side2 ?side3 ?side4 A43.out).mono ?_); (case side1 => repeat (first | exact (Kd.R_reads' HO_226001.out).2.2 | (with_reducible refine Kd.C_alloc ?_ _) | (with_reducible refine Kd.C_drewN ?_ _) | (with_reducible refine Kd.C_drew ?_))); (case side2 => exact (Kd.R_reads' HO_226001.out).2.1); (case side3 => repeat (first | exact (Kd.R_reads' HO_14.out).2.2 | (with_reducible refine Kd.C_alloc ?_ _) | (with_reducible refine Kd.C_drewN ?_ _) | (with_reducible refine Kd.C_drew ?_))); (case side4 => exact (Kd.R_reads' HO_14.out).2.1); rintro e w59 ⟨rfl, hb⟩; refine ⟨_, rfl, ?_⟩; have n0_ := Aside0.mk (Kd.R_below (by (with_reducible repeat (first | apply Kd.R_alloc | apply Kd.R_drewN | apply Kd.R_drew)); exact HO_8.out) hb); have n1_ := Aside0.mk (Kd.R_below (by (with_reducible repeat (first | apply Kd.R_alloc | apply Kd.R_drewN | apply Kd.R_drew)); exact HO_14.out) hb); have n2_ := Aside0.mk (Kd.R_below (by (with_reducible repeat (first | apply Kd.R_alloc | apply Kd.R_drewN | apply Kd.R_drew)); exact HO_226001.out) hb); have n3_ := Aside0.mk (blk_below (g := gb225) (o := .cells #[.int .i64 t220, .slice Ao25 t221.length co25] 32 (0, 0)) (by (with_reducible repeat (first | refine blk_drewN ?_ _ | refine blk_drew ?_ | refine blk_alloc ?_ _)); exact BK225.out) hb); have n4_ := Aside0.mk (below_step (by repeat (first | (with_reducible first | exact HB.out | apply below_alloc | apply pw_below_drewN | apply below_drew1 | refine below_set ?_ GE225.out) | exact HB.out)) hb); clear HO_8; clear HO_14; clear HO_226001; clear BK225; clear HB; have HO_8 := n0_; have HO_14 := n1_; have HO_226001 := n2_; have BK225 := n3_; have HB := n4_; clear n0_ n1_ n2_ n3_ n4_; (try clear hb); (try clear hb2); (try clear hk); (try clear hi); have hcz60_0 : w59.cell? ⟨gb225, 0, none⟩ = some (.int .i64 t220) := (blk_cell BK225.out 0).trans rfl; have hcz60_1 : w59.cell? ⟨gb225, 1, none⟩ = some (.slice Ao25 t221.length co25) := (blk_cell BK225.out 1).trans rfl; have hfz60_0 := blk_frozen BK225.out 0; have hfz60_1 := blk_frozen BK225.out 1) | ((with_reducible refine gate_callee (f := 22) rfl ?_); refine goesL_ (some 108) rfl rfl Try.func22 (by kernel_rfl) rfl #[.agg #[.int .i64 t220, .slice Ao25 t221.length co25]] rfl (by (try simp only [List.map_toArray, List.map_cons, List.map_nil]); first | done | rfl | (simp only [List.length_drop, List.length_take]; rfl)) ?_; (with_reducible refine (manifest_Size.calls kj30 t220 _ _ t221 t238 t239 _ ?side1 ?side2 A54.out).mono ?_); (case side1 => repeat (first | exact (Kd.R_reads' HO_226001.out).2.2 | (with_reducible refine Kd.C_alloc ?_ _) | (with_reducible refine Kd.C_drewN ?_ _) | (with_reducible refine Kd.C_drew ?_))); (case side2 => exact (Kd.R_reads' HO_226001.out).2.1); rintro e w61 ⟨rfl, hb⟩; refine ⟨_, rfl, ?_⟩; have n0_ := Aside0.mk (Kd.R_below (by (with_reducible repeat (first | apply Kd.R_alloc | apply Kd.R_drewN | apply Kd.R_drew)); exact HO_8.out) hb); have n1_ := Aside0.mk (Kd.R_below (by (with_reducible repeat (first | apply Kd.R_alloc | apply Kd.R_drewN | apply Kd.R_drew)); exact HO_14.out) hb); have n2_ := Aside0.mk (Kd.R_below (by (with_reducible repeat (first | apply Kd.R_alloc | apply Kd.R_drewN | apply Kd.R_drew)); exact HO_226001.out) hb); have n3_ := Aside0.mk (blk_below (g := gb225) (o := .cells #[.int .i64 t220, .slice Ao25 t221.length co25] 32 (0, 0)) (by (with_reducible repeat (first | refine blk_drewN ?_ _ | refine blk_drew ?_ | refine blk_alloc ?_ _)); exact BK225.out) hb); have n4_ := Aside0.mk (below_step (by repeat (first | (with_reducible first | exact HB.out | apply below_alloc | apply pw_below_drewN | apply below_drew1 | refine below_set ?_ GE225.out) | exact HB.out)) hb); clear HO_8; clear HO_14; clear HO_226001; clear BK225; clear HB; have HO_8 := n0_; have HO_14 := n1_; have HO_226001 := n2_; have BK225 := n3_; have HB := n4_; clear n0_ n1_ n2_ n3_ n4_; (try clear hb); (try clear hb2); (try clear hk); (try clear hi)))
                                go_ret
                                exact ⟨by first | rfl | (simp [errW_none, errW_some] <;> rfl) | (simp [*, errW_none, errW_some] <;> rfl), by repeat (first | (with_reducible first | exact HB.out | apply below_alloc | apply pw_below_drewN | apply below_drew1 | refine below_set ?_ GE225.out) | exact HB.out)⟩
                              · rw [if_neg c56] at H
                                exact absurd (H.trans (congrArg some RT_.out)) (by simp)
                            · rw [if_neg c55] at H
                              exact absurd (H.trans (congrArg some RT_.out)) (by simp)
                          · rw [if_neg c53] at H
                            have c53b0 : (t235 == 8) = false := beq_eq_false_iff_ne.mpr c53
                            have c53b1 : (t235 != 8) = true := bne_iff_ne.mpr c53
                            by_cases c62 : (t214.length : Int) > 0
                            · rw [if_pos c62] at H
                              have c62b0 : decide (0 < (t214.length : Int)) = true := decide_eq_true c62
                              have c62b1 : decide (0 < t214.length) = true := decide_eq_true (by omega)
                              clear c62
                              replace H := Option.bind_eq_some_iff.mp H
                              obtain ⟨t240, A630, H⟩ := H
                              try dsimp only at H
                              have A63 := Aside0.mk A630
                              clear A630
                              by_cases c64 : t240 = true
                              · subst c64
                                rw [if_pos rfl] at H
                                exact absurd (H.trans (congrArg some RT_.out)) (by simp)
                              · replace c64 := Bool.eq_false_iff.mpr c64
                                subst c64
                                rw [if_neg (show ¬ (false = true) by decide)] at H
                                replace H := Option.bind_eq_some_iff.mp H
                                obtain ⟨⟨t241, t242⟩, A650, H⟩ := H
                                try dsimp only at H
                                have A65 := Aside0.mk A650
                                clear A650
                                by_cases c66 : t242 = 0
                                · rw [if_pos c66] at H
                                  have c66b0 : (t242 == 0) = true := beq_iff_eq.mpr c66
                                  have c66b1 : (t242 != 0) = false := bne_eq_false_iff_eq.mpr c66
                                  clear c66
                                  by_cases c67 : t241 = (x11_2.size : Int)
                                  · rw [if_pos c67] at H
                                    have c67b0 : (t241 == (x11_2.size : Int)) = true := beq_iff_eq.mpr c67
                                    have c67b1 : (t241 != (x11_2.size : Int)) = false := bne_eq_false_iff_eq.mpr c67
                                    clear c67
                                    obtain rfl := Option.some.inj H
                                    have hcz68_0 : wc.cell? ⟨gb225, 0, none⟩ = some (.int .i64 t220) := (blk_cell BK225.out 0).trans rfl
                                    have hcz68_1 : wc.cell? ⟨gb225, 1, none⟩ = some (.slice Ao25 t221.length co25) := (blk_cell BK225.out 1).trans rfl
                                    have hfz68_0 := blk_frozen BK225.out 0
                                    have hfz68_1 := blk_frozen BK225.out 1
                                    obtain ⟨Ao69, co69, eo69⟩ := Kd.R_slice HO_14.out
                                    subst eo69
                                    go_wp2_with (first | ((with_reducible refine gate_callee (f := 20) rfl ?_); refine goesL_ (some 87) rfl rfl Try.func20 (by kernel_rfl) rfl #[.agg #[.int .i64 t220, .slice Ao25 t221.length co25], .slice Ao69 x14_30.length co69] rfl (by (try simp only [List.map_toArray, List.map_cons, List.map_nil]); first | done | rfl | (simp only [List.length_drop, List.length_take]; rfl)) ?_; (with_reducible refine (manifest_Restore.calls t220 _ _ t221 _ _ x14_30 t234 t235 _ ?side1 ?side2 ?side3 ?side4 A43.out).mono ?_); (case side1 => repeat (first | exact (Kd.R_reads' HO_226001.out).2.2 | (with_reducible refine Kd.C_alloc ?_ _) | (with_reducible refine Kd.C_drewN ?_ _) | (with_reducible refine Kd.C_drew ?_))); (case side2 => exact (Kd.R_reads' HO_226001.out).2.1); (case side3 => repeat (first | exact (Kd.R_reads' HO_14.out).2.2 | (with_reducible refine Kd.C_alloc ?_ _) | (with_reducible refine Kd.C_drewN ?_ _) | (with_reducible refine Kd.C_drew ?_))); (case side4 => exact (Kd.R_reads' HO_14.out).2.1); rintro e w70 ⟨rfl, hb⟩; refine ⟨_, rfl, ?_⟩; have n0_ := Aside0.mk (Kd.R_below (by (with_reducible repeat (first | apply Kd.R_alloc | apply Kd.R_drewN | apply Kd.R_drew)); exact HO_8.out) hb); have n1_ := Aside0.mk (Kd.R_below (by (with_reducible repeat (first | apply Kd.R_alloc | apply Kd.R_drewN | apply Kd.R_drew)); exact HO_14.out) hb); have n2_ := Aside0.mk (Kd.R_below (by (with_reducible repeat (first | apply Kd.R_alloc | apply Kd.R_drewN | apply Kd.R_drew)); exact HO_226001.out) hb); have n3_ := Aside0.mk (blk_below (g := gb225) (o := .cells #[.int .i64 t220, .slice Ao25 t221.length co25] 32 (0, 0)) (by (with_reducible repeat (first | refine blk_drewN ?_ _ | refine blk_drew ?_ | refine blk_alloc ?_ _)); exact BK225.out) hb); have n4_ := Aside0.mk (below_step (by repeat (first | (with_reducible first | exact HB.out | apply below_alloc | apply pw_below_drewN | apply below_drew1 | refine below_set ?_ GE225.out) | exact HB.out)) hb); clear HO_8; clear HO_14; clear HO_226001; clear BK225; clear HB; have HO_8 := n0_; have HO_14 := n1_; have HO_226001 := n2_; have BK225 := n3_; have HB := n4_; clear n0_ n1_ n2_ n3_ n4_; (try clear hb); (try clear hb2); (try clear hk); (try clear hi)) | (go_at_call 21; (with_reducible refine (storagebarterlaw08_all.calls kj30 _ _ x14_30 _ _ t214 false _ ?side1 ?side2 ?side3 ?side4 A63.out).mono ?_); (case side1 => repeat (first | exact (Kd.R_reads' HO_14.out).2.2 | (with_reducible refine Kd.C_alloc ?_ _) | (with_reducible refine Kd.C_drewN ?_ _) | (with_reducible refine Kd.C_drew ?_))); (case side2 => exact (Kd.R_reads' HO_14.out).2.1); (case side3 => repeat (first | exact (Kd.R_reads' HO_8.out).2.2 | (with_reducible refine Kd.C_alloc ?_ _) | (with_reducible refine Kd.C_drewN ?_ _) | (with_reducible refine Kd.C_drew ?_))); (case side4 => exact (Kd.R_reads' HO_8.out).2.1); rintro e w' ⟨rfl, ⟨nd, rfl⟩⟩; have hcz71_0 : w70.cell? ⟨gb225, 0, none⟩ = some (.int .i64 t220) := (blk_cell BK225.out 0).trans rfl; have hcz71_1 : w70.cell? ⟨gb225, 1, none⟩ = some (.slice Ao25 t221.length co25) := (blk_cell BK225.out 1).trans rfl; have hfz71_0 := blk_frozen BK225.out 0; have hfz71_1 := blk_frozen BK225.out 1) | ((with_reducible refine gate_callee (f := 22) rfl ?_); refine goesL_ (some 108) rfl rfl Try.func22 (by kernel_rfl) rfl #[.agg #[.int .i64 t220, .slice Ao25 t221.length co25]] rfl (by (try simp only [List.map_toArray, List.map_cons, List.map_nil]); first | done | rfl | (simp only [List.length_drop, List.length_take]; rfl)) ?_; (with_reducible refine (manifest_Size.calls kj30 t220 _ _ t221 t241 t242 _ ?side1 ?side2 A65.out).mono ?_); (case side1 => repeat (first | exact (Kd.R_reads' HO_226001.out).2.2 | (with_reducible refine Kd.C_alloc ?_ _) | (with_reducible refine Kd.C_drewN ?_ _) | (with_reducible refine Kd.C_drew ?_))); (case side2 => exact (Kd.R_reads' HO_226001.out).2.1); rintro e w72 ⟨rfl, hb⟩; refine ⟨_, rfl, ?_⟩; have n0_ := Aside0.mk (Kd.R_below (by (with_reducible repeat (first | apply Kd.R_alloc | apply Kd.R_drewN | apply Kd.R_drew)); exact HO_8.out) hb); have n1_ := Aside0.mk (Kd.R_below (by (with_reducible repeat (first | apply Kd.R_alloc | apply Kd.R_drewN | apply Kd.R_drew)); exact HO_14.out) hb); have n2_ := Aside0.mk (Kd.R_below (by (with_reducible repeat (first | apply Kd.R_alloc | apply Kd.R_drewN | apply Kd.R_drew)); exact HO_226001.out) hb); have n3_ := Aside0.mk (blk_below (g := gb225) (o := .cells #[.int .i64 t220, .slice Ao25 t221.length co25] 32 (0, 0)) (by (with_reducible repeat (first | refine blk_drewN ?_ _ | refine blk_drew ?_ | refine blk_alloc ?_ _)); exact BK225.out) hb); have n4_ := Aside0.mk (below_step (by repeat (first | (with_reducible first | exact HB.out | apply below_alloc | apply pw_below_drewN | apply below_drew1 | refine below_set ?_ GE225.out) | exact HB.out)) hb); clear HO_8; clear HO_14; clear HO_226001; clear BK225; clear HB; have HO_8 := n0_; have HO_14 := n1_; have HO_226001 := n2_; have BK225 := n3_; have HB := n4_; clear n0_ n1_ n2_ n3_ n4_; (try clear hb); (try clear hb2); (try clear hk); (try clear hi)))
                                    go_ret
                                    exact ⟨by first | rfl | (simp [errW_none, errW_some] <;> rfl) | (simp [*, errW_none, errW_some] <;> rfl), by repeat (first | (with_reducible first | exact HB.out | apply below_alloc | apply pw_below_drewN | apply below_drew1 | refine below_set ?_ GE225.out) | exact HB.out)⟩
                                  · rw [if_neg c67] at H
                                    exact absurd (H.trans (congrArg some RT_.out)) (by simp)
                                · rw [if_neg c66] at H
                                  exact absurd (H.trans (congrArg some RT_.out)) (by simp)
                            · rw [if_neg c62] at H
                              have c62b0 : decide (0 < (t214.length : Int)) = false := decide_eq_false c62
                              have c62b1 : decide (0 < t214.length) = false := decide_eq_false (by omega)
                              clear c62
                              replace H := Option.bind_eq_some_iff.mp H
                              obtain ⟨⟨t243, t244⟩, A730, H⟩ := H
                              try dsimp only at H
                              have A73 := Aside0.mk A730
                              clear A730
                              by_cases c74 : t244 = 0
                              · rw [if_pos c74] at H
                                have c74b0 : (t244 == 0) = true := beq_iff_eq.mpr c74
                                have c74b1 : (t244 != 0) = false := bne_eq_false_iff_eq.mpr c74
                                clear c74
                                by_cases c75 : t243 = (x11_2.size : Int)
                                · rw [if_pos c75] at H
                                  have c75b0 : (t243 == (x11_2.size : Int)) = true := beq_iff_eq.mpr c75
                                  have c75b1 : (t243 != (x11_2.size : Int)) = false := bne_eq_false_iff_eq.mpr c75
                                  clear c75
                                  obtain rfl := Option.some.inj H
                                  have hcz76_0 : wc.cell? ⟨gb225, 0, none⟩ = some (.int .i64 t220) := (blk_cell BK225.out 0).trans rfl
                                  have hcz76_1 : wc.cell? ⟨gb225, 1, none⟩ = some (.slice Ao25 t221.length co25) := (blk_cell BK225.out 1).trans rfl
                                  have hfz76_0 := blk_frozen BK225.out 0
                                  have hfz76_1 := blk_frozen BK225.out 1
                                  obtain ⟨Ao77, co77, eo77⟩ := Kd.R_slice HO_14.out
                                  subst eo77
                                  go_wp2_with (first | ((with_reducible refine gate_callee (f := 20) rfl ?_); refine goesL_ (some 87) rfl rfl Try.func20 (by kernel_rfl) rfl #[.agg #[.int .i64 t220, .slice Ao25 t221.length co25], .slice Ao77 x14_30.length co77] rfl (by (try simp only [List.map_toArray, List.map_cons, List.map_nil]); first | done | rfl | (simp only [List.length_drop, List.length_take]; rfl)) ?_; (with_reducible refine (manifest_Restore.calls t220 _ _ t221 _ _ x14_30 t234 t235 _ ?side1 ?side2 ?side3 ?side4 A43.out).mono ?_); (case side1 => repeat (first | exact (Kd.R_reads' HO_226001.out).2.2 | (with_reducible refine Kd.C_alloc ?_ _) | (with_reducible refine Kd.C_drewN ?_ _) | (with_reducible refine Kd.C_drew ?_))); (case side2 => exact (Kd.R_reads' HO_226001.out).2.1); (case side3 => repeat (first | exact (Kd.R_reads' HO_14.out).2.2 | (with_reducible refine Kd.C_alloc ?_ _) | (with_reducible refine Kd.C_drewN ?_ _) | (with_reducible refine Kd.C_drew ?_))); (case side4 => exact (Kd.R_reads' HO_14.out).2.1); rintro e w78 ⟨rfl, hb⟩; refine ⟨_, rfl, ?_⟩; have n0_ := Aside0.mk (Kd.R_below (by (with_reducible repeat (first | apply Kd.R_alloc | apply Kd.R_drewN | apply Kd.R_drew)); exact HO_8.out) hb); have n1_ := Aside0.mk (Kd.R_below (by (with_reducible repeat (first | apply Kd.R_alloc | apply Kd.R_drewN | apply Kd.R_drew)); exact HO_14.out) hb); have n2_ := Aside0.mk (Kd.R_below (by (with_reducible repeat (first | apply Kd.R_alloc | apply Kd.R_drewN | apply Kd.R_drew)); exact HO_226001.out) hb); have n3_ := Aside0.mk (blk_below (g := gb225) (o := .cells #[.int .i64 t220, .slice Ao25 t221.length co25] 32 (0, 0)) (by (with_reducible repeat (first | refine blk_drewN ?_ _ | refine blk_drew ?_ | refine blk_alloc ?_ _)); exact BK225.out) hb); have n4_ := Aside0.mk (below_step (by repeat (first | (with_reducible first | exact HB.out | apply below_alloc | apply pw_below_drewN | apply below_drew1 | refine below_set ?_ GE225.out) | exact HB.out)) hb); clear HO_8; clear HO_14; clear HO_226001; clear BK225; clear HB; have HO_8 := n0_; have HO_14 := n1_; have HO_226001 := n2_; have BK225 := n3_; have HB := n4_; clear n0_ n1_ n2_ n3_ n4_; (try clear hb); (try clear hb2); (try clear hk); (try clear hi); have hcz79_0 : w78.cell? ⟨gb225, 0, none⟩ = some (.int .i64 t220) := (blk_cell BK225.out 0).trans rfl; have hcz79_1 : w78.cell? ⟨gb225, 1, none⟩ = some (.slice Ao25 t221.length co25) := (blk_cell BK225.out 1).trans rfl; have hfz79_0 := blk_frozen BK225.out 0; have hfz79_1 := blk_frozen BK225.out 1) | ((with_reducible refine gate_callee (f := 22) rfl ?_); refine goesL_ (some 108) rfl rfl Try.func22 (by kernel_rfl) rfl #[.agg #[.int .i64 t220, .slice Ao25 t221.length co25]] rfl (by (try simp only [List.map_toArray, List.map_cons, List.map_nil]); first | done | rfl | (simp only [List.length_drop, List.length_take]; rfl)) ?_; (with_reducible refine (manifest_Size.calls kj30 t220 _ _ t221 t243 t244 _ ?side1 ?side2 A73.out).mono ?_); (case side1 => repeat (first | exact (Kd.R_reads' HO_226001.out).2.2 | (with_reducible refine Kd.C_alloc ?_ _) | (with_reducible refine Kd.C_drewN ?_ _) | (with_reducible refine Kd.C_drew ?_))); (case side2 => exact (Kd.R_reads' HO_226001.out).2.1); rintro e w80 ⟨rfl, hb⟩; refine ⟨_, rfl, ?_⟩; have n0_ := Aside0.mk (Kd.R_below (by (with_reducible repeat (first | apply Kd.R_alloc | apply Kd.R_drewN | apply Kd.R_drew)); exact HO_8.out) hb); have n1_ := Aside0.mk (Kd.R_below (by (with_reducible repeat (first | apply Kd.R_alloc | apply Kd.R_drewN | apply Kd.R_drew)); exact HO_14.out) hb); have n2_ := Aside0.mk (Kd.R_below (by (with_reducible repeat (first | apply Kd.R_alloc | apply Kd.R_drewN | apply Kd.R_drew)); exact HO_226001.out) hb); have n3_ := Aside0.mk (blk_below (g := gb225) (o := .cells #[.int .i64 t220, .slice Ao25 t221.length co25] 32 (0, 0)) (by (with_reducible repeat (first | refine blk_drewN ?_ _ | refine blk_drew ?_ | refine blk_alloc ?_ _)); exact BK225.out) hb); have n4_ := Aside0.mk (below_step (by repeat (first | (with_reducible first | exact HB.out | apply below_alloc | apply pw_below_drewN | apply below_drew1 | refine below_set ?_ GE225.out) | exact HB.out)) hb); clear HO_8; clear HO_14; clear HO_226001; clear BK225; clear HB; have HO_8 := n0_; have HO_14 := n1_; have HO_226001 := n2_; have BK225 := n3_; have HB := n4_; clear n0_ n1_ n2_ n3_ n4_; (try clear hb); (try clear hb2); (try clear hk); (try clear hi)))
                                  go_ret
                                  exact ⟨by first | rfl | (simp [errW_none, errW_some] <;> rfl) | (simp [*, errW_none, errW_some] <;> rfl), by repeat (first | (with_reducible first | exact HB.out | apply below_alloc | apply pw_below_drewN | apply below_drew1 | refine below_set ?_ GE225.out) | exact HB.out)⟩
                                · rw [if_neg c75] at H
                                  exact absurd (H.trans (congrArg some RT_.out)) (by simp)
                              · rw [if_neg c74] at H
                                exact absurd (H.trans (congrArg some RT_.out)) (by simp)
                  · rw [if_neg c30] at H
                    exact absurd H (by simp)
          · rw [if_neg c16] at H
            have c16b0 : (t224 == 0) = false := beq_eq_false_iff_ne.mpr c16
            have c16b1 : (t224 != 0) = true := bne_iff_ne.mpr c16
            obtain rfl := Option.some.inj H
            go_wp2_with (first | ((with_reducible refine gate_callee (f := 16) rfl ?_); refine goesL_ (some 30) rfl rfl Try.func16 (by kernel_rfl) rfl #[.slice A0 l0.length c0] rfl (by (try simp only [List.map_toArray, List.map_cons, List.map_nil]); first | done | rfl | (simp only [List.length_drop, List.length_take]; rfl)) ?_; (with_reducible refine (storagebartermake_New.calls _ _ l0 t211 t212 w _ ?side1 ?side2 ?side3 A12.out).mono ?_); (case side1 => repeat (first | (with_reducible first | exact HB.out | apply below_alloc | apply pw_below_drewN | apply below_drew1) | exact HB.out)); (case side2 => exact HR0.out); (case side3 => exact HC0.out); rintro e w81 ⟨g213, rfl, hi, hb, hb2⟩; refine ⟨_, rfl, ?_⟩; have n0_ := Aside0.mk (hb); have n1_ := Aside0.mk (hi); clear HB; have HB := n0_; have HI213 := n1_; clear n0_ n1_; (try clear hb); (try clear hb2); (try clear hk); (try clear hi)) | ((with_reducible refine gate_callee (f := 17) rfl ?_); refine goesL_ (some 32) rfl rfl Try.func17 (by kernel_rfl) rfl #[.pointer (some ⟨g213, 0, none⟩)] rfl (by (try simp only [List.map_toArray, List.map_cons, List.map_nil]); first | done | rfl | (simp only [List.length_drop, List.length_take]; rfl)) ?_; (with_reducible refine (storagebartermake_Chunks.calls kj5 g213 t211 t212 t214 t217 w _ ?side1 ?side2 A13.out).mono ?_); (case side1 => repeat (first | (with_reducible first | exact HI213.out | apply IsS86.alloc | apply IsS86.drewN | apply IsS86.drew | apply IsS86.set_1) | exact HI213.out)); (case side2 => repeat (first | (with_reducible first | exact HB.out | apply below_alloc | apply pw_below_drewN | apply below_drew1 | refine below_set ?_ (IsS86.ge HI213.out)) | exact HB.out)); rintro e w82 ⟨v215, rfl, ho0, hi, hb, hk⟩; refine ⟨_, rfl, ?_⟩; have n0_ := Aside0.mk (Kd.R_lower ho0 (below_size (by repeat (first | (with_reducible first | exact HB.out | apply below_alloc | apply pw_below_drewN | apply below_drew1 | refine below_set ?_ (IsS86.ge HI213.out)) | exact HB.out)))); have n1_ := Aside0.mk (hb); have n2_ := Aside0.mk (hi); clear HB; clear HI213; have HO216 := n0_; have HB := n1_; have HI213 := n2_; clear n0_ n1_ n2_; (try clear hb); (try clear hb2); (try clear hk); (try clear hi); (try clear ho0)) | ((with_reducible refine gate_callee (f := 19) rfl ?_); refine goesL_ (some 35) rfl rfl Try.func19 (by kernel_rfl) rfl #[.pointer (some ⟨g213, 0, none⟩), .int .i64 9] rfl (by (try simp only [List.map_toArray, List.map_cons, List.map_nil]); first | done | rfl | (simp only [List.length_drop, List.length_take]; rfl)) ?_; (with_reducible refine (storagebartermake_Deck_Next.calls g213 t211 t217 9 t218 t219 w _ ?side1 ?side2 A14.out).mono ?_); (case side1 => repeat (first | (with_reducible first | exact HI213.out | apply IsS86.alloc | apply IsS86.drewN | apply IsS86.drew | apply IsS86.set_1) | exact HI213.out)); (case side2 => repeat (first | (with_reducible first | exact HB.out | apply below_alloc | apply pw_below_drewN | apply below_drew1 | refine below_set ?_ (IsS86.ge HI213.out)) | exact HB.out)); rintro e w83 ⟨rfl, hi, hb, hk⟩; refine ⟨_, rfl, ?_⟩; have n0_ := Aside0.mk (Kd.R_mono (Kd.R_keep (IsS86.apart (show IsS86 w _ g213 t211 t217 from by repeat (first | (with_reducible first | exact HI213.out | apply IsS86.alloc | apply IsS86.drewN | apply IsS86.drew | apply IsS86.set_1) | exact HI213.out)) (by (with_reducible repeat (first | apply Kd.R_alloc | apply Kd.R_drewN | apply Kd.R_drew)); exact HO216.out) (by decide)) hk (fun _ h => h.2)) (fun _ h => h.1)); have n1_ := Aside0.mk (hb); have n2_ := Aside0.mk (hi); clear HO216; clear HB; clear HI213; have HO216 := n0_; have HB := n1_; have HI213 := n2_; clear n0_ n1_ n2_; (try clear hb); (try clear hb2); (try clear hk); (try clear hi); obtain ⟨Ao84, co84, eo84⟩ := Kd.R_slice HO216.out; subst eo84) | ((with_reducible refine gate_callee (f := 18) rfl ?_); refine goesL_ (some 38) rfl rfl Try.func18 (by kernel_rfl) rfl #[.int .i64 (wrap64 (1 + t218)), .slice Ao84 t214.length co84] rfl (by (try simp only [List.map_toArray, List.map_cons, List.map_nil]); first | done | rfl | (simp only [List.length_drop, List.length_take]; rfl)) ?_; (with_reducible refine (manifest_Of.calls (wrap64 (1 + t218)) _ _ t214 t220 t221 t224 _ ?side1 ?side2 A15.out).mono ?_); (case side1 => repeat (first | exact (Kd.R_reads' HO216.out).2.2 | (with_reducible refine Kd.C_alloc ?_ _) | (with_reducible refine Kd.C_drewN ?_ _) | (with_reducible refine Kd.C_drew ?_))); (case side2 => exact (Kd.R_reads' HO216.out).2.1); rintro e w85 ⟨v222, rfl, ho0, hb⟩; refine ⟨_, rfl, ?_⟩; have n0_ := Aside0.mk (Kd.R_below (by (with_reducible repeat (first | apply Kd.R_alloc | apply Kd.R_drewN | apply Kd.R_drew)); exact HO216.out) hb); have n1_ := Aside0.mk (Kd.R_lower ho0 (below_size (by repeat (first | (with_reducible first | exact HB.out | apply below_alloc | apply pw_below_drewN | apply below_drew1 | refine below_set ?_ (IsS86.ge HI213.out)) | exact HB.out)))); have n2_ := Aside0.mk (IsS86.below (by repeat (first | (with_reducible first | exact HI213.out | apply IsS86.alloc | apply IsS86.drewN | apply IsS86.drew | apply IsS86.set_1) | exact HI213.out)) hb); have n3_ := Aside0.mk (below_step (by repeat (first | (with_reducible first | exact HB.out | apply below_alloc | apply pw_below_drewN | apply below_drew1 | refine below_set ?_ (IsS86.ge HI213.out)) | exact HB.out)) hb); clear HO216; clear HI213; clear HB; have HO216 := n0_; have HO223 := n1_; have HI213 := n2_; have HB := n3_; clear n0_ n1_ n2_ n3_; (try clear hb); (try clear hb2); (try clear hk); (try clear hi); (try clear ho0)) | ((with_reducible refine gate_dst (N := 9) rfl ?_); (try (refine gate_guard (by rfl) ?_; dsimp only)); refine box_event ?hg (N := 9) ?hd (cs := #[.int .i64 0, .slice none 0 0]) (t := 32) ?hr ?_; (case hd => rfl); (case hg => rfl); (case hr => first | (go_simp; done) | (go_simp; rfl)); intro gb225 hg w86 hbox hb; have n0_ := Aside0.mk (Kd.R_below (by (with_reducible repeat (first | apply Kd.R_alloc | apply Kd.R_drewN | apply Kd.R_drew)); exact HO216.out) hb); have n1_ := Aside0.mk (Kd.R_below (by (with_reducible repeat (first | apply Kd.R_alloc | apply Kd.R_drewN | apply Kd.R_drew)); exact HO223.out) hb); have n2_ := Aside0.mk (IsS86.below (by repeat (first | (with_reducible first | exact HI213.out | apply IsS86.alloc | apply IsS86.drewN | apply IsS86.drew | apply IsS86.set_1) | exact HI213.out)) hb); have n3_ := Aside0.mk (below_step (by repeat (first | (with_reducible first | exact HB.out | apply below_alloc | apply pw_below_drewN | apply below_drew1 | refine below_set ?_ (IsS86.ge HI213.out)) | exact HB.out)) hb); have n4_ := Aside0.mk (hbox); have n5_ := Aside0.mk ((by rw [hg]; exact (below_size (by repeat (first | (with_reducible first | exact HB.out | apply below_alloc | apply pw_below_drewN | apply below_drew1 | refine below_set ?_ (IsS86.ge HI213.out)) | exact HB.out))) : w.heap.size ≤ gb225)); have n6_ := Aside0.mk ((by rw [hg]; exact (below_size (by repeat (first | (with_reducible first | exact HB.out | apply below_alloc | apply pw_below_drewN | apply below_drew1 | refine below_set ?_ (IsS86.ge HI213.out)) | exact HB.out))) : w.heap.size ≤ gb225)); have n7_ := Aside0.mk ((by rw [hg]; exact Nat.ne_of_lt (IsS86.lt (show IsS86 w _ g213 t211 t219 from by repeat (first | (with_reducible first | exact HI213.out | apply IsS86.alloc | apply IsS86.drewN | apply IsS86.drew | apply IsS86.set_1) | exact HI213.out))) : g213 ≠ gb225)); have n8_ := Aside0.mk ((by rw [hg]; exact Nat.ne_of_gt (IsS86.lt (show IsS86 w _ g213 t211 t219 from by repeat (first | (with_reducible first | exact HI213.out | apply IsS86.alloc | apply IsS86.drewN | apply IsS86.drew | apply IsS86.set_1) | exact HI213.out))) : gb225 ≠ g213)); clear HO216; clear HO223; clear HI213; clear HB; have HO216 := n0_; have HO223 := n1_; have HI213 := n2_; have HB := n3_; have BK225 := n4_; have GW225 := n5_; have GE225 := n6_; have NB213_225 := n7_; have NB225_213 := n8_; clear n0_ n1_ n2_ n3_ n4_ n5_ n6_ n7_ n8_; clear hb hbox hg; have hnb87 := NB225_213.out; have hnc87 := NB213_225.out; have hcz88_0 : w86.cell? ⟨gb225, 0, none⟩ = some (.int .i64 0) := (blk_cell BK225.out 0).trans rfl; have hcz88_1 : w86.cell? ⟨gb225, 1, none⟩ = some (.slice none 0 0) := (blk_cell BK225.out 1).trans rfl; have hfz88_0 := blk_frozen BK225.out 0; have hfz88_1 := blk_frozen BK225.out 1; obtain ⟨Ao89, co89, eo89⟩ := Kd.R_slice HO223.out; subst eo89))
            go_ret
            exact ⟨by first | rfl | (simp [errW_none, errW_some] <;> rfl) | (simp [*, errW_none, errW_some] <;> rfl), by repeat (first | (with_reducible first | exact HB.out | apply below_alloc | apply pw_below_drewN | apply below_drew1 | refine below_set ?_ (IsS86.ge HI213.out) | refine below_set ?_ GE225.out) | exact HB.out)⟩
  · replace c5 := Bool.eq_false_iff.mpr c5
    subst c5
    rw [if_neg (show ¬ (false = true) by decide)] at H
    exact absurd (H.trans (congrArg some RT_.out)) (by simp)

end Go.Proofs.Ytodhkbahjomfhaa.Q

/- The digest, a number's bytes, and choices out of a deck, in plain words. -/
namespace Go.Proofs.Ytodhkbahjomfhaa.Gdm
open Go Go.RowKit Go.Proofs.Ytodhkbahjomfhaa.Gm Go.Proofs.Ytodhkbahjomfhaa.Q Go.Proofs.Ytodhkbahjomfhaa.Gput Go.Proofs.YtodhkbahjomfhaaW.PrintWords Go.Proofs.YtodhkbahjomfhaaW.PrintLast Go.Proofs.YtodhkbahjomfhaaW.PrintMore
set_option linter.unusedVariables false

theorem w64 {x : Int} (h : -9223372036854775808 ≤ x ∧ x ≤ 9223372036854775807) : wrap64 x = x := by unfold wrap64; omega


theorem bt_at (s : ByteArray) (a : Nat) (h : a < s.size) : bt s (a : Int) = ((s.data.toList.drop a).headD 0).toNat := by
  have h' : a < s.data.size := h
  unfold bt
  rw [dif_pos (by simpa using h)]
  simp only [Int.toNat_natCast]
  rw [List.drop_eq_getElem_cons (by simpa using h')]
  rfl

theorem bt_lt (s : ByteArray) (i : Int) : 0 ≤ bt s i ∧ bt s i < 256 := by
  unfold bt
  split
  · have := (s[i.toNat]).toNat_lt; omega
  · omega

theorem wf64 {n : Int} (h : -9223372036854775808 ≤ n ∧ n ≤ 9223372036854775807) : (Lit.int .i64 n).wf = true := Go.WalkArith.wf_i64 h

theorem wire_PutInt_eq (l : List UInt8) (n : Int) (hl : l.length + 10 ≤ 140737488355328) (hn : -9223372036854775808 ≤ n ∧ n ≤ 9223372036854775807) : wire_PutInt.f (B l) n = some (B (l ++ putI n)) := by
  unfold wire_PutInt.f
  rw [if_pos ⟨by rw [B_size]; exact hl, wf64 hn⟩]
  rfl

theorem tmod_mod (a m : Int) (hm : 0 < m) : (Int.tmod a m + m) % m = a % m := by
  have h := Int.mul_tdiv_add_tmod a m
  have e : Int.tmod a m + m = a + m * (1 - Int.tdiv a m) := by rw [Int.mul_sub]; omega
  rw [e, Int.add_mul_emod_self_left]

theorem tmod_range (a m : Int) (hm : 0 < m) : -m < Int.tmod a m ∧ Int.tmod a m < m := by
  refine ⟨?_, Int.tmod_lt_of_pos a hm⟩
  rcases Int.le_total 0 a with h | h
  · have := Int.tmod_nonneg m h; omega
  · have h1 := Int.tmod_nonneg m (show 0 ≤ -a by omega)
    have h2 := Int.tmod_lt_of_pos (-a) hm
    rw [Int.neg_tmod] at h1 h2
    omega

theorem mod_eq (a m : Int) (hm : 0 < m) (hb : m ≤ 4294967296) : storagebartermake_Mod.f a m = some (a % m) := by
  unfold storagebartermake_Mod.f
  have hr := tmod_range a m hm
  rw [if_neg (by omega), w64 (by omega), Int.tmod_eq_emod_of_nonneg (by omega), tmod_mod a m hm]

/-- The digest of bytes, from a value on. -/
def dg : Int → List UInt8 → Int
  | d, [] => d
  | d, b :: l => dg ((d * 1000003 + b.toNat + 1) % 2147483647) l

theorem dg_range : ∀ (l : List UInt8) (d : Int), 0 ≤ d ∧ d < 2147483647 → 0 ≤ dg d l ∧ dg d l < 2147483647
  | [], d, h => h
  | b :: l, d, h => dg_range l _ (by omega)

theorem dg_append (d : Int) (l m : List UInt8) : dg d (l ++ m) = dg (dg d l) m := by
  induction l generalizing d with
  | nil => rfl
  | cons b l ih => simp only [List.cons_append, dg]; exact ih _

theorem sum_step (s : ByteArray) (d : Int) (i : Nat) (hd : 0 ≤ d ∧ d < 2147483647) (hi : i < s.size) : Int.tmod (wrap64 ((wrap64 ((wrap64 (d * 1000003)) + (wrap64 (bt s i)))) + 1)) 2147483647 = (d * 1000003 + (s.data.toList[i]'(by simpa using hi)).toNat + 1) % 2147483647 := by
  have hb := bt_lt s i
  have hbt : bt s i = (s.data.toList[i]'(by simpa using hi)).toNat := by
    have h := bt_at s i hi
    rw [List.drop_eq_getElem_cons (by simpa using hi)] at h
    exact h
  rw [w64 (x := d * 1000003) (by omega), w64 (x := bt s i) (by omega), w64 (x := d * 1000003 + bt s i) (by omega), w64 (by omega), Int.tmod_eq_emod_of_nonneg (by omega), hbt]

theorem Sum_l0 (s : ByteArray) (hs : s.size ≤ 9223372036854775807) : ∀ (n i k : Nat) (d : Int), s.size - i = n → i ≤ s.size → 0 ≤ d ∧ d < 2147483647 → n < k → digest_Sum.l0 k s d s.size i = some (dg d (s.data.toList.drop i)) := by
  intro n
  induction n with
  | zero =>
    intro i k d hn hi hd hk
    obtain ⟨k, rfl⟩ : ∃ m, k = m + 1 := ⟨k - 1, by omega⟩
    simp only [digest_Sum.l0]
    rw [if_neg (by omega), List.drop_of_length_le (by rw [Array.length_toList]; show s.size ≤ i; omega)]
    rfl
  | succ n ih =>
    intro i k d hn hi hd hk
    obtain ⟨k, rfl⟩ : ∃ m, k = m + 1 := ⟨k - 1, by omega⟩
    have hlt : i < s.size := by omega
    simp only [digest_Sum.l0]
    rw [if_pos (by omega), if_pos (by omega), if_pos (by omega), sum_step s d i hd hlt, w64 (by omega), show ((i : Int) + 1) = ((i + 1 : Nat) : Int) by omega, ih (i + 1) k _ (by omega) (by omega) (by omega) (by omega), List.drop_eq_getElem_cons (show i < s.data.toList.length by simpa using hlt)]
    rfl

theorem Sum_eq (l : List UInt8) (k : Nat) (hl : l.length ≤ 9223372036854775807) (hk : l.length < k) : digest_Sum.f k (B l) = some (dg 1 l) := by
  unfold digest_Sum.f
  exact Sum_l0 (B l) (by rw [B_size]; exact hl) l.length 0 k 1 (by rw [B_size]; omega) (by omega) (by omega) hk

/-- A choice out of a deck is in its range; the deck's place stays within its list. -/
theorem next_ok (L : List Int) (at_ n : Int) (hn : 1 ≤ n) (hb : n ≤ 4294967296) (h0 : 0 ≤ at_) (hl : L.length ≤ 1000000) : ∃ t at', storagebartermake_Deck_Next.f L at_ n = some (t, at') ∧ 0 ≤ t ∧ t < n ∧ 0 ≤ at' := by
  unfold storagebartermake_Deck_Next.f
  rw [if_neg (by omega)]
  by_cases h : at_ ≥ (L.length : Int)
  · rw [if_pos h]
    exact ⟨0, at_, rfl, by omega, by omega, h0⟩
  · rw [if_neg h, if_pos h0, if_pos (by omega), mod_eq _ _ (by omega) hb, Option.bind_some]
    exact ⟨_, _, rfl, Int.emod_nonneg _ (by omega), Int.emod_lt_of_pos _ (by omega), by rw [w64 (by omega)]; omega⟩

end Go.Proofs.Ytodhkbahjomfhaa.Gdm

/- Chapter 8 in plain words: names of texts, chunks out of a deck, checks and sizes. -/
namespace Go.Proofs.Ytodhkbahjomfhaa.Gch
open Go Go.RowKit Go.Proofs.Ytodhkbahjomfhaa.Gm Go.Proofs.Ytodhkbahjomfhaa.Gdm Go.Proofs.Ytodhkbahjomfhaa.Q Go.Proofs.Ytodhkbahjomfhaa.Gput Go.Proofs.YtodhkbahjomfhaaW.PrintWords Go.Proofs.YtodhkbahjomfhaaW.PrintLast Go.Proofs.YtodhkbahjomfhaaW.PrintMore
set_option linter.unusedVariables false

theorem nat_pred {k n : Nat} (h : n < k) : ∃ m, k = m + 1 := ⟨k - 1, by omega⟩

/-! ### Names -/
theorem dg_r (l : List UInt8) : 0 ≤ dg 1 l ∧ dg 1 l < 2147483647 := dg_range l 1 (by omega)

theorem nameOf_eq (s : ByteArray) (hs : s.size ≤ 9223372036854775807) (k : Nat) (hk : s.size < k) : manifest_nameOf.f k s = some (dg 1 s.data.toList, (s.size : Int)) := by
  have h := Sum_eq s.data.toList k (by rw [data_length]; exact hs) (by rw [data_length]; exact hk)
  have e : B s.data.toList = s := by cases s; rfl
  rw [e] at h
  unfold manifest_nameOf.f
  rw [h]
  rfl

theorem nm_eq (s : ByteArray) (hs : s.size ≤ 9223372036854775807) : nm s = (dg 1 s.data.toList, (s.size : Int)) := nm_of (nameOf_eq s hs _ (Nat.lt_succ_self _))

theorem named (s : ByteArray) (hs : s.size ≤ 9223372036854775807) : Named s := by
  have h := dg_r s.data.toList
  refine ⟨⟨s.size + 1, ?_⟩, ?_, ?_, by unfold maxLen; omega⟩
  · rw [nm_eq s hs]; exact nameOf_eq s hs _ (Nat.lt_succ_self _)
  · rw [nm_eq s hs]; exact wf64 (by simp only; omega)
  · rw [nm_eq s hs]; exact wf64 (by simp only; omega)

/-! ### Chunks -/
theorem strOf_size (l : List Int) : (strOfNums l).size = l.length := by
  unfold strOfNums
  simp [ByteArray.size]

theorem Text_l0 (L : List Int) (hL : L.length ≤ 1000000) : ∀ (n : Nat) (xs : List Int) (at_ : Int) (k : Nat), 0 ≤ at_ → n < k → xs.length + n ≤ 1000 → ∃ t at', storagebartermake_Text.l0 k xs (n : Int) L at_ = some (t, at') ∧ t.size = xs.length + n ∧ 0 ≤ at' := by
  intro n
  induction n with
  | zero =>
    intro xs at_ k h0 hk hl
    obtain ⟨k, rfl⟩ := nat_pred hk
    rw [storagebartermake_Text.l0, if_neg (by omega)]
    exact ⟨_, _, rfl, by rw [strOf_size]; omega, h0⟩
  | succ n ih =>
    intro xs at_ k h0 hk hl
    obtain ⟨k, rfl⟩ := nat_pred hk
    obtain ⟨t, a, e, -, -, h1⟩ := next_ok L at_ 5 (by omega) (by omega) h0 hL
    rw [storagebartermake_Text.l0, if_pos (by omega), e, Option.bind_some, if_pos (by omega), w64 (x := ((n + 1 : Nat) : Int) - 1) (by omega), show (((n + 1 : Nat) : Int) - 1) = (n : Int) by omega]
    obtain ⟨t', a', e', h2, h3⟩ := ih (xs ++ [(wrap64 (t * 51)) % 256]) a k h1 (by omega) (by rw [List.length_append, List.length_singleton]; omega)
    exact ⟨t', a', e', by rw [h2, List.length_append, List.length_singleton]; omega, h3⟩

theorem Text_ok (L : List Int) (hL : L.length ≤ 1000000) (at_ : Int) (h0 : 0 ≤ at_) (most : Nat) (hm : most ≤ 900) (k : Nat) (hk : most < k) : ∃ t at', storagebartermake_Text.f k L at_ (most : Int) = some (t, at') ∧ t.size ≤ most ∧ 0 ≤ at' := by
  unfold storagebartermake_Text.f
  obtain ⟨t, a, e, p, q, h1⟩ := next_ok L at_ ((most : Int) + 1) (by omega) (by omega) h0 hL
  rw [w64 (x := (most : Int) + 1) (by omega), e, Option.bind_some]
  obtain ⟨n, rfl⟩ : ∃ n : Nat, t = n := ⟨t.toNat, by omega⟩
  obtain ⟨t', a', e', h2, h3⟩ := Text_l0 L hL n [] a k h1 (by omega) (by rw [List.length_nil]; omega)
  exact ⟨t', a', e', by rw [h2, List.length_nil]; omega, h3⟩

theorem Cutting_ok (L : List Int) (hL : L.length ≤ 1000000) (at_ : Int) (h0 : 0 ≤ at_) : ∃ c1 c2 c3 c4 at', storagebartermake_Cutting.f L at_ = some (c1, c2, c3, c4, at') ∧ 0 ≤ at' ∧ 4 ≤ c1 ∧ c1 ≤ c2 ∧ c2 ≤ 30 ∧ 1 ≤ c3 ∧ c3 ≤ c1 ∧ 1 ≤ c4 ∧ c4 ≤ 9 := by
  unfold storagebartermake_Cutting.f
  obtain ⟨t1, a1, e1, p1, q1, h1⟩ := next_ok L at_ 6 (by omega) (by omega) h0 hL
  rw [e1, Option.bind_some]
  obtain ⟨t2, a2, e2, p2, q2, h2⟩ := next_ok L a1 20 (by omega) (by omega) h1 hL
  rw [e2, Option.bind_some]
  dsimp only
  rw [w64 (x := 4 + t1) (by omega)]
  obtain ⟨t3, a3, e3, p3, q3, h3⟩ := next_ok L a2 (4 + t1) (by omega) (by omega) h2 hL
  rw [e3, Option.bind_some]
  obtain ⟨t4, a4, e4, p4, q4, h4⟩ := next_ok L a3 9 (by omega) (by omega) h3 hL
  rw [e4, Option.bind_some]
  dsimp only
  rw [w64 (x := 4 + t1 + t2) (by omega), w64 (x := 1 + t3) (by omega), w64 (x := 1 + t4) (by omega)]
  exact ⟨_, _, _, _, _, rfl, h4, by omega, by omega, by omega, by omega, by omega, by omega, by omega⟩

theorem Weight_l0 (s : ByteArray) (hs : s.size ≤ 1000) (x5 : Int) : ∀ (d : Nat) (i : Int) (x6 : Int) (k : Nat), (s.size : Int) - i = d → 0 ≤ i → d < k → ∃ r, storagebarterref04_Weight.l0 k s x5 x6 i = some r := by
  intro d
  induction d with
  | zero =>
    intro i x6 k hd h0 hk
    obtain ⟨k, rfl⟩ := nat_pred hk
    rw [storagebarterref04_Weight.l0, if_neg (by omega)]
    exact ⟨_, rfl⟩
  | succ d ih =>
    intro i x6 k hd h0 hk
    obtain ⟨k, rfl⟩ := nat_pred hk
    rw [storagebarterref04_Weight.l0, if_pos (by omega), if_pos h0, w64 (x := i + 1) (by omega)]
    exact ih (i + 1) _ k (by omega) (by omega) (by omega)

theorem Weight_ok (s : ByteArray) (hs : s.size ≤ 1000) (w : Int) (hw : 1 ≤ w ∧ w ≤ 1000) (k : Nat) (hk : s.size < k) : ∃ r, storagebarterref04_Weight.f k s w = some r := by
  unfold storagebarterref04_Weight.f
  rw [if_neg (by omega), w64 (x := (s.size : Int) - w) (by omega)]
  have h1 : 0 ≤ mx 0 ((s.size : Int) - w) ∧ mx 0 ((s.size : Int) - w) ≤ s.size := by unfold mx; split <;> omega
  exact Weight_l0 s hs _ ((s.size : Int) - mx 0 ((s.size : Int) - w)).toNat _ _ k (by omega) h1.1 (by omega)

/-- Ends that rise, from a place on, up to a size. -/
def Rise (a : Int) (m : Int) : List Int → Prop
  | [] => True
  | e :: r => a < e ∧ e ≤ m ∧ Rise e m r

theorem Rise_snoc {m : Int} : ∀ {l : List Int} {a e : Int}, Rise a m l → (l.getLast?.getD a) < e → e ≤ m → Rise a m (l ++ [e])
  | [], a, e, _, h1, h2 => ⟨by simpa using h1, h2, trivial⟩
  | b :: r, a, e, ⟨p, q, h⟩, h1, h2 => ⟨p, q, Rise_snoc h (by rw [List.getLast?_cons, Option.getD_some] at h1; exact h1) h2⟩

theorem Ends_l0 (s : ByteArray) (hs : s.size ≤ 60) (c1 c2 c3 c4 : Int) (h3 : 1 ≤ c3 ∧ c3 ≤ 1000) (h4 : 1 ≤ c4) :
    ∀ (d : Nat) (xs : List Int) (st i : Int) (k : Nat), (s.size : Int) + 1 - i = d → 1 ≤ i → Rise 0 s.size xs → st = xs.getLast?.getD 0 → 0 ≤ st → st < i → (xs.length : Int) < i → 100 + d < k →
      ∃ xs', storagebarterref04_Ends.l0 k s xs st i c1 c2 c3 c4 = some (xs', 0) ∧ Rise 0 s.size xs' ∧ xs'.length ≤ 60 := by
  intro d
  induction d with
  | zero =>
    intro xs st i k hd hi hr hst h0 hlt hl hk
    obtain ⟨k, rfl⟩ := nat_pred hk
    rw [storagebarterref04_Ends.l0, if_neg (by omega), if_neg (by omega)]
    exact ⟨_, rfl, hr, by omega⟩
  | succ d ih =>
    intro xs st i k hd hi hr hst h0 hlt hl hk
    obtain ⟨k, rfl⟩ := nat_pred hk
    have hp : ∃ xs', storagebarterref04_Ends.l0 k s (xs ++ [i]) i (i + 1) c1 c2 c3 c4 = some (xs', 0) ∧ Rise 0 s.size xs' ∧ xs'.length ≤ 60 :=
      ih (xs ++ [i]) i (i + 1) k (by omega) (by omega) (Rise_snoc hr (by rw [← hst]; exact hlt) (by omega)) (by simp) (by omega) (by omega) (by rw [List.length_append, List.length_singleton]; omega) (by omega)
    have hq : ∃ xs', storagebarterref04_Ends.l0 k s xs st (i + 1) c1 c2 c3 c4 = some (xs', 0) ∧ Rise 0 s.size xs' ∧ xs'.length ≤ 60 :=
      ih xs st (i + 1) k (by omega) (by omega) hr hst h0 (by omega) (by omega) (by omega)
    have hlen : xs.length < 17592186044416 := by omega
    have hex : ((s.extract st.toNat i.toNat).size) ≤ 60 := by rw [ByteArray.size_extract]; omega
    obtain ⟨wv, hw⟩ := Weight_ok (s.extract st.toNat i.toNat) (by omega) c3 h3 k (by omega)
    rw [storagebarterref04_Ends.l0, if_pos (by omega), w64 (x := i - st) (by omega), w64 (x := i + 1) (by omega)]
    simp only [if_pos hlen]
    split
    · exact hp
    · split
      · try rw [if_pos h0]
        rw [if_pos (by omega), hw, Option.bind_some, if_neg (by omega)]
        split
        · exact hp
        · split
          · exact hp
          · exact hq
      · split
        · exact hp
        · exact hq

theorem Cut_l0 (s : ByteArray) (xs : List Int) (hx : xs.length ≤ 60) (hs : s.size ≤ 60) : ∀ (d i : Nat) (cs : List ByteArray) (st : Int) (k : Nat), xs.length - i = d → i ≤ xs.length → 0 ≤ st → Rise st s.size (xs.drop i) → d < k → cs.length ≤ i → (∀ c ∈ cs, 1 ≤ c.size ∧ c.size ≤ 60) →
    ∃ cs', storagebarterref04_Cut.l0 k s cs st xs (xs.length : Int) (i : Int) = some (cs', 0) ∧ cs'.length ≤ 60 ∧ ∀ c ∈ cs', 1 ≤ c.size ∧ c.size ≤ 60 := by
  intro d
  induction d with
  | zero =>
    intro i cs st k hd hi h0 hr hk hc hcs
    obtain ⟨k, rfl⟩ := nat_pred hk
    rw [storagebarterref04_Cut.l0, if_neg (by omega)]
    exact ⟨_, rfl, by omega, hcs⟩
  | succ d ih =>
    intro i cs st k hd hi h0 hr hk hc hcs
    obtain ⟨k, rfl⟩ := nat_pred hk
    have hil : i < xs.length := by omega
    have e : rd xs (i : Int) = xs[i] := by simp [rd, List.getD, hil]
    rw [List.drop_eq_getElem_cons hil] at hr
    obtain ⟨p, q, hr2⟩ := hr
    rw [storagebarterref04_Cut.l0, if_pos (by omega), if_pos (by omega), if_pos (by omega), if_pos h0, e, if_pos (by omega), if_pos (by omega), if_pos (by omega), w64 (x := (i : Int) + 1) (by omega), show ((i : Int) + 1) = ((i + 1 : Nat) : Int) by omega]
    refine ih (i + 1) _ xs[i] k (by omega) (by omega) (by omega) hr2 (by omega) (by rw [List.length_append, List.length_singleton]; omega) (fun c hcm => ?_)
    rcases List.mem_append.1 hcm with h | h
    · exact hcs c h
    · rw [List.mem_singleton.1 h, ByteArray.size_extract]
      omega

theorem Chunks_ok (L : List Int) (hL : L.length ≤ 1000000) (at_ : Int) (h0 : 0 ≤ at_) (k : Nat) (hk : 300 < k) : ∃ cs at', storagebartermake_Chunks.f k L at_ = some (cs, at') ∧ 0 ≤ at' ∧ cs.length ≤ 60 ∧ ∀ c ∈ cs, 1 ≤ c.size ∧ c.size ≤ 60 := by
  unfold storagebartermake_Chunks.f
  obtain ⟨t, a1, e1, ht, h1⟩ := Text_ok L hL at_ h0 60 (by omega) k (by omega)
  rw [show ((60 : Nat) : Int) = 60 from rfl] at e1
  rw [e1, Option.bind_some]
  obtain ⟨c1, c2, c3, c4, a2, e2, h2, b1, b2, b3, b4, b5, b6, b7⟩ := Cutting_ok L hL a1 h1
  rw [e2, Option.bind_some]
  dsimp only
  have hch : storagebarterref04_Check.f c1 c2 c3 c4 = some 0 := by
    unfold storagebarterref04_Check.f
    rw [if_neg (by omega), if_neg (by omega), if_neg (by omega), if_neg (by omega), if_neg (by omega), if_neg (by omega), if_neg (by omega)]
  obtain ⟨xs, e3, hr, hxl⟩ := Ends_l0 t ht c1 c2 c3 c4 (by omega) (by omega) t.size [] 0 1 k (by omega) (by omega) trivial rfl (by omega) (by omega) (by simp) (by omega)
  have hen : storagebarterref04_Ends.f k t c1 c2 c3 c4 = some (xs, 0) := by
    unfold storagebarterref04_Ends.f
    rw [hch, Option.bind_some, if_pos rfl, if_neg (by omega)]
    exact e3
  obtain ⟨cs, e4, hc1, hc2⟩ := Cut_l0 t xs hxl ht xs.length 0 [] 0 k (by omega) (by omega) (by omega) (by rw [List.drop_zero]; exact hr) (by omega) (by simp) (fun c hc => by cases hc)
  refine ⟨cs, a2, ?_, h2, hc1, hc2⟩
  have hcu : storagebarterref04_Cut.f k t c1 c2 c3 c4 = some (cs, 0) := by
    unfold storagebarterref04_Cut.f
    rw [hen, Option.bind_some, if_pos rfl]
    exact e4
  rw [hcu]
  rfl

/-! ### Checks and sizes -/
def Proper (n : S78) : Prop := 0 ≤ n.f0 ∧ n.f0 < 2147483647 ∧ 1 ≤ n.f1 ∧ n.f1 ≤ 256

theorem proper_ok {n : S78} (h : Proper n) : manifest_proper.f n.f0 n.f1 = some true := by
  obtain ⟨h1, h2, h3, h4⟩ := h
  unfold manifest_proper.f
  rw [if_pos (by omega), if_pos (by omega), if_pos (by omega), decide_eq_true h4]

theorem rdN (l : List S78) (i : Nat) (h : i < l.length) : rd_T78 l (i : Int) = l[i] := by simp [rd_T78, List.getD, h]

theorem Check_l0 (l : List S78) (hl : l.length ≤ 256) (hp : ∀ n ∈ l, Proper n) : ∀ (d i k : Nat), l.length - i = d → i ≤ l.length → d < k → manifest_Check.l0 k l (l.length : Int) (i : Int) = some 0 := by
  intro d
  induction d with
  | zero =>
    intro i k hd hi hk
    obtain ⟨k, rfl⟩ := nat_pred hk
    rw [manifest_Check.l0, if_neg (by omega)]
  | succ d ih =>
    intro i k hd hi hk
    obtain ⟨k, rfl⟩ := nat_pred hk
    have hil : i < l.length := by omega
    rw [manifest_Check.l0, if_pos (by omega), if_pos (by omega), if_pos (by omega), rdN l i hil, proper_ok (hp _ (List.getElem_mem hil)), Option.bind_some, if_pos rfl, w64 (x := (i : Int) + 1) (by omega), show ((i : Int) + 1) = ((i + 1 : Nat) : Int) by omega]
    exact ih (i + 1) k (by omega) (by omega) (by omega)

theorem Check_ok (a : Int) (ha : 1 ≤ a ∧ a < 2147483647) (l : List S78) (hl : l.length ≤ 256) (hp : ∀ n ∈ l, Proper n) (k : Nat) (hk : 256 < k) : manifest_Check.f k a l = some 0 := by
  unfold manifest_Check.f
  rw [numbered_eq, Option.bind_some, decide_eq_true ha, if_pos rfl, if_neg (by omega)]
  exact Check_l0 l hl hp l.length 0 k (by omega) (by omega) (by omega)

def sumN (l : List S78) : Int := (l.map (·.f1)).sum

theorem sumN_bound (l : List S78) (hp : ∀ n ∈ l, Proper n) : 0 ≤ sumN l ∧ sumN l ≤ 256 * (l.length : Int) := by
  induction l with
  | nil => simp [sumN]
  | cons x l ih =>
    obtain ⟨h1, h2⟩ := ih (fun n hn => hp n (List.mem_cons_of_mem _ hn))
    obtain ⟨-, -, h3, h4⟩ := hp x List.mem_cons_self
    unfold sumN at h1 h2 ⊢
    rw [List.map_cons, List.sum_cons, List.length_cons]
    omega

theorem Size_l0 (l : List S78) (hl : l.length ≤ 256) (hp : ∀ n ∈ l, Proper n) : ∀ (d i k : Nat), l.length - i = d → i ≤ l.length → d < k → manifest_Size.l0 k (sumN (l.take i)) l (l.length : Int) (i : Int) = some (sumN l, 0) := by
  intro d
  induction d with
  | zero =>
    intro i k hd hi hk
    obtain ⟨k, rfl⟩ := nat_pred hk
    rw [manifest_Size.l0, if_neg (by omega), List.take_of_length_le (by omega)]
  | succ d ih =>
    intro i k hd hi hk
    obtain ⟨k, rfl⟩ := nat_pred hk
    have hil : i < l.length := by omega
    obtain ⟨b1, b2⟩ := sumN_bound (l.take i) (fun n hn => hp n (List.mem_of_mem_take hn))
    rw [List.length_take] at b2
    obtain ⟨-, -, h3, h4⟩ := hp _ (List.getElem_mem hil)
    have e : sumN (l.take (i + 1)) = sumN (l.take i) + l[i].f1 := by
      unfold sumN
      rw [List.take_succ_eq_append_getElem hil, List.map_append, List.sum_append]
      simp
    have h1 := ih (i + 1) k (by omega) (by omega) (by omega)
    rw [manifest_Size.l0, if_pos (by omega), if_pos (by omega), if_pos (by omega), rdN l i hil, w64 (x := sumN (l.take i) + l[i].f1) (by omega), w64 (x := (i : Int) + 1) (by omega), show ((i : Int) + 1) = ((i + 1 : Nat) : Int) by omega, ← e]
    exact h1

theorem Size_ok (a : Int) (ha : 1 ≤ a ∧ a < 2147483647) (l : List S78) (hl : l.length ≤ 256) (hp : ∀ n ∈ l, Proper n) (k : Nat) (hk : 256 < k) : manifest_Size.f k a l = some (sumN l, 0) := by
  unfold manifest_Size.f
  rw [Check_ok a ha l hl hp k hk, Option.bind_some, if_pos rfl]
  exact Size_l0 l hl hp l.length 0 k (by omega) (by omega) (by omega)

theorem nameS_eq (s : ByteArray) (hs : s.size ≤ 9223372036854775807) : nameS s = ⟨dg 1 s.data.toList, (s.size : Int)⟩ := by
  unfold nameS
  rw [nm_eq s hs]

theorem names_proper (l : List ByteArray) (h : ∀ c ∈ l, 1 ≤ c.size ∧ c.size ≤ 256) : ∀ n ∈ l.map nameS, Proper n := by
  intro n hn
  obtain ⟨s, hs, rfl⟩ := List.mem_map.1 hn
  have h1 := h s hs
  have h2 := dg_r s.data.toList
  rw [nameS_eq s (by omega)]
  exact ⟨h2.1, h2.2, by simp only; omega, by simp only; omega⟩

/-- 'Of' some chunks: a version, or a clash. -/
theorem Of_ok (a : Int) (ha : 1 ≤ a ∧ a < 2147483647) (l : List ByteArray) (hl : l.length ≤ 256) (h : ∀ c ∈ l, 1 ≤ c.size ∧ c.size ≤ 256) :
    manifest_Of.f a l = if ofGo [] l = true then some (0, [], 8) else some (a, l.map nameS, 0) := by
  unfold manifest_Of.f
  rw [if_pos ha, if_neg (by omega), if_neg]
  · unfold ofEnd
    rw [if_pos (fun s hs => named s (by have := h s hs; omega))]
  · rintro ⟨s, hs, hb⟩
    have := h s hs
    unfold badS at hb
    omega

theorem Few_eq (L : List Int) : storagebartermake_Few.f L = some (decide ((L.length : Int) ≤ 500)) := rfl

theorem Restore_ok (a : Int) (ha : 1 ≤ a ∧ a < 2147483647) (l : List S78) (hl : l.length ≤ 256) (hp : ∀ n ∈ l, Proper n) (cs : List ByteArray) (hcl : cs.length < 9223372036854775807) (hcs : ∀ s ∈ cs, s.size ≤ 9223372036854775807) :
    manifest_Restore.f a l cs = some (reGo cs (reC [] cs []) [] l) := by
  unfold manifest_Restore.f
  rw [Check_ok a ha l hl hp 1000 (by omega), Option.bind_some, if_pos rfl, if_pos]
  refine ⟨by omega, fun n hn => ?_, by unfold maxLen; omega, fun s hs => ⟨named s (hcs s hs), by rw [nm_eq s (hcs s hs)]⟩⟩
  obtain ⟨h1, h2, h3, h4⟩ := hp n hn
  exact ⟨wf64 (by omega), wf64 (by omega), by omega⟩

end Go.Proofs.Ytodhkbahjomfhaa.Gch

/- Restoring, in plain words: what the maps hold, clashes, the chapter's example. -/
namespace Go.Proofs.Ytodhkbahjomfhaa.Gcr
open Go Go.RowKit Go.Proofs.Ytodhkbahjomfhaa.Gm Go.Proofs.Ytodhkbahjomfhaa.Gdm Go.Proofs.Ytodhkbahjomfhaa.Gch Go.Proofs.Ytodhkbahjomfhaa.Q Go.Proofs.Ytodhkbahjomfhaa.Gput Go.Proofs.Ytodhkbahjomfhaa.Gputl Go.Proofs.YtodhkbahjomfhaaW.PrintWords Go.Proofs.YtodhkbahjomfhaaW.PrintLast Go.Proofs.YtodhkbahjomfhaaW.PrintMore
set_option linter.unusedVariables false

theorem toL_inj {s t : ByteArray} (h : s.toList = t.toList) : s = t := by
  rw [ByteArray.toList_eq, ByteArray.toList_eq] at h
  exact ByteArray.ext (Array.toList_inj.1 h)

theorem lookS_some {s : ByteArray} {d z : Int} (hn : nm s = (d, z)) : ∀ (q p : List ByteArray), ∃ t, lookS (p ++ s :: q) d z = some t := by
  intro q p
  unfold lookS
  cases h : (p ++ s :: q).reverse.find? (fun s => decide (nm s = (d, z))) with
  | some t => exact ⟨t, rfl⟩
  | none =>
    rw [List.find?_eq_none] at h
    exact absurd (decide_eq_true hn) (h s (by simp))

theorem lookS_mem {s : ByteArray} {d z : Int} {l : List ByteArray} (hn : nm s = (d, z)) (hs : s ∈ l) : ∃ t, lookS l d z = some t := by
  obtain ⟨p, q, rfl⟩ := List.append_of_mem hs
  exact lookS_some hn q p

theorem reC_mono : ∀ (r seen : List ByteArray) (c : List (Int × Int)) (x : Int × Int), x ∈ c → x ∈ reC seen r c
  | [], _, _, _, h => h
  | s :: r, seen, c, x, h => by
    rw [reC]
    split
    · exact reC_mono r _ _ _ h
    · split
      · exact reC_mono r _ _ _ h
      · exact reC_mono r _ _ _ (List.mem_append_left _ h)

theorem reC_first {d z : Int} : ∀ (r seen : List ByteArray) (c : List (Int × Int)), (d, z) ∉ reC seen r c → ∀ t0, lookS seen d z = some t0 → ∃ t, lookS (seen ++ r) d z = some t ∧ t = t0
  | [], seen, c, _, t0, h => ⟨t0, by rw [List.append_nil]; exact h, rfl⟩
  | s :: r, seen, c, hc, t0, h => by
    rw [reC] at hc
    have e : seen ++ s :: r = (seen ++ [s]) ++ r := by simp
    by_cases hn : nm s = (d, z)
    · rw [hn] at hc
      simp only [h] at hc
      by_cases ht : t0.toList = s.toList
      · rw [if_pos ht] at hc
        rw [e, toL_inj ht]
        exact reC_first r _ _ hc s (by rw [lookS_snoc, if_pos hn])
      · rw [if_neg ht] at hc
        exact absurd (reC_mono r _ _ _ (by simp)) hc
    · rw [e]
      have h2 : lookS (seen ++ [s]) d z = some t0 := by rw [lookS_snoc, if_neg hn]; exact h
      split at hc
      · exact reC_first r _ _ hc t0 h2
      · split at hc
        · exact reC_first r _ _ hc t0 h2
        · exact reC_first r _ _ hc t0 h2

theorem reC_all {d z : Int} : ∀ (r seen : List ByteArray) (c : List (Int × Int)), (d, z) ∉ reC seen r c → ∀ s ∈ r, nm s = (d, z) → lookS (seen ++ r) d z = some s
  | [], _, _, _, s, h, _ => by cases h
  | s0 :: r, seen, c, hc, s, hs, hn => by
    have e : seen ++ s0 :: r = (seen ++ [s0]) ++ r := by simp
    rw [reC] at hc
    have hx : ∃ c', (d, z) ∉ reC (seen ++ [s0]) r c' := by
      split at hc
      · exact ⟨_, hc⟩
      · split at hc
        · exact ⟨_, hc⟩
        · exact ⟨_, hc⟩
    obtain ⟨c', hc'⟩ := hx
    rw [e]
    rcases List.mem_cons.1 hs with rfl | hs
    · obtain ⟨t, h1, rfl⟩ := reC_first r _ _ hc' s (by rw [lookS_snoc, if_pos hn])
      exact h1
    · exact reC_all r _ _ hc' s hs hn

/-- What is put together out of chunks that are all there: the text, or a clash. -/
theorem reGo_ok (mixed : List ByteArray) : ∀ (cs : List ByteArray) (acc : List UInt8), (∀ s ∈ cs, s ∈ mixed) →
    reGo mixed (reC [] mixed []) acc (cs.map nameS) = (⟨(acc ++ cs.flatMap (fun s => s.data.toList)).toArray⟩, 0) ∨ reGo mixed (reC [] mixed []) acc (cs.map nameS) = (⟨#[]⟩, 8)
  | [], acc, _ => .inl (by simp [reGo])
  | s :: cs, acc, h => by
    have hs := h s List.mem_cons_self
    obtain ⟨t, ht⟩ := lookS_mem (s := s) (d := (nm s).1) (z := (nm s).2) rfl hs
    rw [List.map_cons, reGo]
    show (match lookS mixed (nm s).1 (nm s).2 with | none => _ | some t => _) = _ ∨ (match lookS mixed (nm s).1 (nm s).2 with | none => _ | some t => _) = _
    simp only [ht]
    by_cases hc : ((nameS s).f0, (nameS s).f1) ∈ reC [] mixed []
    · rw [if_pos hc]
      exact .inr rfl
    · rw [if_neg hc]
      have h2 := reC_all mixed [] [] hc s hs rfl
      rw [List.nil_append] at h2
      have : lookS mixed (nm s).1 (nm s).2 = some s := h2
      rw [this] at ht
      obtain rfl := Option.some.inj ht
      have h3 := reGo_ok mixed cs (acc ++ s.data.toList) (fun x hx => h x (List.mem_cons_of_mem _ hx))
      rw [List.flatMap_cons, ← List.append_assoc]
      exact h3

/-! ### The example -/
def sA : ByteArray := ⟨#[97, 98]⟩
def sC : ByteArray := ⟨#[99]⟩
theorem sA_size : sA.size = 2 := rfl
theorem sC_size : sC.size = 1 := rfl
theorem nA : nm sA = (dg 1 [97, 98], 2) := nm_eq sA (by rw [sA_size]; omega)
theorem nC : nm sC = (dg 1 [99], 1) := nm_eq sC (by rw [sC_size]; omega)
theorem nAC : nm sA ≠ nm sC := by rw [nA, nC]; intro h; exact absurd (Prod.mk.inj h).2 (by omega)

theorem putI_1 : putI 1 = [2] := by
  unfold putI
  rw [show zig 1 = 2 by decide, grp_last (by omega)]
  rfl
theorem putI_0 : putI 0 = [0] := by
  unfold putI
  rw [show zig 0 = 0 by decide, grp_last (by omega)]
  rfl

theorem encode_one (k : Nat) (hk : 300 < k) : manifest_Encode.f k 1 [] = some (B [2, 0], 0) := by
  unfold manifest_Encode.f
  rw [Check_ok 1 (by omega) [] (by simp) (by simp) k (by omega), Option.bind_some, if_pos rfl]
  obtain ⟨k, rfl⟩ := nat_pred hk
  rw [manifest_Encode.l0, if_neg (by simp), show (⟨#[]⟩ : ByteArray) = B [] from rfl, wire_PutInt_eq [] 1 (by simp) (by omega), Option.bind_some]
  unfold wire_PutList.f
  rw [if_pos ⟨by rw [B_size, putI_1]; simp, by simp⟩, Option.bind_some, putI_1]
  unfold putL
  simp only [List.length_nil, Int.natCast_zero, putI_0]
  rfl

theorem sane_ok (k : Nat) (hk : 300 < k) : storagebarterlaw08_sane.f k = some true := by
  have hb : ∀ c ∈ [sA, sC, sA], 1 ≤ c.size ∧ c.size ≤ 256 := by
    intro c hc
    simp only [List.mem_cons, List.not_mem_nil, or_false] at hc
    rcases hc with rfl | rfl | rfl
    · rw [sA_size]; omega
    · rw [sC_size]; omega
    · rw [sA_size]; omega
  have hg : ofGo [] [sA, sC, sA] = false := by
    rw [ofGo, lookS_nil]
    simp only
    rw [ofGo, lookS_snoc, if_neg (by exact nAC), lookS_nil]
    simp only
    rw [ofGo, lookS_snoc, if_neg (fun h => nAC h.symm), lookS_snoc, if_pos rfl]
    simp only [if_true]
    rw [ofGo]
  have h1 := Of_ok 1 (by omega) [] (by simp) (by simp)
  rw [ofGo, if_neg (by simp)] at h1
  have h2 := Of_ok 2 (by omega) [sA, sC, sA] (by simp) hb
  rw [hg, if_neg (by simp)] at h2
  have hp : ∀ n ∈ ([sA, sC, sA] : List ByteArray).map nameS, Proper n := names_proper _ hb
  have hc : reC [] [sC, sA] [] = [] := by
    rw [reC, lookS_nil]
    simp only
    rw [reC, lookS_snoc, if_neg (fun h => nAC h.symm), lookS_nil]
    simp only
    rw [reC]
  have lA : lookS [sC, sA] (nm sA).1 (nm sA).2 = some sA := by
    rw [show [sC, sA] = [sC] ++ [sA] from rfl, lookS_snoc, if_pos rfl]
  have lC : lookS [sC, sA] (nm sC).1 (nm sC).2 = some sC := by
    rw [show [sC, sA] = [sC] ++ [sA] from rfl, lookS_snoc, if_neg (by exact nAC), show [sC] = [] ++ [sC] from rfl, lookS_snoc, if_pos rfl]
  have h3 := Restore_ok 2 (by omega) (([sA, sC, sA] : List ByteArray).map nameS) (by simp) hp [sC, sA] (by simp) (by
    intro s hs
    simp only [List.mem_cons, List.not_mem_nil, or_false] at hs
    rcases hs with rfl | rfl
    · rw [sC_size]; omega
    · rw [sA_size]; omega)
  have h4 : reGo [sC, sA] [] [] (([sA, sC, sA] : List ByteArray).map nameS) = (B [97, 98, 99, 97, 98], 0) := by
    simp only [List.map_cons, List.map_nil, nameS]
    rw [reGo]
    simp only [lA, List.not_mem_nil, if_false]
    rw [reGo]
    simp only [lC, List.not_mem_nil, if_false]
    rw [reGo]
    simp only [lA, List.not_mem_nil, if_false]
    rw [reGo]
    rfl
  rw [hc, h4] at h3
  have h5 := Size_ok 2 (by omega) (([sA, sC, sA] : List ByteArray).map nameS) (by simp) hp k (by omega)
  have h6 : sumN (([sA, sC, sA] : List ByteArray).map nameS) = 5 := by
    unfold sumN
    simp only [List.map_cons, List.map_nil, nameS, nA, nC, List.sum_cons, List.sum_nil]
    omega
  rw [h6] at h5
  unfold storagebarterlaw08_sane.f
  rw [h1, Option.bind_some]
  dsimp only
  rw [List.map_nil, encode_one k hk, Option.bind_some]
  show (manifest_Of.f 2 [sA, sC, sA]).bind _ = _
  rw [h2, Option.bind_some]
  dsimp only
  show (manifest_Restore.f 2 _ [sC, sA]).bind _ = _
  rw [h3, Option.bind_some, h5, Option.bind_some]
  dsimp only
  rw [if_pos rfl, if_pos rfl, if_pos rfl, if_pos rfl, if_pos rfl, if_pos (by rw [B_toList]), if_pos (by rw [B_toList])]
  rfl

end Go.Proofs.Ytodhkbahjomfhaa.Gcr

/- A version leads back to its text from its chunks in any order, among others, unless one of these clashes with them: for all choices and texts. -/
namespace Go.Proofs.Ytodhkbahjomfhaa.Pure
open Go Go.RowKit Go.Proofs.Ytodhkbahjomfhaa.Gm Go.Proofs.Ytodhkbahjomfhaa.Gdm Go.Proofs.Ytodhkbahjomfhaa.Gch Go.Proofs.Ytodhkbahjomfhaa.Gcr Go.Proofs.Ytodhkbahjomfhaa.Q Go.Proofs.YtodhkbahjomfhaaW.PrintWords Go.Proofs.YtodhkbahjomfhaaW.PrintLast Go.Proofs.YtodhkbahjomfhaaW.PrintMore
set_option linter.unusedVariables false

theorem rdS (l : List ByteArray) (i : Nat) (h : i < l.length) : rdOf ByteArray.empty l (i : Int) = l[i] := by simp [rdOf, List.getD, h]

theorem small_l0 (l : List ByteArray) (hl : l.length ≤ 9000000000000) : ∀ (d i : Nat) (x : Int) (k : Nat), l.length - i = d → i ≤ l.length → d < k → ∃ b, storagebarterlaw08_small.l0 k x l (l.length : Int) (i : Int) = some b := by
  intro d
  induction d with
  | zero =>
    intro i x k hd hi hk
    obtain ⟨k, rfl⟩ := nat_pred hk
    rw [storagebarterlaw08_small.l0, if_neg (by omega)]
    exact ⟨_, rfl⟩
  | succ d ih =>
    intro i x k hd hi hk
    obtain ⟨k, rfl⟩ := nat_pred hk
    rw [storagebarterlaw08_small.l0, if_pos (by omega), if_pos (by omega), if_pos (by omega), w64 (x := (i : Int) + 1) (by omega), show ((i : Int) + 1) = ((i + 1 : Nat) : Int) by omega]
    exact ih (i + 1) _ k (by omega) (by omega) (by omega)

theorem joined_size : ∀ (l : List ByteArray) (h : ∀ c ∈ l, 1 ≤ c.size ∧ c.size ≤ 60), (l.flatMap (fun s => s.data.toList)).length ≤ 60 * l.length
  | [], _ => by simp
  | s :: l, h => by
    have h1 := joined_size l (fun c hc => h c (List.mem_cons_of_mem _ hc))
    have h2 := h s List.mem_cons_self
    have h3 := data_length s
    rw [List.flatMap_cons, List.length_append, List.length_cons]
    omega

theorem sumN_names : ∀ (l : List ByteArray) (h : ∀ c ∈ l, 1 ≤ c.size ∧ c.size ≤ 60), sumN (l.map nameS) = ((l.flatMap (fun s => s.data.toList)).length : Int)
  | [], _ => rfl
  | s :: l, h => by
    have h1 := sumN_names l (fun c hc => h c (List.mem_cons_of_mem _ hc))
    have h2 := h s List.mem_cons_self
    have h3 := data_length s
    unfold sumN at h1 ⊢
    rw [List.map_cons, List.map_cons, List.sum_cons, h1, List.flatMap_cons, List.length_append, nameS_eq s (by omega)]
    simp only
    omega

/-- The index of a chunk that is mixed in. -/
theorem turn_hits (n a j : Nat) (hj : j < n) : ∃ i, i < n ∧ (a + i) % n = j := by
  refine ⟨(j + (n - a % n)) % n, Nat.mod_lt _ (by omega), ?_⟩
  rw [Nat.add_mod, Nat.mod_mod, ← Nat.add_mod]
  have h1 := Nat.mod_add_div a n
  have h2 := Nat.mod_lt a (show 0 < n by omega)
  have e : a + (j + (n - a % n)) = j + n * (a / n + 1) := by
    rw [Nat.mul_add, Nat.mul_one]
    omega
  rw [e, Nat.add_mul_mod_self_left, Nat.mod_eq_of_lt hj]

theorem ManifestRestores (l0 : List Int) (l1 : List ByteArray) (a2 : Int) (h0 : l0.length * 8 ≤ 140737488351232) (h1 : l1.length * 16 ≤ 140737488351232) (hs : ∀ s ∈ l1, s.size ≤ maxLen) (h2 : (Lit.int .u8 a2).wf = true) :
    ∃ k, storagebarterlaw08_ManifestRestores.f k l0 l1 a2 = some true := by
  have ha : 0 ≤ a2 ∧ a2 ≤ 255 := bounds_u8 h2
  refine ⟨l1.length + 2000, ?_⟩
  obtain ⟨k, hk⟩ : ∃ k, k = l1.length + 2000 := ⟨_, rfl⟩
  rw [← hk]
  unfold storagebarterlaw08_ManifestRestores.f
  rw [sane_ok k (by omega), Option.bind_some, if_pos rfl, Few_eq, Option.bind_some]
  have hskip : storagebarterlaw08_ManifestRestores.j0 k l0 l1 a2 true = some true := by

    obtain ⟨k', rfl⟩ : ∃ m, k = m + 1 := ⟨k - 1, by omega⟩
    rw [storagebarterlaw08_ManifestRestores.j0, if_pos rfl]
  by_cases hf : (l0.length : Int) ≤ 500
  case neg => rw [decide_eq_false hf, if_neg (by simp)]; exact hskip
  case pos =>
  rw [decide_eq_true hf, if_pos rfl]
  obtain ⟨b, hb⟩ := small_l0 l1 (by omega) l1.length 0 0 k (by omega) (by omega) (by omega)
  have hb' : storagebarterlaw08_small.f k l1 = some b := hb
  rw [hb', Option.bind_some]
  cases b
  case false => exact hskip
  case true =>
  obtain ⟨k, rfl⟩ : ∃ m, k = m + 1 := ⟨k - 1, by omega⟩
  rw [Bool.not_true, storagebarterlaw08_ManifestRestores.j0, if_neg (by simp), show storagebartermake_New.f l0 = some (l0, 0) from rfl, Option.bind_some]
  dsimp only
  obtain ⟨cs, at1, e1, p1, hcl, hcs⟩ := Chunks_ok l0 (by omega) 0 (by omega) k (by omega)
  rw [e1, Option.bind_some]
  dsimp only
  obtain ⟨t, at2, e2, p2, q2, -⟩ := next_ok l0 at1 9 (by omega) (by omega) p1 (by omega)
  rw [e2, Option.bind_some]
  dsimp only
  have hof := Of_ok (1 + t) (by omega) cs (by omega) (fun c hc => by have := hcs c hc; omega)
  rw [w64 (x := 1 + t) (by omega), hof]
  by_cases hg : ofGo [] cs = true
  case pos =>
    rw [if_pos hg, Option.bind_some, if_neg (by simp)]
    rfl
  case neg =>
  rw [if_neg hg, Option.bind_some]
  dsimp only
  rw [if_pos rfl]
  have hpr : ∀ n ∈ cs.map nameS, Proper n := names_proper cs (fun c hc => by have := hcs c hc; omega)
  have hmem : ∀ s ∈ cs, s.size ≤ 9223372036854775807 := fun s h => by have := hcs s h; omega
  -- the end
  have fin : ∀ (k : Nat) (mixed : List ByteArray), 1000 ≤ k → mixed.length < 9223372036854775807 → (∀ s ∈ mixed, s.size ≤ 9223372036854775807) → (∀ s ∈ cs, s ∈ mixed) →
      storagebarterlaw08_ManifestRestores.j3 k cs (B (cs.flatMap (fun s => s.data.toList))) mixed (1 + t) (cs.map nameS) = some true := by
    intro k mixed hk hm1 hm2 hm3
    obtain ⟨k, rfl⟩ : ∃ m, k = m + 1 := ⟨k - 1, by omega⟩
    have hz := Size_ok (1 + t) (by omega) (cs.map nameS) (by rw [List.length_map]; omega) hpr k (by omega)
    rw [sumN_names cs hcs] at hz
    rw [storagebarterlaw08_ManifestRestores.j3, Restore_ok (1 + t) (by omega) (cs.map nameS) (by rw [List.length_map]; omega) hpr mixed hm1 hm2, Option.bind_some]
    rcases reGo_ok mixed cs [] hm3 with h | h
    · rw [h]
      dsimp only
      rw [if_pos rfl, hz, Option.bind_some]
      dsimp only
      rw [if_pos rfl, if_pos (by rw [B_size]), List.nil_append]
      show some ((B _).toList == (B _).toList) = some true
      rw [beq_self_eq_true]
    · rw [h]
      dsimp only
      rw [if_neg (by omega), if_pos rfl, hz, Option.bind_some]
      dsimp only
      rw [if_pos rfl, if_pos (by rw [B_size])]
  -- the chunks mixed in
  have mix : ∀ (d i : Nat) (mixed : List ByteArray) (k : Nat), cs.length - i = d → i ≤ cs.length → mixed.length = l1.length + i → 1100 + d ≤ k → (∀ s ∈ mixed, s.size ≤ 9223372036854775807) →
      (∀ j, j < i → ∀ (h : (l1.length + a2.toNat + j) % cs.length < cs.length), cs[(l1.length + a2.toNat + j) % cs.length] ∈ mixed) →
      storagebarterlaw08_ManifestRestores.l1 k l1 a2 cs (B (cs.flatMap (fun s => s.data.toList))) mixed (1 + t) (cs.map nameS) = some true := by
    intro d
    induction d with
    | zero =>
      intro i mixed k hd hi hm hk hm2 hm3
      obtain ⟨k, rfl⟩ : ∃ m, k = m + 1 := ⟨k - 1, by omega⟩
      have hall : ∀ s ∈ cs, s ∈ mixed := by
        intro s hs
        obtain ⟨j, hj, rfl⟩ := List.getElem_of_mem hs
        obtain ⟨i', hi', e⟩ := turn_hits cs.length (l1.length + a2.toNat) j hj
        have h := hm3 i' (by omega) (by rw [e]; exact hj)
        simp only [e] at h
        exact h
      rw [storagebarterlaw08_ManifestRestores.l1]
      split
      · rw [w64 (x := (l1.length : Int) + (cs.length : Int)) (by omega), if_neg (by omega)]
        exact fin k mixed (by omega) (by omega) hm2 hall
      · exact fin k mixed (by omega) (by omega) hm2 hall
    | succ d ih =>
      intro i mixed k hd hi hm hk hm2 hm3
      obtain ⟨k, rfl⟩ : ∃ m, k = m + 1 := ⟨k - 1, by omega⟩
      have hpos : 0 < cs.length := by omega
      have hmod : (l1.length + a2.toNat + i) % cs.length < cs.length := Nat.mod_lt _ hpos
      have hidx : Int.tmod ((mixed.length : Int) + a2) (cs.length : Int) = (((l1.length + a2.toNat + i) % cs.length : Nat) : Int) := by
        rw [Int.tmod_eq_emod_of_nonneg (by omega), Int.natCast_emod]
        congr 1
        omega
      rw [storagebarterlaw08_ManifestRestores.l1, if_pos (by omega), w64 (x := (l1.length : Int) + (cs.length : Int)) (by omega), if_pos (by omega), if_neg (by omega), w64 (x := a2) (by omega), w64 (x := (mixed.length : Int) + a2) (by omega), hidx, if_pos (by omega), if_pos (by omega), if_pos (by omega), rdS cs _ hmod]
      refine ih (i + 1) _ k (by omega) (by omega) (by rw [List.length_append, List.length_singleton]; omega) (by omega) ?_ ?_
      · intro s hs
        rcases List.mem_append.1 hs with h | h
        · exact hm2 s h
        · rw [List.mem_singleton.1 h]
          exact hmem _ (List.getElem_mem hmod)
      · intro j hj h
        by_cases e : j = i
        · subst e
          exact List.mem_append_right _ (List.mem_singleton.2 rfl)
        · exact List.mem_append_left _ (hm3 j (by omega) h)
  -- the text
  have txt : ∀ (d i : Nat) (k : Nat), cs.length - i = d → i ≤ cs.length → 1200 + d ≤ k →
      storagebarterlaw08_ManifestRestores.l0 k l1 a2 cs (B ((cs.take i).flatMap (fun s => s.data.toList))) cs (cs.length : Int) (i : Int) (1 + t) (cs.map nameS) = some true := by
    intro d
    induction d with
    | zero =>
      intro i k hd hi hk
      obtain ⟨k, rfl⟩ : ∃ m, k = m + 1 := ⟨k - 1, by omega⟩
      rw [storagebarterlaw08_ManifestRestores.l0, if_neg (by omega), List.take_of_length_le (by omega), if_pos (by rw [List.length_nil]; omega), List.nil_append]
      exact mix cs.length 0 l1 k (by omega) (by omega) (by omega) (by omega) (fun s h => by have := hs s h; unfold maxLen at this; omega) (fun j hj => by omega)
    | succ d ih =>
      intro i k hd hi hk
      obtain ⟨k, rfl⟩ : ∃ m, k = m + 1 := ⟨k - 1, by omega⟩
      have hil : i < cs.length := by omega
      have h3 := joined_size (cs.take i) (fun c hc => hcs c (List.mem_of_mem_take hc))
      rw [List.length_take] at h3
      have h4 := hcs _ (List.getElem_mem hil)
      rw [storagebarterlaw08_ManifestRestores.l0, if_pos (by omega), if_pos (by omega), if_pos (by omega), rdS cs i hil, if_pos (by rw [B_size]; omega), w64 (x := (i : Int) + 1) (by omega), show ((i : Int) + 1) = ((i + 1 : Nat) : Int) by omega]
      have h5 := ih (i + 1) k (by omega) (by omega) (by omega)
      rw [List.take_succ_eq_append_getElem hil, List.flatMap_append] at h5
      have e : B ((cs.take i).flatMap (fun s => s.data.toList)) ++ cs[i] = B ((cs.take i).flatMap (fun s => s.data.toList) ++ [cs[i]].flatMap (fun s => s.data.toList)) := by
        apply ByteArray.ext
        apply Array.toList_inj.1
        rw [ByteArray.data_append, Array.toList_append, B_data, B_data]
        simp
      rw [e]
      exact h5
  have := txt cs.length 0 k (by omega) (by omega) (by omega)
  rw [List.take_zero, List.flatMap_nil] at this
  exact this

end Go.Proofs.Ytodhkbahjomfhaa.Pure

/- The row of 'ManifestRestores'. -/
namespace Go.Proofs.Ytodhkbahjomfhaa.manifestRestores
open Go.ChangeShapes Go.WideShapes Go.ChangeAt Go.RowKit
open Go.ChangeMaps (open_string shut_string)
set_option linter.unusedVariables false
theorem own : ownKnob Try.prog.godebug = none := by kernel_rfl
theorem laidOut : laidOutB Try.prog = true := by kernel_rfl
def IsRow (k : IntKind) (w : World) (a : Option Addr) (len cap : Nat) (zs : List Int) : Prop :=
  (a = none ∧ len = 0 ∧ cap = 0 ∧ zs = []) ∨
  ∃ x, a = some x ∧ len ≤ cap ∧ cap ≤ maxLen ∧ zs.length = cap ∧ (∀ i, i < zs.length → w.cell? (x.add i) = some (.int k (zs.getD i 0))) ∧ ∀ n ∈ zs, (Lit.int k n).wf = true
theorem C_strs {H : Type} {enc : TypeId × Value → H} {W : World} {fuel : Nat} {a1 : Option Addr} {len cap : Nat} {x : DataW H × List MemPlace} (hf : DataW.trod enc Try.prog W 0 (fun _ => true) true fuel 23 [.slice a1 len cap] = some x) :
    ∃ xs : List ByteArray, xs.length = len ∧ Go.Proofs.YtodhkbahjomfhaaW.PrintWords.Kd.C Go.Proofs.YtodhkbahjomfhaaW.PrintWords.Kd.string W a1 xs.length xs ∧ xs.length ≤ cap ∧ ∀ s ∈ xs, s.size ≤ maxLen := by
  rcases open_strings Try.underlying23 Try.underlying9 (by kernel_rfl) hf with ⟨hcs, -⟩ | ⟨a, l, c, ss, hcs, hb, hl, hm, hz, hx, hcell, hs⟩
  · simp at hcs
    obtain ⟨rfl, rfl, rfl⟩ := hcs
    exact ⟨[], rfl, Go.Proofs.YtodhkbahjomfhaaW.PrintWords.Kd.C_nil _ _, Nat.le_refl _, fun p hp => by cases hp⟩
  · simp at hcs
    obtain ⟨rfl, rfl, rfl⟩ := hcs
    simp only [if_true] at hz
    have hll : (ss.take len).length = len := by rw [List.length_take]; omega
    refine ⟨ss.take len, hll, ⟨rfl, by rw [hll]; unfold maxLen at hm; omega, fun _ => ⟨a, rfl, fun j p hj => ?_⟩⟩, by omega, fun p hp => hs p (List.mem_of_mem_take hp)⟩
    have hjl : j < len := by
      have := (List.getElem?_eq_some_iff.1 hj).1
      omega
    rw [List.getElem?_take, if_pos hjl] at hj
    obtain ⟨hj1, hj2⟩ := List.getElem?_eq_some_iff.1 hj
    refine ⟨[.string p], rfl, rfl, fun i u hu => ?_⟩
    match i, hu with
    | 0, hu =>
      simp at hu
      subst hu
      have h1 := hcell j hj1
      rw [List.getD_eq_getElem?_getD, List.getElem?_eq_getElem hj1, Option.getD_some, hj2] at h1
      simpa [Go.Proofs.YtodhkbahjomfhaaW.PrintWords.Kd.string, Go.Proofs.YtodhkbahjomfhaaW.PrintWords.Kd.scalar] using h1
theorem sized_strs {H : Type} {enc : TypeId × Value → H} {W : World} {base : Nat} {spare : Nat → Bool} {held : Bool} {a : Option Addr} {len cap : Nat} {d : DataW H} {ps : List MemPlace} {ts : List TypeId} {ds : List (DataW H)} {j : Nat}
    (hsz : (DataW.weightsEach Try.prog ts ds).all (· ≤ reachBytes) = true) (ht : ts[j]? = some 23) (hd : ds[j]? = some d) (h : DataW.Trod enc Try.prog W base spare held 23 (.slice a len cap) d ps) : len * 16 ≤ 140737488351232 := by
  obtain ⟨fuel, hf⟩ := h
  rcases open_strings Try.underlying23 Try.underlying9 (by kernel_rfl) hf with ⟨hcs, _⟩ | ⟨x, l, c, ss, hcs, _, hl, _, hz, hx, _, _⟩
  · simp [Value.cells] at hcs
    obtain ⟨rfl, rfl, rfl⟩ := hcs
    simp
  · simp [Value.cells] at hcs
    obtain ⟨rfl, rfl, rfl⟩ := hcs
    obtain ⟨hx, _⟩ := Prod.mk.inj hx
    subst hx
    have z := sized_slice hsz ht hd Try.underlying23
    rw [show Try.prog.bytesOf 9 = 16 by kernel_rfl] at z
    have hl2 : len ≤ ss.length := by
      rw [hz]
      split
      · exact hl
      · exact Nat.le_refl _
    have h1 : (strs (H := H) (ss.take len)).length + (strs (H := H) (ss.drop len)).length = ss.length := by
      simp [strs]
      omega
    rw [h1] at z
    exact Nat.le_trans (Nat.mul_le_mul_right _ hl2) z
set_option maxRecDepth 100000 in
theorem lifted (os : Os) (started : os.Started) (H : Type) (enc : TypeId × Value → H) :
    ReturnsInHanded {} Try.checked os 3 .any (Rows.manifestRestoresSpec.pre6 enc Try.prog Try.f3 Rows.manifestRestoresRow.domain false) (Rows.manifestRestoresSpec.post enc Try.prog Try.f3 false true false false) := by
  refine returnsInHanded_of_change_sized (C := Try.checked) own started (by kernel_rfl) Try.func3
    (ChangeSpec.witness6 (enc := enc) (C := Try.checked) false ⟨#[], #[.slice none 0 0, .slice none 0 0, .int .u8 0], []⟩ 8 (by kernel_rfl) (by kernel_rfl) (by kernel_rfl) (by kernel_rfl)) ?_
  intro W base args ds gs before hval0 hW hcnd hsz0 _
  have hsz : (DataW.weightsEach Try.prog (Try.f3.params.toList ++ Rows.manifestRestoresSpec.plain.varTypes Try.prog) (ds ++ gs)).all (· ≤ reachBytes) = true := hsz0
  have hval : ∀ (j : Nat) t v, Try.f3.params[j]? = some t → args[j]? = some v → Value.okWide Try.prog W .any base t v := hval0
  have hW' := hW
  obtain ⟨p, q, hA0, hV, rfl, hfz, hnd⟩ := hW
  have hA : DataW.TrodAll enc Try.prog W 0 (fun _ => true) true Try.f3.params.toList args.toList ds p := hA0
  rw [Try.params3] at hA hval hsz
  obtain ⟨v0, vs0, d0, ds0, p0, q0, hargs, rfl, rfl, h0, r0⟩ := trodAll_cons hA
  obtain ⟨v1, vs1, d1, ds1, p1, q1, rfl, rfl, rfl, h1, r1⟩ := trodAll_cons r0
  obtain ⟨v2, vs2, d2, ds2, p2, q2, rfl, rfl, rfl, h2, r2⟩ := trodAll_cons r1
  obtain ⟨rfl, rfl, rfl⟩ := trodAll_nil r2
  obtain rfl : args = #[v0, v1, v2] := by cases args; simp_all
  obtain ⟨rfl, rfl⟩ := trodVars_none hV
  obtain ⟨A0, len0, cap0, rfl⟩ := okWide_slice Try.underlying22 (hval 0 22 v0 rfl rfl)
  have k0 := h0
  have lt0 : ∀ x ∈ p0, x.block < W.heap.size := by obtain ⟨m, hm⟩ := k0; exact DataW.trod_lt m _ _ _ hm
  have y0 : len0 * 8 ≤ 140737488351232 := Go.Proofs.YtodhkbahjomfhaaW.PrintWords.sized_ints hsz (j := 0) (t := 22) rfl rfl Try.underlying22 Try.underlying3 (by kernel_rfl) (by kernel_rfl) h0
  obtain ⟨z0, w0⟩ : ∃ zs, IsRow .i64 W A0 len0 cap0 zs := by
    obtain ⟨fuel, hf⟩ := h0
    rcases open_ints Try.underlying22 Try.underlying3 (by kernel_rfl) hf with ⟨hcs, _⟩ | ⟨x, l, c, zs, hcs, _, hl, hm, hz, _, hcell, hwz⟩
    · simp [Value.cells] at hcs
      obtain ⟨rfl, rfl, rfl⟩ := hcs
      exact ⟨[], .inl ⟨rfl, rfl, rfl, rfl⟩⟩
    · simp [Value.cells] at hcs
      obtain ⟨rfl, rfl, rfl⟩ := hcs
      exact ⟨zs, .inr ⟨_, rfl, hl, hm, by simpa using hz, hcell, hwz⟩⟩
  obtain ⟨A1, len1, cap1, rfl⟩ := okWide_slice Try.underlying23 (hval 1 23 v1 rfl rfl)
  have k1 := h1
  have lt1 : ∀ x ∈ p1, x.block < W.heap.size := by obtain ⟨m, hm⟩ := k1; exact DataW.trod_lt m _ _ _ hm
  have y1 : len1 * 16 ≤ 140737488351232 := sized_strs hsz (j := 1) rfl rfl h1
  obtain ⟨l1, hz1, w1, hc1, hw1⟩ : ∃ xs : List ByteArray, xs.length = len1 ∧ Go.Proofs.YtodhkbahjomfhaaW.PrintWords.Kd.C Go.Proofs.YtodhkbahjomfhaaW.PrintWords.Kd.string W A1 xs.length xs ∧ xs.length ≤ cap1 ∧ ∀ s ∈ xs, s.size ≤ maxLen := by
    obtain ⟨fuel, hf⟩ := h1
    exact C_strs (by simpa [Value.cells] using hf)
  obtain ⟨a2, rfl, rfl, rfl, w2⟩ := open_int Try.underlying5 (hval 2 5 v2 rfl rfl) h2
  clear hA0 hval0 hsz0 hsz
  obtain ⟨l0, rfl, hr0, hm0, hw0, hc0⟩ := Go.Proofs.YtodhkbahjomfhaaW.PrintWords.ReadsInt.ofRowC w0
  subst hz1
  obtain ⟨k, hk⟩ := Pure.ManifestRestores l0 l1 a2 y0 y1 hw1 w2
  refine (Q.storagebarterlaw08_ManifestRestores.calls k A0 cap0 l0 A1 cap1 l1 a2 true W (Go.Proofs.YtodhkbahjomfhaaW.PrintWords.Kd.C_of_reads (d := (0 : Int)) (h1 := fun _ => rfl) hr0) hc0 w1 hc1 hk rfl).mono fun e W' ⟨he, bel⟩ => ?_
  subst he
  exact ⟨_, rfl, _, _, _, [], _, [], hW', trodAll_mk1 (shut_bool Try.underlying4 _), (trodAll_cons_mk (Below.trod laidOut (by kernel_rfl) (of_decide_eq_true (by kernel_rfl)) k0 bel lt0) (trodAll_cons_mk (Below.trod laidOut (by kernel_rfl) (of_decide_eq_true (by kernel_rfl)) k1 bel lt1) (trodAll_cons_mk (shut_int Try.underlying5 w2) trodAll_mk0))), rfl, bel.frame _, fun h => by cases h⟩
theorem over : Rows.manifestRestoresRow.holds Try.pinned (OpenSpec.ofChange Rows.manifestRestoresSpec) :=
  OpenClaim.holds_of_wide 3 Try.f3 rfl rfl rfl rfl rfl rfl rfl ⟨rfl, rfl, rfl, rfl, rfl⟩ rfl rfl rfl rfl rfl (by kernel_rfl) Try.func3 (by kernel_rfl)
    (of_decide_eq_true (by kernel_rfl)) (by unfold Func.isWrapper; first | (rw [if_pos (by decide +kernel)]; kernel_rfl) | (rw [if_neg (by decide +kernel)]; exact ⟨rfl, rfl⟩))
    (fun os started H enc _ => lifted os started H enc)
theorem proved : Rows.ManifestRestoresSaid := over
#print axioms proved
end Go.Proofs.Ytodhkbahjomfhaa.manifestRestores
namespace Go.Proofs.Ytodhkbahjomfhaa
/-- The row, under a short name, for the claim. -/
theorem manifestRestores_holds : Rows.ManifestRestoresSaid := manifestRestores.proved
end Go.Proofs.Ytodhkbahjomfhaa
