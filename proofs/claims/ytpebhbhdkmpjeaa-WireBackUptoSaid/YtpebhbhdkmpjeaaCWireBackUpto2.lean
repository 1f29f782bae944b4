/- What was put is read back, whatever stands before and behind it: for all texts, numbers and lists that are together of at most 1048576 values and letters. -/
import Derived.Test.YtpebhbhdkmpjeaaCWireBackUpto1
import Derived.Test.YtpebhbhdkmpjeaaRows
import Derived.WalkKit
import Derived.Deep.CondSized
import Derived.JoinedCond
import Derived.Test.YtpebhbhdkmpjeaaWWords
import Derived.ProofKit
import Derived.OpenShut
import Derived.ShutString
import Derived.ChangeOld
import Derived.Below
import Derived.SizedLaws
import Derived.Test.YtpebhbhdkmpjeaaWSized
namespace Go.Proofs.Ytpebhbhdkmpjeaa.Q
open Go.RowKit Go.Proofs.YtpebhbhdkmpjeaaW.PrintWords Go.Proofs.YtpebhbhdkmpjeaaW.PrintLast Go.Proofs.YtpebhbhdkmpjeaaW.PrintMore Go.Proofs.Ytpebhbhdkmpjeaa.Gput Go.Proofs.Ytpebhbhdkmpjeaa.Gputl
attribute [local go_sem] max2_int min2_int max_two min_two max_three min_three max_four min_four   -- for this text's walks alone
set_option linter.unusedVariables false
set_option linter.unusedSimpArgs false

/-! ### storagebarterref01_PutList: function 34 -/
def storagebarterref01_PutList.l0 : Nat → ByteArray → List Int → Int → Int → Option (ByteArray)
  | 0, _, _, _, _ => none
  | k + 1, x0, x11, x12, x13 => if x13 < x12 then (if 0 ≤ x13 then (if x13 < (x11.length : Int) then ((storagebarterref01_PutInt.f k x0 (rd x11 x13)).bind fun t222 => (storagebarterref01_PutList.l0 k t222 x11 x12 (wrap64 (x13 + 1)))) else (none)) else (none)) else (some x0)
def storagebarterref01_PutList.f (k : Nat) (a0 : ByteArray) (l1 : List Int) : Option (ByteArray) := (storagebarterref01_PutInt.f k a0 (l1.length : Int)).bind fun t220 => (storagebarterref01_PutList.l0 k t220 l1 (l1.length : Int) 0)
theorem storagebarterref01_PutList.mono_l : ∀ k, (∀ y0 y1 y2 y3, LeO (storagebarterref01_PutList.l0 k y0 y1 y2 y3) (storagebarterref01_PutList.l0 (k + 1) y0 y1 y2 y3))
  | 0 => fun _ _ _ _ r h => by simp [storagebarterref01_PutList.l0] at h
  | k + 1 => by
    have ih0 := storagebarterref01_PutList.mono_l k
    · intro y0 y1 y2 y3
      unfold storagebarterref01_PutList.l0
      repeat' first
      | (with_reducible exact ih0 _ _ _ _)
      | (with_reducible exact storagebarterref01_PutInt.mono _ _ _)
      | (with_reducible exact LeO.refl _)
      | (with_reducible exact LeO.none _)
      | (with_reducible refine LeO.ite ?_ ?_)
      | (with_reducible refine LeO.bind ?_ (fun _ => ?_))
      | exact ih0 _ _ _ _
      | exact storagebarterref01_PutInt.mono _ _ _
      | exact LeO.none _
      | refine LeO.ite ?_ ?_
      | refine LeO.bind ?_ (fun _ => ?_)
theorem storagebarterref01_PutList.mono : ∀ a0 a1 k, LeO (storagebarterref01_PutList.f k a0 a1) (storagebarterref01_PutList.f (k + 1) a0 a1) := by
  intro a0 a1 k
  have ih0 := storagebarterref01_PutList.mono_l k
  unfold storagebarterref01_PutList.f
  repeat' first
      | (with_reducible exact ih0 _ _ _ _)
      | (with_reducible exact storagebarterref01_PutInt.mono _ _ _)
      | (with_reducible exact LeO.refl _)
      | (with_reducible exact LeO.none _)
      | (with_reducible refine LeO.ite ?_ ?_)
      | (with_reducible refine LeO.bind ?_ (fun _ => ?_))
      | exact ih0 _ _ _ _
      | exact storagebarterref01_PutInt.mono _ _ _
      | exact LeO.none _
      | refine LeO.ite ?_ ?_
      | refine LeO.bind ?_ (fun _ => ?_)
set_option maxHeartbeats 8000000 in
set_option maxRecDepth 100000 in
theorem storagebarterref01_PutList.calls (k : Nat) (a0 : ByteArray) (A1 : Option Addr) (c1 : Nat) (l1 : List Int) (r : ByteArray) (w : World) (hr1 : Kd.C (Kd.int .i64) w A1 l1.length l1) (hc1 : l1.length ≤ c1) (h : storagebarterref01_PutList.f k a0 l1 = some r) :
    Calls Try.prog 34 #[.string a0, .slice A1 l1.length c1] w fun e w' => e = .returned (.string r) ∧ Below w.heap.size w w' := by
  have HR1 := Aside0.mk hr1
  have HC1 := Aside0.mk hc1
  clear hr1 hc1
  have HB := Aside0.mk (Below.refl w.heap.size w)
  have H : ((storagebarterref01_PutInt.f k a0 (l1.length : Int)).bind fun t220 => (storagebarterref01_PutList.l0 k t220 l1 (l1.length : Int) 0)) = some r := h
  clear h
  replace H := Option.bind_eq_some_iff.mp H
  obtain ⟨t220, A30, H⟩ := H
  replace H : (storagebarterref01_PutList.l0 k t220 l1 (l1.length : Int) 0) = some r := H
  have A3 := Aside0.mk A30
  clear A30
  have H' := Aside0.mk H
  clear H
  go_enter Try.func34, Try.ntmps34
  go_wp2_with (first | ((with_reducible refine gate_callee (f := 15) rfl ?_); refine goesL_ (some 10) rfl rfl Try.func15 (by kernel_rfl) rfl #[.string a0, .int .i64 (l1.length : Int)] rfl (by (try simp only [List.map_toArray, List.map_cons, List.map_nil]); first | done | rfl | (simp only [List.length_drop, List.length_take]; rfl)) ?_; (with_reducible refine (storagebarterref01_PutInt.calls k a0 (l1.length : Int) t220 _ A3.out).mono ?_); rintro e w4 ⟨rfl, hb⟩; refine ⟨_, rfl, ?_⟩; have n0_ := Aside0.mk (below_step (by repeat (first | (with_reducible first | exact HB.out | apply below_alloc | apply pw_below_drewN | apply below_drew1) | exact HB.out)) hb); clear HB; have HB := n0_; clear n0_; (try clear hb); (try clear hb2); (try clear hk); (try clear hi)))
  go_loopg [0, 13] k (fun kq v0 v13 w' => ∃ (x0_1 : ByteArray) (x13_1 : Int), v0 = .string x0_1 ∧ v13 = .int .i64 x13_1 ∧ Aside0 (storagebarterref01_PutList.l0 kq x0_1 l1 (l1.length : Int) x13_1 = some r) ∧ Aside0 (kq ≤ k) ∧ Aside0 (Below w.heap.size w w'))
  case atStart => exact ⟨(t220), (0), (by first | rfl | (simp; done) | (simp [*]; done)), (by first | rfl | (simp; done) | (simp [*]; done)), H', ⟨Nat.le_refl _⟩, ⟨by repeat (first | (with_reducible first | exact HB.out | apply below_alloc | apply pw_below_drewN | apply below_drew1) | exact HB.out)⟩⟩
  case round =>
    clear H'
    try clear c1
    try clear p2
    try clear c3
    obtain ⟨x0_1, x13_1, rfl, rfl, HA, HK1, HB⟩ := hrel
    cases gk with
    | zero => exact absurd HA.out (by simp [storagebarterref01_PutList.l0])
    | succ k1 =>
      have H := HA.out
      clear HA
      simp only [storagebarterref01_PutList.l0] at H
      by_cases c5 : x13_1 < (l1.length : Int)
      · rw [if_pos c5] at H
        have c5b0 : decide (x13_1 < (l1.length : Int)) = true := decide_eq_true c5
        clear c5
        by_cases c6 : 0 ≤ x13_1
        · rw [if_pos c6] at H
          have c6b0 : decide (0 ≤ x13_1) = true := decide_eq_true c6
          clear c6
          by_cases c7 : x13_1 < (l1.length : Int)
          · rw [if_pos c7] at H
            have c7b0 : decide (x13_1 < (l1.length : Int)) = true := decide_eq_true c7
            clear c7
            replace H := Option.bind_eq_some_iff.mp H
            obtain ⟨t222, A80, H⟩ := H
            replace H : (storagebarterref01_PutList.l0 k1 t222 l1 (l1.length : Int) (wrap64 (x13_1 + 1))) = some r := H
            have A8 := Aside0.mk A80
            clear A80
            have H' := Aside0.mk H
            clear H
            have p221 : 0 ≤ (x13_1 : Int) := of_decide_eq_true (by first | (with_reducible assumption) | assumption)
            have q221 : x13_1 < (l1.length : Int) := of_decide_eq_true (by first | (with_reducible assumption) | assumption)
            obtain ⟨ad221, e221, hx221_0⟩ := Kd.at_int HR1.out x13_1 p221 q221
            cases e221
            replace hx221_0 := (HB.out.cell (World.block_lt_of_cell? w _ hx221_0)).trans hx221_0
            replace p221 := eq_true p221
            replace q221 := eq_true q221
            go_wp2_with (first | ((with_reducible refine gate_callee (f := 15) rfl ?_); refine goesL_ (some 19) rfl rfl Try.func15 (by kernel_rfl) rfl #[.string x0_1, .int .i64 (rd l1 x13_1)] rfl (by (try simp only [List.map_toArray, List.map_cons, List.map_nil]); first | done | rfl | (simp only [List.length_drop, List.length_take]; rfl)) ?_; (with_reducible refine (storagebarterref01_PutInt.calls k1 x0_1 (rd l1 x13_1) t222 _ A8.out).mono ?_); rintro e w9 ⟨rfl, hb⟩; refine ⟨_, rfl, ?_⟩; have n0_ := Aside0.mk (below_step (by repeat (first | (with_reducible first | exact HB.out | apply below_alloc | apply pw_below_drewN | apply below_drew1) | exact HB.out)) hb); clear HB; have HB := n0_; clear n0_; (try clear hb); (try clear hb2); (try clear hk); (try clear hi)))
            go_roundg k1
            case measure => have := HK1.out; omega
            case rel => exact ⟨(t222), (wrap64 (x13_1 + 1)), (by first | rfl | (simp; done) | (simp [*]; done)), (by first | rfl | (simp; done) | (simp [*]; done)), H', ⟨by have := HK1.out; omega⟩, ⟨by repeat (first | (with_reducible first | exact HB.out | apply below_alloc | apply pw_below_drewN | apply below_drew1) | exact HB.out)⟩⟩
          · rw [if_neg c7] at H
            exact absurd H (by simp)
        · rw [if_neg c6] at H
          exact absurd H (by simp)
      · rw [if_neg c5] at H
        have c5b0 : decide (x13_1 < (l1.length : Int)) = false := decide_eq_false c5
        clear c5
        obtain rfl := Option.some.inj H
        go_wp2
        go_ret
        exact ⟨by first | rfl | (simp [errW_none, errW_some] <;> rfl) | (simp [*, errW_none, errW_some] <;> rfl), by repeat (first | (with_reducible first | exact HB.out | apply below_alloc | apply pw_below_drewN | apply below_drew1) | exact HB.out)⟩

end Go.Proofs.Ytpebhbhdkmpjeaa.Q

/- The printed functions of 'wire' and of its reference, in plain words: numbers, texts and lists. -/
namespace Go.Proofs.Ytpebhbhdkmpjeaa.Gwb
open Go Go.RowKit Go.Proofs.Ytpebhbhdkmpjeaa.Gm Go.Proofs.Ytpebhbhdkmpjeaa.Gwa Go.Proofs.Ytpebhbhdkmpjeaa.Q Go.Proofs.Ytpebhbhdkmpjeaa.Gput Go.Proofs.Ytpebhbhdkmpjeaa.Gputl Go.Proofs.YtpebhbhdkmpjeaaW.PrintWords Go.Proofs.YtpebhbhdkmpjeaaW.PrintLast Go.Proofs.YtpebhbhdkmpjeaaW.PrintMore
set_option linter.unusedVariables false

theorem intAt_B (l : List UInt8) (a : Int) : intAt (B l) a = if a < 0 ∨ a > l.length then (0, 0, 1) else told a (rdU 0 0 (l.drop a.toNat)) := by
  unfold intAt
  rw [B_size, B_data]

/-- The next index lies in the text, and behind; the number fits. -/
theorem intAt_ok {l : List UInt8} {a x n : Int} (h : intAt (B l) a = (x, n, 0)) : 0 ≤ a ∧ a < n ∧ n ≤ l.length ∧ n ≤ a + 10 ∧ -9223372036854775808 ≤ x ∧ x ≤ 9223372036854775807 ∧ (l.drop a.toNat).take (n - a).toNat = putI x ∧ ((putI x).length : Int) = n - a := by
  rw [intAt_B] at h
  split at h
  · simp at h
  rename_i hn
  rcases hr : rdU 0 0 (l.drop a.toNat) with ⟨u, c, e⟩
  rw [hr] at h
  cases e with
  | succ e => simp [told] at h; omega
  | zero =>
    simp only [told, Prod.mk.injEq, and_true] at h
    obtain ⟨rfl, rfl⟩ := h
    obtain ⟨v, hu, hc, ht, hl, -, hv⟩ := rdU_inv _ 0 0 u c (by omega) hr
    simp only [Nat.pow_zero, Nat.mul_one, Nat.zero_add] at hu hc hv
    subst hu
    subst hc
    have h10 := grp_len10 u hv
    have hp := grp_pos u
    have hrg := unzig_range hv
    simp only [List.length_drop] at hl
    have e1 : (a + ((grp u).length : Int) - a).toNat = (grp u).length := by omega
    have e2 : putI (unzig u) = grp u := by unfold putI; rw [zig_unzig]
    rw [e1, e2]
    exact ⟨by omega, by omega, by omega, by omega, hrg.1, hrg.2, ht, by omega⟩

theorem intAt_err {l : List UInt8} {a x n e : Int} (h : intAt (B l) a = (x, n, e)) : (e = 0 ∨ (x = 0 ∧ n = 0)) ∧ 0 ≤ e ∧ e ≤ 3 := by
  rw [intAt_B] at h
  split at h
  · simp at h; omega
  rcases hr : rdU 0 0 (l.drop a.toNat) with ⟨u, c, e'⟩
  rw [hr] at h
  have he : ∀ (l : List UInt8) (k u : Nat), (rdU k u l).2.2 ≤ 3 := by
    intro l
    induction l with
    | nil => intro k u; simp [rdU]
    | cons b l ih =>
      intro k u
      rw [rdU]
      split
      · simp
      · split
        · simp
        · exact ih _ _
  have := he (l.drop a.toNat) 0 0
  rw [hr] at this
  cases e' with
  | zero => simp only [told, Prod.mk.injEq] at h; omega
  | succ e' => simp only [told, Prod.mk.injEq] at h; simp at this; omega

/-- What was put is read back. -/
theorem intAt_put (p q : List UInt8) (n : Int) (hn : -9223372036854775808 ≤ n ∧ n ≤ 9223372036854775807) : intAt (B (p ++ (putI n ++ q))) p.length = (n, ((p.length + (putI n).length : Nat) : Int), 0) := by
  rw [intAt_B, if_neg (by simp; omega)]
  simp only [Int.toNat_natCast, List.drop_left']
  have h := rdU_grp q (zig n) 0 0 (by omega) (by simpa using zig_range hn)
  unfold putI
  rw [h]
  simp [told, unzig_zig]

theorem wf64 {n : Int} (h : -9223372036854775808 ≤ n ∧ n ≤ 9223372036854775807) : (Lit.int .i64 n).wf = true := Go.WalkArith.wf_i64 h

theorem wire_PutInt_eq (l : List UInt8) (n : Int) (hl : l.length + 10 ≤ 140737488355328) (hn : -9223372036854775808 ≤ n ∧ n ≤ 9223372036854775807) : wire_PutInt.f (B l) n = some (B (l ++ putI n)) := by
  unfold wire_PutInt.f
  rw [if_pos ⟨by rw [B_size]; exact hl, wf64 hn⟩]
  rfl

theorem strOfNums_one (n : Nat) : strOfNums [(n : Int)] = B [UInt8.ofNat n] := by
  unfold strOfNums B
  simp

theorem ref_PutInt_l0 : ∀ (u : Nat) (l : List UInt8) (k : Nat), l.length + (grp u).length ≤ 9223372036854775807 → (grp u).length ≤ k → storagebarterref01_PutInt.l0 k (B l) u = some (B (l ++ grp u)) := by
  intro u
  induction u using Nat.strongRecOn with
  | _ u ih =>
  intro l k hl hk
  by_cases h127 : 127 < u
  · rw [grp_more h127] at hl hk ⊢
    simp only [List.length_cons] at hl hk
    obtain ⟨k, rfl⟩ : ∃ m, k = m + 1 := ⟨k - 1, by omega⟩
    simp only [storagebarterref01_PutInt.l0]
    rw [if_pos (by omega), or128, Option.bind_some, strOfNums_one, if_pos (by rw [B_size, B_size]; simp; omega), B_append]
    have := ih (u / 128) (by omega) (l ++ [UInt8.ofNat (u % 128 + 128)]) k (by simp; omega) (by omega)
    rw [show ((u : Int) / 128) = ((u / 128 : Nat) : Int) by omega, this]
    simp
  · rw [grp_last h127] at hl hk ⊢
    simp only [List.length_singleton] at hl hk
    obtain ⟨k, rfl⟩ : ∃ m, k = m + 1 := ⟨k - 1, by omega⟩
    simp only [storagebarterref01_PutInt.l0]
    rw [if_neg (by omega), show ((u : Int) % 256) = (u : Int) by omega, Option.bind_some, strOfNums_one, if_pos (by rw [B_size, B_size]; simp; omega), B_append]

theorem ref_PutInt_eq (l : List UInt8) (n : Int) (k : Nat) (hl : l.length + 10 ≤ 9223372036854775807) (hn : -9223372036854775808 ≤ n ∧ n ≤ 9223372036854775807) (hk : 10 ≤ k) : storagebarterref01_PutInt.f k (B l) n = some (B (l ++ putI n)) := by
  unfold storagebarterref01_PutInt.f
  rw [zig_bits n (wf64 hn)]
  have := putI_len hn
  unfold putI at this ⊢
  exact ref_PutInt_l0 (zig n) l k (by omega) (by omega)

set_option maxHeartbeats 1000000 in
theorem ref_Int_l0 (s : ByteArray) (a : Nat) (hs : s.size ≤ 9223372036854775000) : ∀ (d i u k : Nat), 9 - i = d → i ≤ 9 → a + i ≤ s.size → u < 128 ^ i → 3 * d + 4 ≤ k →
    storagebarterref01_Int.l0 k s a u i = some (told a (rdU i u (s.data.toList.drop (a + i)))) := by
  intro d
  induction d with
  | zero =>
    intro i u k hd hi ha hu hk
    obtain rfl : i = 9 := by omega
    obtain ⟨k, rfl⟩ : ∃ m, k = m + 3 := ⟨k - 3, by omega⟩
    have ew : wrap64 ((a : Int) + ((9 : Nat) : Int)) = ((a + 9 : Nat) : Int) := by rw [w64 (by omega)]; omega
    simp only [storagebarterref01_Int.l0]
    rw [ew]
    by_cases hend : a + 9 = s.size
    · rw [if_pos (by omega), List.drop_of_length_le (by rw [Array.length_toList]; exact Nat.le_of_eq hend.symm)]
      rfl
    · have hlt : a + 9 < s.size := by omega
      have hb := bt_lt s ((a + 9 : Nat) : Int)
      obtain ⟨b, hbn⟩ : ∃ b : Nat, bt s ((a + 9 : Nat) : Int) = b := ⟨(bt s ((a + 9 : Nat) : Int)).toNat, by omega⟩
      rw [if_neg (by omega), if_pos (by omega), if_pos (by omega), drop_at s _ hlt, hbn, rdU, Int.toNat_natCast, u8_ofNat b (by omega), if_pos (by omega)]
      have e7 : IntKind.u64.wrap (wrap64 (7 * ((9 : Nat) : Int))) = wrap64 (7 * ((9 : Nat) : Int)) := by rw [w64 (by omega), wrap_u64]; omega
      by_cases h1 : 1 < b
      · rw [if_pos (show (9 = 9 ∧ 1 < b) ∨ (0 < 9 ∧ b = 0) from .inl ⟨rfl, h1⟩), show decide ((b : Int) > 1) = true by simp; omega]
        simp only [storagebarterref01_Int.j2]
        rfl
      · rw [show decide ((b : Int) > 1) = false by simp; omega]
        simp only [storagebarterref01_Int.j2]
        have hlt2 := mul_lt64 (i := 9) (b := b) (by omega) (fun _ => by omega)
        rw [if_neg (show ¬ (false = true) by simp), e7, if_pos (show 0 ≤ wrap64 (7 * ((9 : Nat) : Int)) by rw [w64 (by omega)]; omega), if_neg (show ¬ ((b : Int) > 127) by omega), shl_part b 9 (by omega) (by omega) (fun _ => by omega), or_part u b 9 (by omega) (by omega) (fun _ => by omega) hu]
        by_cases h0 : b = 0
        · rw [if_pos (show (True ∧ 1 < b) ∨ (0 < 9 ∧ b = 0) from .inr ⟨by omega, h0⟩), if_pos (show (b : Int) = 0 by omega)]
          simp only [storagebarterref01_Int.j3]
          rfl
        · rw [if_neg (show ¬ ((True ∧ 1 < b) ∨ (0 < 9 ∧ b = 0)) by omega), if_neg (show ¬ (b : Int) = 0 by omega), if_pos (show b < 128 by omega)]
          simp only [storagebarterref01_Int.j3]
          rw [if_neg (show ¬ (false = true) by simp), u64_and1 _ (by omega) (by omega), ew, w64 (x := ((a + 9 : Nat) : Int) + 1) (by omega), w64 (x := ((u + b % 128 * 128 ^ 9 : Nat) : Int) / 2) (by omega), Nat.mod_eq_of_lt (show b < 128 by omega)]
          rw [Nat.mod_eq_of_lt (show b < 128 by omega)] at hlt2
          simp only [told]
          unfold unzig
          split
          · rw [w64 (x := -(((u + b * 128 ^ 9 : Nat) : Int) / 2)) (by omega), w64 (by omega), if_neg (by omega)]
            rfl
          · rw [if_pos (by omega)]
            rfl
  | succ d ih =>
    intro i u k hd hi ha hu hk
    obtain ⟨k, rfl⟩ : ∃ m, k = m + 3 := ⟨k - 3, by omega⟩
    have ew : wrap64 ((a : Int) + (i : Int)) = ((a + i : Nat) : Int) := by rw [w64 (by omega)]; omega
    simp only [storagebarterref01_Int.l0]
    rw [ew]
    by_cases hend : a + i = s.size
    · rw [if_pos (by omega), List.drop_of_length_le (by rw [Array.length_toList]; exact Nat.le_of_eq hend.symm)]
      rfl
    · have hlt : a + i < s.size := by omega
      have hb := bt_lt s ((a + i : Nat) : Int)
      obtain ⟨b, hbn⟩ : ∃ b : Nat, bt s ((a + i : Nat) : Int) = b := ⟨(bt s ((a + i : Nat) : Int)).toNat, by omega⟩
      have e7 : IntKind.u64.wrap (wrap64 (7 * (i : Int))) = wrap64 (7 * (i : Int)) := by rw [w64 (by omega), wrap_u64]; omega
      have hlt2 := mul_lt64 (i := i) (b := b) (by omega) (fun _ => by omega)
      rw [if_neg (show ¬ (((a + i : Nat) : Int) ≥ (s.size : Int)) by omega), if_pos (show 0 ≤ ((a + i : Nat) : Int) by omega), if_pos (show ((a + i : Nat) : Int) < (s.size : Int) by omega), drop_at s _ hlt, hbn, rdU, Int.toNat_natCast, u8_ofNat b (by omega), if_neg (show ¬ ((i : Int) = 9) by omega)]
      simp only [storagebarterref01_Int.j2]
      rw [if_neg (show ¬ (false = true) by simp), e7, if_pos (show 0 ≤ wrap64 (7 * (i : Int)) by rw [w64 (by omega)]; omega), shl_part b i (by omega) (by omega) (fun _ => by omega), or_part u b i (by omega) (by omega) (fun _ => by omega) hu]
      by_cases h128 : b < 128
      · rw [if_neg (show ¬ ((b : Int) > 127) by omega), Nat.mod_eq_of_lt h128]
        rw [Nat.mod_eq_of_lt h128] at hlt2
        have key : ∀ z : Bool, z = decide (0 < i ∧ b = 0) → storagebarterref01_Int.j3 (k + 1) a ((u + b * 128 ^ i : Nat) : Int) i z = some (told a (if (i = 9 ∧ 1 < b) ∨ (0 < i ∧ b = 0) then (0, 0, 2) else if b < 128 then (u + b * 128 ^ i, i + 1, 0) else rdU (i + 1) (u + b * 128 ^ i) (s.data.toList.drop (a + i + 1)))) := by
          intro z hz
          simp only [storagebarterref01_Int.j3]
          by_cases hc : 0 < i ∧ b = 0
          · rw [if_pos (show z = true by rw [hz]; simp [hc]), if_pos (show (i = 9 ∧ 1 < b) ∨ (0 < i ∧ b = 0) from .inr hc)]
            rfl
          · rw [if_neg (show ¬ z = true by rw [hz]; simpa using hc), if_neg (show ¬ ((i = 9 ∧ 1 < b) ∨ (0 < i ∧ b = 0)) by rintro (⟨h9, -⟩ | h); omega; exact hc h), if_pos h128, u64_and1 _ (by omega) (by omega), ew, w64 (x := ((a + i : Nat) : Int) + 1) (by omega), w64 (x := ((u + b * 128 ^ i : Nat) : Int) / 2) (by omega)]
            simp only [told]
            unfold unzig
            split
            · rw [w64 (x := -(((u + b * 128 ^ i : Nat) : Int) / 2)) (by omega), w64 (by omega), if_neg (by omega)]
              rfl
            · rw [if_pos (by omega)]
              rfl
        by_cases hb0 : b = 0
        · rw [if_pos (show (b : Int) = 0 by omega)]
          refine key _ ?_
          rw [Bool.eq_iff_iff]; simp; omega
        · rw [if_neg (show ¬ (b : Int) = 0 by omega)]
          refine key _ ?_
          simp; omega
      · rw [if_pos (show ((b : Int) > 127) by omega), if_neg (show ¬ ((i = 9 ∧ 1 < b) ∨ (0 < i ∧ b = 0)) by omega), if_neg h128, w64 (by omega)]
        have h2 : u + b % 128 * 128 ^ i < 128 ^ (i + 1) := by
          have h3 : b % 128 * 128 ^ i ≤ 127 * 128 ^ i := Nat.mul_le_mul_right _ (by omega)
          have h4 : 128 ^ (i + 1) = 128 ^ i * 128 := Nat.pow_succ 128 i
          omega
        have := ih (i + 1) (u + b % 128 * 128 ^ i) (k + 1) (by omega) (by omega) (by omega) h2 (by omega)
        rw [show ((i + 1 : Nat) : Int) = (i : Int) + 1 by omega] at this
        rw [this, Nat.add_assoc]

theorem ref_Int_eq (s : ByteArray) (a : Int) (k : Nat) (hs : s.size ≤ 9223372036854775000) (hk : 34 ≤ k) : storagebarterref01_Int.f k s a = some (intAt s a) := by
  obtain ⟨k, rfl⟩ : ∃ m, k = m + 1 := ⟨k - 1, by omega⟩
  unfold storagebarterref01_Int.f intAt
  by_cases h0 : a < 0
  · rw [if_pos h0, if_pos (.inl h0)]
    simp only [storagebarterref01_Int.j0]
    rfl
  · rw [if_neg h0]
    simp only [storagebarterref01_Int.j0]
    by_cases h1 : a > (s.size : Int)
    · rw [if_pos (by simpa using h1), if_pos (.inr h1)]
    · rw [if_neg (by simpa using h1), if_neg (by omega)]
      obtain ⟨n, rfl⟩ : ∃ n : Nat, a = n := ⟨a.toNat, by omega⟩
      exact ref_Int_l0 s n hs 9 0 0 k rfl (by omega) (by omega) (by simp) (by omega)

/-! ### Texts -/

def countAt (l : List UInt8) (a most : Int) : Int × Int × Int :=
  if (intAt (B l) a).2.2 = 0 then (if (intAt (B l) a).1 < 0 then (0, 0, 2) else if (intAt (B l) a).1 > most then (0, 0, 4) else ((intAt (B l) a).1, (intAt (B l) a).2.1, 0)) else (0, 0, (intAt (B l) a).2.2)

theorem wire_count_eq (l : List UInt8) (a m : Int) (k : Nat) (hs : l.length ≤ 9223372036854775000) (hk : 24 ≤ k) : wire_count.f k (B l) a m = some (countAt l a m) := by
  unfold wire_count.f countAt
  rw [wire_Int_eq (B l) a k (by rw [B_size]; exact hs) hk, Option.bind_some]
  split
  · split
    · rfl
    · split <;> rfl
  · rfl

def textAt (l : List UInt8) (a most : Int) : ByteArray × Int × Int :=
  if (countAt l a most).2.2 = 0 then
    (if (countAt l a most).1 > l.length - (countAt l a most).2.1 then (B [], 0, 3)
     else (B ((l.drop (countAt l a most).2.1.toNat).take (countAt l a most).1.toNat), (countAt l a most).2.1 + (countAt l a most).1, 0))
  else (B [], 0, (countAt l a most).2.2)

theorem countAt_ok {l : List UInt8} {a m x n : Int} (h : countAt l a m = (x, n, 0)) : intAt (B l) a = (x, n, 0) ∧ 0 ≤ x ∧ x ≤ m := by
  unfold countAt at h
  rcases hr : intAt (B l) a with ⟨y, c, e⟩
  rw [hr] at h
  simp only at h
  split at h
  · split at h
    · simp at h
    · split at h
      · simp at h
      · simp only [Prod.mk.injEq, and_true] at h
        obtain ⟨rfl, rfl⟩ := h
        rename_i he _ _
        exact ⟨by rw [he], by omega, by omega⟩
  · simp only [Prod.mk.injEq] at h; omega

theorem take_drop_swap (l : List UInt8) (i n : Nat) : (l.take (i + n)).drop i = (l.drop i).take n := by
  rw [List.drop_take]
  congr 1
  omega

theorem text_core (l : List UInt8) (x n : Int) (hs : l.length ≤ 9223372036854775000) (hx : 0 ≤ x ∧ x ≤ 9223372036854775807) (hn : 0 ≤ n ∧ n ≤ l.length) :
    (if x > (wrap64 (((B l).size : Int) - n)) then (some ((⟨#[]⟩ : ByteArray), (0 : Int), (3 : Int))) else (if 0 ≤ n then (if n ≤ (wrap64 (n + x)) then (if (wrap64 (n + x)) ≤ ((B l).size : Int) then (some ((B l).extract (n : Int).toNat ((wrap64 (n + x)) : Int).toNat, wrap64 (n + x), (0 : Int))) else (none)) else (none)) else (none))) =
    some (if x > l.length - n then (B [], 0, 3) else (B ((l.drop n.toNat).take x.toNat), n + x, 0)) := by
  rw [B_size, w64 (by omega)]
  by_cases h : x > (l.length : Int) - n
  · rw [if_pos h, if_pos h]; rfl
  · rw [if_neg h, if_neg h, w64 (by omega), if_pos (by omega), if_pos (by omega), if_pos (by omega), B_extract, ← take_drop_swap, Int.toNat_add (by omega) (by omega)]

theorem wire_Text_eq (l : List UInt8) (a m : Int) (k : Nat) (hs : l.length ≤ 9223372036854775000) (hk : 24 ≤ k) : wire_Text.f k (B l) a m = some (textAt l a m) := by
  unfold wire_Text.f textAt
  rw [wire_count_eq l a m k hs hk, Option.bind_some]
  rcases hc : countAt l a m with ⟨x, n, e⟩
  simp only
  by_cases he : e = 0
  · subst he
    rw [if_pos rfl, if_pos rfl]
    obtain ⟨h1, h2, h3⟩ := countAt_ok hc
    obtain ⟨h4, h5, h6, h7, h8, h9, -⟩ := intAt_ok h1
    exact text_core l x n hs ⟨h2, h9⟩ ⟨by omega, h6⟩
  · rw [if_neg he, if_neg he]
    rfl

theorem ref_Text_eq (l : List UInt8) (a m : Int) (k : Nat) (hs : l.length ≤ 9223372036854775000) (hk : 34 ≤ k) : storagebarterref01_Text.f k (B l) a m = some (textAt l a m) := by
  unfold storagebarterref01_Text.f textAt countAt
  rw [ref_Int_eq (B l) a k (by rw [B_size]; exact hs) hk, Option.bind_some]
  rcases hc : intAt (B l) a with ⟨x, n, e⟩
  simp only
  by_cases he : e = 0
  · subst he
    obtain ⟨h4, h5, h6, h7, h8, h9, -⟩ := intAt_ok hc
    simp only [if_true]
    by_cases h0 : x < 0
    · rw [if_pos h0]; simp only [if_pos h0]; rfl
    · rw [if_neg h0]; simp only [if_neg h0]
      by_cases h1 : x > m
      · rw [if_pos h1]; simp only [if_pos h1]; rfl
      · rw [if_neg h1]; simp only [if_neg h1, if_true]
        exact text_core l x n hs ⟨by omega, h9⟩ ⟨by omega, h6⟩
  · rw [if_neg he]
    simp only [if_neg he]
    rfl

theorem wire_PutText_eq (l t : List UInt8) (hl : l.length + 10 ≤ 140737488355328) (ht : t.length ≤ 140737488355328) : wire_PutText.f (B l) (B t) = some (B (l ++ (putI t.length ++ t))) := by
  unfold wire_PutText.f
  have hr : -9223372036854775808 ≤ (t.length : Int) ∧ (t.length : Int) ≤ 9223372036854775807 := by omega
  have := putI_len hr
  rw [B_size, wire_PutInt_eq l _ hl hr, Option.bind_some, if_pos (by rw [B_size, List.length_append]; omega), B_append, List.append_assoc]

theorem ref_PutText_eq (l t : List UInt8) (k : Nat) (hl : l.length ≤ 4611686018427387903) (ht : t.length ≤ 4611686018427387000) (hk : 10 ≤ k) : storagebarterref01_PutText.f k (B l) (B t) = some (B (l ++ (putI t.length ++ t))) := by
  unfold storagebarterref01_PutText.f
  have hr : -9223372036854775808 ≤ (t.length : Int) ∧ (t.length : Int) ≤ 9223372036854775807 := by omega
  have := putI_len hr
  rw [B_size, ref_PutInt_eq l _ k (by omega) hr hk, Option.bind_some, if_pos (by rw [B_size, List.length_append]; omega), B_append, List.append_assoc]

end Go.Proofs.Ytpebhbhdkmpjeaa.Gwb

/- The sanity check of chapter 1 holds. -/
namespace Go.Proofs.Ytpebhbhdkmpjeaa.Gwc
open Go Go.RowKit Go.Proofs.Ytpebhbhdkmpjeaa.Gm Go.Proofs.Ytpebhbhdkmpjeaa.Gwa Go.Proofs.Ytpebhbhdkmpjeaa.Gwb Go.Proofs.Ytpebhbhdkmpjeaa.Q Go.Proofs.Ytpebhbhdkmpjeaa.Gput Go.Proofs.YtpebhbhdkmpjeaaW.PrintWords Go.Proofs.YtpebhbhdkmpjeaaW.PrintLast Go.Proofs.YtpebhbhdkmpjeaaW.PrintMore
set_option linter.unusedVariables false

theorem law01_sane (k : Nat) (hk : 34 ≤ k) : storagebarterlaw01_sane.f k = some true := by
  unfold storagebarterlaw01_sane.f
  have e1 : intAt (B [128, 1]) 0 = (64, 2, 0) := by rw [intAt_B]; decide
  have e2 : intAt (B [128, 0]) 0 = (0, 0, 2) := by rw [intAt_B]; decide
  have e3 : putI 64 = [128, 1] := by
    unfold putI
    rw [show zig 64 = 128 by decide, grp_more (by omega), grp_last (by omega)]
    decide
  have e4 : putI (-1) = [1] := by
    unfold putI
    rw [show zig (-1) = 1 by decide, grp_last (by omega)]
    decide
  have hw1 := wire_Int_eq (B [128, 1]) 0 k (by rw [B_size]; simp) (by omega)
  have hw2 := wire_Int_eq (B [128, 0]) 0 k (by rw [B_size]; simp) (by omega)
  have hp1 := wire_PutInt_eq [] 64 (by simp) (by omega)
  have hp2 := wire_PutInt_eq [97] (-1) (by simp) (by omega)
  rw [e1] at hw1
  rw [e2] at hw2
  rw [e3] at hp1
  rw [e4] at hp2
  rw [show (⟨#[128, 1]⟩ : ByteArray) = B [128, 1] from rfl, show (⟨#[128, 0]⟩ : ByteArray) = B [128, 0] from rfl, show (⟨#[]⟩ : ByteArray) = B [] from rfl, show (⟨#[97]⟩ : ByteArray) = B [97] from rfl, hw1, Option.bind_some, hw2, Option.bind_some, hp1, Option.bind_some, if_pos (by rw [B_toList]; rfl), hp2, Option.bind_some, if_pos (by rw [B_toList]; rfl)]
  rfl

end Go.Proofs.Ytpebhbhdkmpjeaa.Gwc

namespace Go.Proofs.Ytpebhbhdkmpjeaa.Q
open Go.RowKit Go.Proofs.YtpebhbhdkmpjeaaW.PrintWords Go.Proofs.YtpebhbhdkmpjeaaW.PrintLast Go.Proofs.YtpebhbhdkmpjeaaW.PrintMore Go.Proofs.Ytpebhbhdkmpjeaa.Gput Go.Proofs.Ytpebhbhdkmpjeaa.Gputl
attribute [local go_sem] max2_int min2_int max_two min_two max_three min_three max_four min_four   -- for this text's walks alone
set_option linter.unusedVariables false
set_option linter.unusedSimpArgs false

/-! ### storagebarterref01_List: function 38 -/
def storagebarterref01_List.l0 : Nat → ByteArray → Int → Int → List Int → Option (List Int × Int × Int)
  | 0, _, _, _, _ => none
  | k + 1, x0, x9, x10, x12 => if (x12.length : Int) < x9 then ((storagebarterref01_Int.f k x0 x10).bind fun bt244 => (if bt244.2.2 = 0 then (if x12.length < 17592186044416 then (storagebarterref01_List.l0 k x0 x9 bt244.2.1 (x12 ++ [bt244.1])) else (none)) else (some (([] : List Int), 0, bt244.2.2)))) else (some (x12, x10, 0))
def storagebarterref01_List.f (k : Nat) (a0 : ByteArray) (a1 : Int) (a2 : Int) : Option (List Int × Int × Int) := (storagebarterref01_Int.f k a0 a1).bind fun bt241 => (if bt241.2.2 = 0 then (if bt241.1 < 0 then (some (([] : List Int), 0, 2)) else (if bt241.1 > a2 then (some (([] : List Int), 0, 4)) else (storagebarterref01_List.l0 k a0 bt241.1 bt241.2.1 ([] : List Int)))) else (some (([] : List Int), 0, bt241.2.2)))
theorem storagebarterref01_List.mono_l : ∀ k, (∀ y0 y1 y2 y3, LeO (storagebarterref01_List.l0 k y0 y1 y2 y3) (storagebarterref01_List.l0 (k + 1) y0 y1 y2 y3))
  | 0 => fun _ _ _ _ r h => by simp [storagebarterref01_List.l0] at h
  | k + 1 => by
    have ih0 := storagebarterref01_List.mono_l k
    · intro y0 y1 y2 y3
      unfold storagebarterref01_List.l0
      repeat' first
      | (with_reducible exact ih0 _ _ _ _)
      | (with_reducible exact storagebarterref01_Int.mono _ _ _)
      | (with_reducible exact LeO.refl _)
      | (with_reducible exact LeO.none _)
      | (with_reducible refine LeO.ite ?_ ?_)
      | (with_reducible refine LeO.bind ?_ (fun _ => ?_))
      | exact ih0 _ _ _ _
      | exact storagebarterref01_Int.mono _ _ _
      | exact LeO.none _
      | refine LeO.ite ?_ ?_
      | refine LeO.bind ?_ (fun _ => ?_)
theorem storagebarterref01_List.mono : ∀ a0 a1 a2 k, LeO (storagebarterref01_List.f k a0 a1 a2) (storagebarterref01_List.f (k + 1) a0 a1 a2) := by
  intro a0 a1 a2 k
  have ih0 := storagebarterref01_List.mono_l k
  unfold storagebarterref01_List.f
  repeat' first
      | (with_reducible exact ih0 _ _ _ _)
      | (with_reducible exact storagebarterref01_Int.mono _ _ _)
      | (with_reducible exact LeO.refl _)
      | (with_reducible exact LeO.none _)
      | (with_reducible refine LeO.ite ?_ ?_)
      | (with_reducible refine LeO.bind ?_ (fun _ => ?_))
      | exact ih0 _ _ _ _
      | exact storagebarterref01_Int.mono _ _ _
      | exact LeO.none _
      | refine LeO.ite ?_ ?_
      | refine LeO.bind ?_ (fun _ => ?_)
set_option maxHeartbeats 8000000 in
set_option maxRecDepth 100000 in
theorem storagebarterref01_List.calls (k : Nat) (a0 : ByteArray) (a1 : Int) (a2 : Int) (r1 : List Int) (r2 : Int) (r3 : Int) (w : World) (h : storagebarterref01_List.f k a0 a1 a2 = some (r1, r2, r3)) :
    Calls Try.prog 38 #[.string a0, .int .i64 a1, .int .i64 a2] w fun e w' => ∃ v0_ : Value, e = .returned (.tuple #[v0_, .int .i64 r2, .int .i64 r3]) ∧ Kd.R (Kd.int .i64) 3 w' w.heap.size (fun _ => True) v0_ r1 ∧ Below w.heap.size w w' := by
  have HB := Aside0.mk (Below.refl w.heap.size w)
  have H : ((storagebarterref01_Int.f k a0 a1).bind fun bt241 => (if bt241.2.2 = 0 then (if bt241.1 < 0 then (some (([] : List Int), 0, 2)) else (if bt241.1 > a2 then (some (([] : List Int), 0, 4)) else (storagebarterref01_List.l0 k a0 bt241.1 bt241.2.1 ([] : List Int)))) else (some (([] : List Int), 0, bt241.2.2)))) = some (r1, r2, r3) := h
  clear h
  replace H := Option.bind_eq_some_iff.mp H
  obtain ⟨⟨t241, t242, t243⟩, A40, H⟩ := H
  replace H : (if t243 = 0 then (if t241 < 0 then (some (([] : List Int), 0, 2)) else (if t241 > a2 then (some (([] : List Int), 0, 4)) else (storagebarterref01_List.l0 k a0 t241 t242 ([] : List Int)))) else (some (([] : List Int), 0, t243))) = some (r1, r2, r3) := H
  have A4 := Aside0.mk A40
  clear A40
  by_cases c5 : t243 = 0
  · rw [if_pos c5] at H
    have c5b0 : (t243 == 0) = true := beq_iff_eq.mpr c5
    have c5b1 : (t243 != 0) = false := bne_eq_false_iff_eq.mpr c5
    clear c5
    by_cases c6 : t241 < 0
    · rw [if_pos c6] at H
      have c6b0 : decide (t241 < 0) = true := decide_eq_true c6
      clear c6
      simp only [Option.some.injEq, Prod.mk.injEq] at H
      obtain ⟨rfl, rfl, rfl⟩ := H
      go_enter Try.func38, Try.ntmps38
      go_wp2_with (first | ((with_reducible refine gate_callee (f := 17) rfl ?_); refine goesL_ (some 19) rfl rfl Try.func17 (by kernel_rfl) rfl #[.string a0, .int .i64 a1] rfl (by (try simp only [List.map_toArray, List.map_cons, List.map_nil]); first | done | rfl | (simp only [List.length_drop, List.length_take]; rfl)) ?_; (with_reducible refine (storagebarterref01_Int.calls k a0 a1 t241 t242 t243 _ A4.out).mono ?_); rintro e w' ⟨rfl, ⟨nd, rfl⟩⟩; refine ⟨_, rfl, ?_⟩))
      go_ret3
      exact ⟨_, by first | rfl | (simp [errW_none, errW_some] <;> rfl) | (simp [*, errW_none, errW_some] <;> rfl), by first | exact Kd.R_nil _ _ _ _ _ | exact Kd.N_nil _ _ _ _ _ | exact Kd.V_nil _ _ _ _ _ | exact Kd.Q_nil _ _ _ _ _ | exact Kd.S_nil _ _ _ _ _, by repeat (first | (with_reducible first | exact HB.out | apply below_alloc | apply pw_below_drewN | apply below_drew1) | exact HB.out)⟩
    · rw [if_neg c6] at H
      have c6b0 : decide (t241 < 0) = false := decide_eq_false c6
      clear c6
      by_cases c7 : t241 > a2
      · rw [if_pos c7] at H
        have c7b0 : decide (a2 < t241) = true := decide_eq_true c7
        clear c7
        simp only [Option.some.injEq, Prod.mk.injEq] at H
        obtain ⟨rfl, rfl, rfl⟩ := H
        go_enter Try.func38, Try.ntmps38
        go_wp2_with (first | ((with_reducible refine gate_callee (f := 17) rfl ?_); refine goesL_ (some 19) rfl rfl Try.func17 (by kernel_rfl) rfl #[.string a0, .int .i64 a1] rfl (by (try simp only [List.map_toArray, List.map_cons, List.map_nil]); first | done | rfl | (simp only [List.length_drop, List.length_take]; rfl)) ?_; (with_reducible refine (storagebarterref01_Int.calls k a0 a1 t241 t242 t243 _ A4.out).mono ?_); rintro e w' ⟨rfl, ⟨nd, rfl⟩⟩; refine ⟨_, rfl, ?_⟩))
        go_ret3
        exact ⟨_, by first | rfl | (simp [errW_none, errW_some] <;> rfl) | (simp [*, errW_none, errW_some] <;> rfl), by first | exact Kd.R_nil _ _ _ _ _ | exact Kd.N_nil _ _ _ _ _ | exact Kd.V_nil _ _ _ _ _ | exact Kd.Q_nil _ _ _ _ _ | exact Kd.S_nil _ _ _ _ _, by repeat (first | (with_reducible first | exact HB.out | apply below_alloc | apply pw_below_drewN | apply below_drew1) | exact HB.out)⟩
      · rw [if_neg c7] at H
        have c7b0 : decide (a2 < t241) = false := decide_eq_false c7
        clear c7
        have H' := Aside0.mk H
        clear H
        go_enter Try.func38, Try.ntmps38
        go_wp2_with (first | ((with_reducible refine gate_callee (f := 17) rfl ?_); refine goesL_ (some 19) rfl rfl Try.func17 (by kernel_rfl) rfl #[.string a0, .int .i64 a1] rfl (by (try simp only [List.map_toArray, List.map_cons, List.map_nil]); first | done | rfl | (simp only [List.length_drop, List.length_take]; rfl)) ?_; (with_reducible refine (storagebarterref01_Int.calls k a0 a1 t241 t242 t243 _ A4.out).mono ?_); rintro e w' ⟨rfl, ⟨nd, rfl⟩⟩; refine ⟨_, rfl, ?_⟩))
        go_loopg [10, 12] k (fun kq v10 v12 w' => ∃ (x10_1 : Int) (x12_1 : List Int), v10 = .int .i64 x10_1 ∧ Aside0 (storagebarterref01_List.l0 kq a0 t241 x10_1 x12_1 = some (r1, r2, r3)) ∧ Aside0 (kq ≤ k) ∧ Aside0 (Kd.R (Kd.int .i64) 3 w' w.heap.size (fun _ => True) v12 x12_1) ∧ Aside0 (Below w.heap.size w w'))
        case atStart => exact ⟨(t242), (([] : List Int)), (by first | rfl | (simp; done) | (simp [*]; done)), H', ⟨Nat.le_refl _⟩, ⟨by first | exact Kd.R_nil _ _ _ _ _ | exact Kd.N_nil _ _ _ _ _ | exact Kd.V_nil _ _ _ _ _ | exact Kd.Q_nil _ _ _ _ _ | exact Kd.S_nil _ _ _ _ _⟩, ⟨by repeat (first | (with_reducible first | exact HB.out | apply below_alloc | apply pw_below_drewN | apply below_drew1) | exact HB.out)⟩⟩
        case round =>
          clear H'
          try clear c1
          try clear p2
          try clear c3
          try clear c5
          try clear c5b0
          try clear c5b1
          try clear c6
          try clear c6b0
          try clear c7
          try clear c7b0
          obtain ⟨x10_1, x12_1, rfl, HA, HK1, HO_12, HB⟩ := hrel
          cases gk with
          | zero => exact absurd HA.out (by simp [storagebarterref01_List.l0])
          | succ k1 =>
            have H := HA.out
            clear HA
            simp only [storagebarterref01_List.l0] at H
            by_cases c8 : (x12_1.length : Int) < t241
            · rw [if_pos c8] at H
              have c8b0 : decide ((x12_1.length : Int) < t241) = true := decide_eq_true c8
              clear c8
              replace H := Option.bind_eq_some_iff.mp H
              obtain ⟨⟨t244, t245, t246⟩, A90, H⟩ := H
              replace H : (if t246 = 0 then (if x12_1.length < 17592186044416 then (storagebarterref01_List.l0 k1 a0 t241 t245 (x12_1 ++ [t244])) else (none)) else (some (([] : List Int), 0, t246))) = some (r1, r2, r3) := H
              have A9 := Aside0.mk A90
              clear A90
              by_cases c10 : t246 = 0
              · rw [if_pos c10] at H
                have c10b0 : (t246 == 0) = true := beq_iff_eq.mpr c10
                have c10b1 : (t246 != 0) = false := bne_eq_false_iff_eq.mpr c10
                clear c10
                by_cases c11 : x12_1.length < 17592186044416
                · rw [if_pos c11] at H
                  have LMc11 := Aside0.mk c11
                  clear c11
                  obtain ⟨y247, hy247⟩ : ∃ y_ : List Int, y_ = (x12_1 ++ [t244]) := ⟨_, rfl⟩
                  replace H : (storagebarterref01_List.l0 k1 a0 t241 t245 y247) = some (r1, r2, r3) := by first | (rw [hy247]; with_reducible exact H) | (have H2_ := (Option.bind_some _ _).symm.trans H; rw [hy247]; with_reducible exact H2_) | (have H2_ := (Option.bind_some _ _).symm.trans H; with_reducible exact H2_) | with_reducible exact H | (rw [hy247]; exact H) | exact H
                  have Ny247 := Aside0.mk hy247
                  clear hy247
                  have H' := Aside0.mk H
                  clear H
                  obtain ⟨Ao12, co12, eo12⟩ := Kd.R_slice HO_12.out
                  subst eo12
                  go_wp2_with (first | ((with_reducible refine gate_callee (f := 17) rfl ?_); refine goesL_ (some 38) rfl rfl Try.func17 (by kernel_rfl) rfl #[.string a0, .int .i64 x10_1] rfl (by (try simp only [List.map_toArray, List.map_cons, List.map_nil]); first | done | rfl | (simp only [List.length_drop, List.length_take]; rfl)) ?_; (with_reducible refine (storagebarterref01_Int.calls k1 a0 x10_1 t244 t245 t246 _ A9.out).mono ?_); rintro e w' ⟨rfl, ⟨nd, rfl⟩⟩; refine ⟨_, rfl, ?_⟩) | ((with_reducible refine gate_builtin (b := .append) (xs := #[.tmp 45, .tmp 47]) rfl ?_); at_builtin; refine Kd.R_append (Kd.int .i64) (w0 := w) w.heap.size rfl (.tmp 45) (.tmp 47) 27 3 (.int .i64 0) 8 rfl Try.underlying27 info3 rfl (by decide) (by omega) (.slice Ao12 x12_1.length co12) x12_1 t244 [.int .i64 t244] (fun _ => True) (fun _ => False) rfl rfl ?aP (fun _ hk => hk.elim) ?aF ?aO ?aB ?aS ?aL ?_; (case aP => exact rfl); (case aB => exact (by repeat (first | (with_reducible first | exact HB.out | apply below_alloc | apply pw_below_drewN | apply below_drew1) | exact HB.out))); (case aF => exact (fun _ _ => trivial)); (case aO => exact (by (with_reducible repeat (first | apply Kd.R_alloc | apply Kd.R_drewN | apply Kd.R_drew)); exact HO_12.out)); (case aS => exact (below_size (by repeat (first | (with_reducible first | exact HB.out | apply below_alloc | apply pw_below_drewN | apply below_drew1) | exact HB.out)))); (case aL => have := LMc11.out; omega); intro v248 w13 ho hb hg hat; rw [← Ny247.out] at ho; have n0_ := Aside0.mk (hb); have n1_ := Aside0.mk (ho); clear HB; clear HO_12; have HB := n0_; have HO249 := n1_; clear n0_ n1_; clear ho hb hg hat))
                  go_roundg k1
                  case measure => have := HK1.out; omega
                  case rel => exact ⟨(t245), (y247), (by first | rfl | (simp; done) | (simp [*]; done)), H', ⟨by have := HK1.out; omega⟩, ⟨by (with_reducible repeat (first | apply Kd.R_alloc | apply Kd.R_drewN | apply Kd.R_drew)); exact HO249.out⟩, ⟨by repeat (first | (with_reducible first | exact HB.out | apply below_alloc | apply pw_below_drewN | apply below_drew1) | exact HB.out)⟩⟩
                · rw [if_neg c11] at H
                  exact absurd H (by simp)
              · rw [if_neg c10] at H
                have c10b0 : (t246 == 0) = false := beq_eq_false_iff_ne.mpr c10
                have c10b1 : (t246 != 0) = true := bne_iff_ne.mpr c10
                simp only [Option.some.injEq, Prod.mk.injEq] at H
                obtain ⟨rfl, rfl, rfl⟩ := H
                obtain ⟨Ao14, co14, eo14⟩ := Kd.R_slice HO_12.out
                subst eo14
                go_wp2_with (first | ((with_reducible refine gate_callee (f := 17) rfl ?_); refine goesL_ (some 38) rfl rfl Try.func17 (by kernel_rfl) rfl #[.string a0, .int .i64 x10_1] rfl (by (try simp only [List.map_toArray, List.map_cons, List.map_nil]); first | done | rfl | (simp only [List.length_drop, List.length_take]; rfl)) ?_; (with_reducible refine (storagebarterref01_Int.calls k1 a0 x10_1 t244 t245 t246 _ A9.out).mono ?_); rintro e w' ⟨rfl, ⟨nd, rfl⟩⟩; refine ⟨_, rfl, ?_⟩))
                go_ret3
                exact ⟨_, by first | rfl | (simp [errW_none, errW_some] <;> rfl) | (simp [*, errW_none, errW_some] <;> rfl), by first | exact Kd.R_nil _ _ _ _ _ | exact Kd.N_nil _ _ _ _ _ | exact Kd.V_nil _ _ _ _ _ | exact Kd.Q_nil _ _ _ _ _ | exact Kd.S_nil _ _ _ _ _, by repeat (first | (with_reducible first | exact HB.out | apply below_alloc | apply pw_below_drewN | apply below_drew1) | exact HB.out)⟩
            · rw [if_neg c8] at H
              have c8b0 : decide ((x12_1.length : Int) < t241) = false := decide_eq_false c8
              clear c8
              simp only [Option.some.injEq, Prod.mk.injEq] at H
              obtain ⟨rfl, rfl, rfl⟩ := H
              obtain ⟨Ao15, co15, eo15⟩ := Kd.R_slice HO_12.out
              subst eo15
              go_wp2
              go_ret3
              exact ⟨_, by first | rfl | (simp [errW_none, errW_some] <;> rfl) | (simp [*, errW_none, errW_some] <;> rfl), by (with_reducible repeat (first | apply Kd.R_alloc | apply Kd.R_drewN | apply Kd.R_drew)); exact HO_12.out, by repeat (first | (with_reducible first | exact HB.out | apply below_alloc | apply pw_below_drewN | apply below_drew1) | exact HB.out)⟩
  · rw [if_neg c5] at H
    have c5b0 : (t243 == 0) = false := beq_eq_false_iff_ne.mpr c5
    have c5b1 : (t243 != 0) = true := bne_iff_ne.mpr c5
    simp only [Option.some.injEq, Prod.mk.injEq] at H
    obtain ⟨rfl, rfl, rfl⟩ := H
    go_enter Try.func38, Try.ntmps38
    go_wp2_with (first | ((with_reducible refine gate_callee (f := 17) rfl ?_); refine goesL_ (some 19) rfl rfl Try.func17 (by kernel_rfl) rfl #[.string a0, .int .i64 a1] rfl (by (try simp only [List.map_toArray, List.map_cons, List.map_nil]); first | done | rfl | (simp only [List.length_drop, List.length_take]; rfl)) ?_; (with_reducible refine (storagebarterref01_Int.calls k a0 a1 t241 t242 t243 _ A4.out).mono ?_); rintro e w' ⟨rfl, ⟨nd, rfl⟩⟩; refine ⟨_, rfl, ?_⟩))
    go_ret3
    exact ⟨_, by first | rfl | (simp [errW_none, errW_some] <;> rfl) | (simp [*, errW_none, errW_some] <;> rfl), by first | exact Kd.R_nil _ _ _ _ _ | exact Kd.N_nil _ _ _ _ _ | exact Kd.V_nil _ _ _ _ _ | exact Kd.Q_nil _ _ _ _ _ | exact Kd.S_nil _ _ _ _ _, by repeat (first | (with_reducible first | exact HB.out | apply below_alloc | apply pw_below_drewN | apply below_drew1) | exact HB.out)⟩

end Go.Proofs.Ytpebhbhdkmpjeaa.Q

/- The printed functions of 'wire' and of its reference, in plain words: lists. -/
namespace Go.Proofs.Ytpebhbhdkmpjeaa.Gwd
open Go Go.RowKit Go.Proofs.Ytpebhbhdkmpjeaa.Gm Go.Proofs.Ytpebhbhdkmpjeaa.Gwa Go.Proofs.Ytpebhbhdkmpjeaa.Gwb Go.Proofs.Ytpebhbhdkmpjeaa.Q Go.Proofs.Ytpebhbhdkmpjeaa.Gput Go.Proofs.Ytpebhbhdkmpjeaa.Gputl Go.Proofs.YtpebhbhdkmpjeaaW.PrintWords Go.Proofs.YtpebhbhdkmpjeaaW.PrintLast Go.Proofs.YtpebhbhdkmpjeaaW.PrintMore
set_option linter.unusedVariables false

/-- So many numbers are read from an index on. -/
def rdN (l : List UInt8) : Nat → Int → List Int → List Int × Int × Int
  | 0, a, acc => (acc, a, 0)
  | n + 1, a, acc => if (intAt (B l) a).2.2 = 0 then rdN l n (intAt (B l) a).2.1 (acc ++ [(intAt (B l) a).1]) else ([], 0, (intAt (B l) a).2.2)

def listAt (l : List UInt8) (a most : Int) : List Int × Int × Int :=
  if (countAt l a most).2.2 = 0 then rdN l (countAt l a most).1.toNat (countAt l a most).2.1 [] else ([], 0, (countAt l a most).2.2)

theorem wire_List_l0 (l : List UInt8) (hs : l.length ≤ 17592186044416) : ∀ (d : Nat) (k : Nat) (a : Int) (acc : List Int) (n i : Nat), (l.length : Int) - a = d → 0 ≤ a → (acc.length : Int) ≤ a → i + d + 30 < 9223372036854775807 → i ≤ n → n ≤ 9223372036854775807 → d + 30 ≤ k →
    wire_List.l0 k (B l) a acc n i = some (rdN l (n - i) a acc) := by
  intro d
  induction d using Nat.strongRecOn with
  | _ d ih =>
  intro k a acc n i hd ha hacc hbig hin hn hk
  obtain ⟨k, rfl⟩ : ∃ m, k = m + 1 := ⟨k - 1, by omega⟩
  simp only [wire_List.l0]
  by_cases h : i < n
  · rw [if_pos (by omega), wire_Int_eq (B l) a k (by rw [B_size]; omega) (by omega), Option.bind_some]
    obtain ⟨m, hm⟩ : ∃ m, n - i = m + 1 := ⟨n - i - 1, by omega⟩
    rw [hm, rdN]
    rcases hi : intAt (B l) a with ⟨x, c, e⟩
    simp only
    by_cases he : e = 0
    · subst he
      obtain ⟨h1, h2, h3, -⟩ := intAt_ok hi
      rw [if_pos rfl, if_pos rfl, if_pos (by omega)]
      have := ih (l.length - c).toNat (by omega) k c (acc ++ [x]) n (i + 1) (by omega) (by omega) (by simp; omega) (by omega) (by omega) hn (by omega)
      rw [w64 (by omega), show ((i : Int) + 1) = ((i + 1 : Nat) : Int) by omega, this, show n - (i + 1) = m by omega]
    · rw [if_neg he, if_neg he]
  · rw [if_neg (by omega), show n - i = 0 by omega]
    rfl

theorem wire_List_eq (l : List UInt8) (a m : Int) (k : Nat) (hs : l.length ≤ 17592186044416) (hk : l.length + 30 ≤ k) : wire_List.f k (B l) a m = some (listAt l a m) := by
  unfold wire_List.f listAt
  rw [wire_count_eq l a m k (by omega) (by omega), Option.bind_some]
  rcases hc : countAt l a m with ⟨x, n, e⟩
  simp only
  by_cases he : e = 0
  · subst he
    obtain ⟨h1, h2, h3⟩ := countAt_ok hc
    obtain ⟨h4, h5, h6, h7, h8, h9, -⟩ := intAt_ok h1
    rw [if_pos rfl, if_pos rfl]
    have := wire_List_l0 l hs (l.length - n).toNat k n [] x.toNat 0 (by omega) (by omega) (by simp; omega) (by omega) (by omega) (by omega) (by omega)
    rw [show (x.toNat : Int) = x by omega] at this
    exact this
  · rw [if_neg he, if_neg he]

theorem ref_List_l0 (l : List UInt8) (hs : l.length ≤ 17592186044416) : ∀ (d : Nat) (k : Nat) (a : Int) (acc : List Int) (n : Int), (l.length : Int) - a = d → 0 ≤ a → (acc.length : Int) ≤ a → d + 40 ≤ k →
    storagebarterref01_List.l0 k (B l) n a acc = some (rdN l (n - acc.length).toNat a acc) := by
  intro d
  induction d using Nat.strongRecOn with
  | _ d ih =>
  intro k a acc n hd ha hacc hk
  obtain ⟨k, rfl⟩ : ∃ m, k = m + 1 := ⟨k - 1, by omega⟩
  simp only [storagebarterref01_List.l0]
  by_cases h : (acc.length : Int) < n
  · rw [if_pos h, ref_Int_eq (B l) a k (by rw [B_size]; omega) (by omega), Option.bind_some]
    obtain ⟨m, hm⟩ : ∃ m, (n - acc.length).toNat = m + 1 := ⟨(n - acc.length).toNat - 1, by omega⟩
    rw [hm, rdN]
    rcases hi : intAt (B l) a with ⟨x, c, e⟩
    simp only
    by_cases he : e = 0
    · subst he
      obtain ⟨h1, h2, h3, -⟩ := intAt_ok hi
      rw [if_pos rfl, if_pos rfl, if_pos (by omega)]
      have := ih (l.length - c).toNat (by omega) k c (acc ++ [x]) n (by omega) (by omega) (by simp; omega) (by omega)
      rw [this, show (n - ((acc ++ [x]).length : Int)).toNat = m by simp; omega]
    · rw [if_neg he, if_neg he]
  · rw [if_neg h, show (n - acc.length).toNat = 0 by omega]
    rfl

theorem ref_List_eq (l : List UInt8) (a m : Int) (k : Nat) (hs : l.length ≤ 17592186044416) (hk : l.length + 40 ≤ k) : storagebarterref01_List.f k (B l) a m = some (listAt l a m) := by
  unfold storagebarterref01_List.f listAt countAt
  rw [ref_Int_eq (B l) a k (by rw [B_size]; omega) (by omega), Option.bind_some]
  rcases hc : intAt (B l) a with ⟨x, n, e⟩
  simp only
  by_cases he : e = 0
  · subst he
    obtain ⟨h4, h5, h6, h7, h8, h9, -⟩ := intAt_ok hc
    simp only [if_true]
    by_cases h0 : x < 0
    · rw [if_pos h0]; simp only [if_pos h0]; rfl
    · rw [if_neg h0]; simp only [if_neg h0]
      by_cases h1 : x > m
      · rw [if_pos h1]; simp only [if_pos h1]; rfl
      · rw [if_neg h1]; simp only [if_neg h1, if_true]
        have := ref_List_l0 l hs (l.length - n).toNat k n [] x (by omega) (by omega) (by simp; omega) (by omega)
        rw [this]
        simp
  · rw [if_neg he]
    simp only [if_neg he]

theorem ref_PutList_l0 (k : Nat) (xs : List Int) (hw : ∀ x ∈ xs, (Lit.int .i64 x).wf = true) (hx : xs.length ≤ 140737488355328) : ∀ (d i : Nat) (l : List UInt8) (j : Nat), xs.length - i = d → i ≤ xs.length → l.length + 10 * d ≤ 9223372036854775000 → d + 20 ≤ j →
    storagebarterref01_PutList.l0 j (B l) xs xs.length i = some (B (l ++ (xs.drop i).flatMap putI)) := by
  intro d
  induction d with
  | zero =>
    intro i l j hd hi hl hj
    obtain ⟨j, rfl⟩ : ∃ m, j = m + 1 := ⟨j - 1, by omega⟩
    simp only [storagebarterref01_PutList.l0]
    rw [if_neg (by omega), List.drop_of_length_le (by omega), List.flatMap_nil, List.append_nil]
  | succ d ih =>
    intro i l j hd hi hl hj
    obtain ⟨j, rfl⟩ : ∃ m, j = m + 1 := ⟨j - 1, by omega⟩
    have hlt : i < xs.length := by omega
    have er : rd xs i = xs[i] := by simp [rd, List.getD, hlt]
    have hr := bounds_i64 (hw _ (List.getElem_mem hlt))
    have hp := putI_len hr
    simp only [storagebarterref01_PutList.l0]
    rw [if_pos (by omega), if_pos (by omega), if_pos (by omega), er, ref_PutInt_eq l _ j (by omega) hr (by omega), Option.bind_some, w64 (by omega), show ((i : Int) + 1) = ((i + 1 : Nat) : Int) by omega, ih (i + 1) _ j (by omega) (by omega) (by rw [List.length_append]; omega) (by omega), List.drop_eq_getElem_cons hlt, List.flatMap_cons, List.append_assoc]

theorem ref_PutList_eq (l : List UInt8) (xs : List Int) (k : Nat) (hw : ∀ x ∈ xs, (Lit.int .i64 x).wf = true) (hx : xs.length ≤ 140737488355328) (hl : l.length ≤ 140737488355328) (hk : xs.length + 20 ≤ k) : storagebarterref01_PutList.f k (B l) xs = some (B (l ++ putL xs)) := by
  unfold storagebarterref01_PutList.f
  have hr : -9223372036854775808 ≤ (xs.length : Int) ∧ (xs.length : Int) ≤ 9223372036854775807 := by omega
  have hp := putI_len hr
  rw [ref_PutInt_eq l _ k (by omega) hr (by omega), Option.bind_some]
  have := ref_PutList_l0 k xs hw hx xs.length 0 (l ++ putI xs.length) k (by omega) (by omega) (by rw [List.length_append]; omega) hk
  rw [show ((0 : Nat) : Int) = 0 from rfl] at this
  rw [this]
  simp [putL]

theorem wire_PutList_eq (l : List UInt8) (xs : List Int) (hw : ∀ x ∈ xs, (Lit.int .i64 x).wf = true) (hx : l.length + 10 * (xs.length + 1) ≤ 140737488355328) : wire_PutList.f (B l) xs = some (B (l ++ putL xs)) := by
  unfold wire_PutList.f
  rw [if_pos ⟨by rw [B_size]; exact hx, List.all_eq_true.2 hw⟩]
  rfl

theorem same_l0 (xs ys : List Int) (hl : xs.length = ys.length) (hx : xs.length ≤ 140737488355328) : ∀ (d i k : Nat), xs.length - i = d → i ≤ xs.length → d < k →
    storagebarterref01_Same.l0 k xs ys xs.length i = some (decide (xs.drop i = ys.drop i)) := by
  intro d
  induction d with
  | zero =>
    intro i k hd hi hk
    obtain ⟨k, rfl⟩ : ∃ m, k = m + 1 := ⟨k - 1, by omega⟩
    simp only [storagebarterref01_Same.l0]
    rw [if_neg (by omega), List.drop_of_length_le (by omega), List.drop_of_length_le (by omega)]
    simp
  | succ d ih =>
    intro i k hd hi hk
    obtain ⟨k, rfl⟩ : ∃ m, k = m + 1 := ⟨k - 1, by omega⟩
    have hlt : i < xs.length := by omega
    have hlt2 : i < ys.length := by omega
    have ex : rd xs i = xs[i] := by simp [rd, List.getD, hlt]
    have ey : rd ys i = ys[i] := by simp [rd, List.getD, hlt2]
    simp only [storagebarterref01_Same.l0]
    rw [if_pos (by omega), if_pos (by omega), if_pos (by omega), if_pos (by omega), ex, ey, List.drop_eq_getElem_cons hlt, List.drop_eq_getElem_cons hlt2]
    by_cases he : xs[i] = ys[i]
    · rw [if_pos he, w64 (by omega), show ((i : Int) + 1) = ((i + 1 : Nat) : Int) by omega, ih (i + 1) k (by omega) (by omega) (by omega)]
      simp only [List.cons.injEq, he, true_and]
    · rw [if_neg he]
      simp only [List.cons.injEq, he, false_and, decide_false]

theorem same_eq (xs ys : List Int) (k : Nat) (hx : xs.length ≤ 140737488355328) (hk : xs.length < k) : storagebarterref01_Same.f k xs ys = some (decide (xs = ys)) := by
  unfold storagebarterref01_Same.f
  by_cases hl : xs.length = ys.length
  · rw [if_pos (by omega)]
    have := same_l0 xs ys hl hx xs.length 0 k (by omega) (by omega) hk
    simpa using this
  · rw [if_neg (by omega)]
    have : xs ≠ ys := fun e => hl (by rw [e])
    simp [this]

/-- What was put as a list is read back. -/
theorem rdN_put (p q : List UInt8) : ∀ (xs : List Int) (pre : List UInt8) (acc : List Int), (∀ x ∈ xs, (Lit.int .i64 x).wf = true) → rdN (pre ++ (xs.flatMap putI ++ q)) xs.length pre.length acc = (acc ++ xs, ((pre.length + (xs.flatMap putI).length : Nat) : Int), 0)
  | [], pre, acc, _ => by simp [rdN]
  | x :: xs, pre, acc, hw => by
    have hr := bounds_i64 (hw x (by simp))
    have hi := intAt_put pre (xs.flatMap putI ++ q) x hr
    have ih := rdN_put p q xs (pre ++ putI x) (acc ++ [x]) (fun y hy => hw y (by simp [hy]))
    simp only [List.length_append, List.append_assoc] at ih
    simp only [List.length_cons, List.flatMap_cons, List.append_assoc, rdN]
    rw [hi]
    simp only [if_true]
    rw [ih]
    simp [Nat.add_assoc]

theorem listAt_put (p q : List UInt8) (xs : List Int) (most : Int) (hw : ∀ x ∈ xs, (Lit.int .i64 x).wf = true) (hx : xs.length ≤ 140737488355328) (hm : (xs.length : Int) ≤ most) : listAt (p ++ (putL xs ++ q)) p.length most = (xs, ((p.length + (putL xs).length : Nat) : Int), 0) := by
  have hr : -9223372036854775808 ≤ (xs.length : Int) ∧ (xs.length : Int) ≤ 9223372036854775807 := by omega
  have hi := intAt_put p (xs.flatMap putI ++ q) xs.length hr
  rw [show putL xs ++ q = putI xs.length ++ (xs.flatMap putI ++ q) by simp [putL]]
  have hc : countAt (p ++ (putI xs.length ++ (xs.flatMap putI ++ q))) p.length most = ((xs.length : Int), ((p.length + (putI xs.length).length : Nat) : Int), 0) := by
    unfold countAt
    rw [hi]
    simp only [if_true]
    rw [if_neg (by omega), if_neg (by omega)]
  unfold listAt
  rw [hc]
  simp only [if_true, Int.toNat_natCast]
  have := rdN_put p q xs (p ++ putI xs.length) [] hw
  simp only [List.length_append, List.append_assoc, List.nil_append] at this
  rw [this]
  simp [putL, Nat.add_assoc]

theorem textAt_put (p q t : List UInt8) (most : Int) (ht : t.length ≤ 140737488355328) (hm : (t.length : Int) ≤ most) : textAt (p ++ (putI t.length ++ (t ++ q))) p.length most = (B t, ((p.length + (putI t.length).length + t.length : Nat) : Int), 0) := by
  have hr : -9223372036854775808 ≤ (t.length : Int) ∧ (t.length : Int) ≤ 9223372036854775807 := by omega
  have hi := intAt_put p (t ++ q) t.length hr
  have hc : countAt (p ++ (putI t.length ++ (t ++ q))) p.length most = ((t.length : Int), ((p.length + (putI t.length).length : Nat) : Int), 0) := by
    unfold countAt
    rw [hi]
    simp only [if_true]
    rw [if_neg (by omega), if_neg (by omega)]
  unfold textAt
  rw [hc]
  simp only [if_true, Int.toNat_natCast]
  rw [if_neg (by simp; omega)]
  rw [← List.append_assoc p, ← List.length_append, List.drop_left, List.take_left]
  simp

/-- Bytes of a number that are cut: too short. -/
theorem intAt_cut (n : Int) (j : Nat) (hn : -9223372036854775808 ≤ n ∧ n ≤ 9223372036854775807) (hj : j < (putI n).length) : intAt (B ((putI n).take j)) 0 = (0, 0, 3) := by
  rw [intAt_B, if_neg (by simp)]
  have h := rdU_cut (zig n) 0 0 j (by omega) (by simpa using zig_range hn) hj
  unfold putI
  simp only [Int.toNat_zero, List.drop_zero]
  rw [h]
  rfl

theorem textAt_cut (t : List UInt8) (j : Nat) (most : Int) (ht : t.length ≤ 140737488355328) (hm : (t.length : Int) ≤ most) (hj : j < (putI t.length ++ t).length) : (textAt ((putI t.length ++ t).take j) 0 most).2.2 = 3 := by
  rw [List.length_append] at hj
  have hr : -9223372036854775808 ≤ (t.length : Int) ∧ (t.length : Int) ≤ 9223372036854775807 := by omega
  rcases Nat.lt_or_ge j (putI t.length).length with h | h
  · have hi := intAt_cut t.length j hr h
    rw [List.take_append_of_le_length (by omega)]
    unfold textAt countAt
    rw [hi]
    simp
  · rw [List.take_append, List.take_of_length_le h]
    have hi := intAt_put [] (t.take (j - (putI t.length).length)) t.length hr
    simp only [List.nil_append, List.length_nil, Nat.zero_add] at hi
    rw [show ((0 : Nat) : Int) = 0 from rfl] at hi
    have hc : countAt (putI t.length ++ t.take (j - (putI t.length).length)) 0 most = ((t.length : Int), (((putI t.length).length : Nat) : Int), 0) := by
      unfold countAt
      rw [hi]
      simp only [if_true]
      rw [if_neg (by omega), if_neg (by omega)]
    unfold textAt
    rw [hc]
    simp only [if_true]
    rw [if_pos (show (t.length : Int) > (((putI t.length ++ t.take (j - (putI t.length).length)).length : Nat) : Int) - (((putI t.length).length : Nat) : Int) by rw [List.length_append, List.length_take]; omega)]

theorem rdN_cut : ∀ (xs : List Int) (pre : List UInt8) (acc : List Int) (j : Nat), (∀ x ∈ xs, (Lit.int .i64 x).wf = true) → j < (xs.flatMap putI).length → (rdN (pre ++ (xs.flatMap putI).take j) xs.length pre.length acc).2.2 = 3
  | [], pre, acc, j, _, hj => by simp at hj
  | x :: xs, pre, acc, j, hw, hj => by
    have hr := bounds_i64 (hw x (by simp))
    simp only [List.flatMap_cons, List.length_cons, rdN] at hj ⊢
    rcases Nat.lt_or_ge j (putI x).length with h | h
    · rw [List.take_append_of_le_length (by omega)]
      have hi : intAt (B (pre ++ (putI x).take j)) pre.length = (0, 0, 3) := by
        have h0 := intAt_cut x j hr h
        rw [intAt_B, if_neg (by simp)] at h0
        rw [intAt_B, if_neg (by simp; omega)]
        simp only [Int.toNat_natCast, List.drop_left', Int.toNat_zero, List.drop_zero] at h0 ⊢
        rcases hz : rdU 0 0 ((putI x).take j) with ⟨u, c, e⟩
        have h3 := rdU_cut (zig x) 0 0 j (by omega) (by simpa using zig_range hr) h
        unfold putI at hz
        rw [h3] at hz
        simp only [Prod.mk.injEq] at hz
        obtain ⟨rfl, rfl, rfl⟩ := hz
        rfl
      rw [hi]
      simp
    · rw [List.take_append, List.take_of_length_le h]
      have hi := intAt_put pre ((xs.flatMap putI).take (j - (putI x).length)) x hr
      rw [hi]
      simp only [if_true]
      have ih := rdN_cut xs (pre ++ putI x) (acc ++ [x]) (j - (putI x).length) (fun y hy => hw y (by simp [hy])) (by rw [List.length_append] at hj; omega)
      simp only [List.length_append, List.append_assoc] at ih
      exact ih

theorem listAt_cut (xs : List Int) (j : Nat) (most : Int) (hw : ∀ x ∈ xs, (Lit.int .i64 x).wf = true) (hx : xs.length ≤ 140737488355328) (hm : (xs.length : Int) ≤ most) (hj : j < (putL xs).length) : (listAt ((putL xs).take j) 0 most).2.2 = 3 := by
  have hr : -9223372036854775808 ≤ (xs.length : Int) ∧ (xs.length : Int) ≤ 9223372036854775807 := by omega
  unfold putL at hj ⊢
  rw [List.length_append] at hj
  rcases Nat.lt_or_ge j (putI xs.length).length with h | h
  · have hi := intAt_cut xs.length j hr h
    rw [List.take_append_of_le_length (by omega)]
    unfold listAt countAt
    rw [hi]
    simp
  · rw [List.take_append, List.take_of_length_le h]
    have hi := intAt_put [] ((xs.flatMap putI).take (j - (putI xs.length).length)) xs.length hr
    simp only [List.nil_append, List.length_nil, Nat.zero_add] at hi
    rw [show ((0 : Nat) : Int) = 0 from rfl] at hi
    have hc : countAt (putI xs.length ++ (xs.flatMap putI).take (j - (putI xs.length).length)) 0 most = ((xs.length : Int), (((putI xs.length).length : Nat) : Int), 0) := by
      unfold countAt
      rw [hi]
      simp only [if_true]
      rw [if_neg (by omega), if_neg (by omega)]
    unfold listAt
    rw [hc]
    simp only [if_true, Int.toNat_natCast]
    exact rdN_cut xs (putI xs.length) [] _ hw (by omega)

end Go.Proofs.Ytpebhbhdkmpjeaa.Gwd

/- What was put is read back, whatever stands before and behind it: for all texts, numbers and lists that are together of at most 1048576 values and letters. -/
namespace Go.Proofs.Ytpebhbhdkmpjeaa.Pure
open Go Go.RowKit Go.Proofs.Ytpebhbhdkmpjeaa.Gm Go.Proofs.Ytpebhbhdkmpjeaa.Gwa Go.Proofs.Ytpebhbhdkmpjeaa.Gwb Go.Proofs.Ytpebhbhdkmpjeaa.Gwc Go.Proofs.Ytpebhbhdkmpjeaa.Gwd Go.Proofs.Ytpebhbhdkmpjeaa.Q Go.Proofs.Ytpebhbhdkmpjeaa.Gput Go.Proofs.Ytpebhbhdkmpjeaa.Gputl Go.Proofs.YtpebhbhdkmpjeaaW.PrintWords Go.Proofs.YtpebhbhdkmpjeaaW.PrintLast

theorem WireBackU : ∀ (a0 : ByteArray) (a1 : ByteArray) (a2 : ByteArray) (a3 : Int) (l4 : List Int), (Lit.int .i64 a3).wf = true → (∀ x ∈ l4, (Lit.int .i64 x).wf = true) → a0.size + a1.size + a2.size + l4.length ≤ 1048576 → ∃ k, storagebarterlaw01_WireBack.f k a0 a1 a2 a3 l4 = some true := by
  intro a0 a1 a2 n l hn hl hsz
  obtain ⟨p, rfl⟩ := exB a0
  obtain ⟨q, rfl⟩ := exB a1
  obtain ⟨t, rfl⟩ := exB a2
  rw [B_size, B_size, B_size] at hsz
  have hr := bounds_i64 hn
  have hp := putI_len hr
  have hrt : -9223372036854775808 ≤ (t.length : Int) ∧ (t.length : Int) ≤ 9223372036854775807 := by omega
  have hpt := putI_len hrt
  have hrl : -9223372036854775808 ≤ (l.length : Int) ∧ (l.length : Int) ≤ 9223372036854775807 := by omega
  have hplen : (putL l).length ≤ 10 * (l.length + 1) := by
    have h1 := putI_len hrl
    have h2 := Gputl.flat_len l (List.all_eq_true.2 hl) l.length
    rw [List.take_length] at h2
    unfold putL
    rw [List.length_append]
    omega
  refine ⟨20000000, ?_⟩
  unfold storagebarterlaw01_WireBack.f
  rw [law01_sane _ (by omega), Option.bind_some, if_pos rfl, wire_PutInt_eq p n (by omega) hr, Option.bind_some, wire_PutText_eq _ t (by rw [List.length_append]; omega) (by omega), Option.bind_some,
    wire_PutList_eq _ l hl (by simp only [List.length_append]; omega), Option.bind_some, if_pos (by rw [B_size, B_size]; simp only [List.length_append]; omega), B_append]
  have ew : p ++ putI n ++ (putI t.length ++ t) ++ putL l ++ q = p ++ (putI n ++ (putI t.length ++ (t ++ (putL l ++ q)))) := by simp
  rw [ew, B_size]
  have hlen : (p ++ (putI n ++ (putI t.length ++ (t ++ (putL l ++ q))))).length ≤ 15000000 := by simp only [List.length_append]; omega
  rw [wire_Int_eq _ _ _ (by rw [B_size]; omega) (by omega), Option.bind_some, intAt_put p _ n hr]
  simp only
  have e2 : p ++ (putI n ++ (putI t.length ++ (t ++ (putL l ++ q)))) = (p ++ putI n) ++ (putI t.length ++ (t ++ (putL l ++ q))) := by simp
  have e3 : p ++ (putI n ++ (putI t.length ++ (t ++ (putL l ++ q)))) = (p ++ putI n ++ putI t.length ++ t) ++ (putL l ++ q) := by simp
  have ht := textAt_put (p ++ putI n) (putL l ++ q) t t.length (by omega) (by omega)
  rw [← e2, List.length_append] at ht
  rw [B_size, wire_Text_eq _ _ _ _ (by omega) (by omega), Option.bind_some, ht]
  simp only
  have hL := listAt_put (p ++ putI n ++ putI t.length ++ t) q l l.length hl (by omega) (by omega)
  rw [← e3] at hL
  simp only [List.length_append] at hL
  rw [wire_List_eq _ _ _ _ (by omega) (by omega), Option.bind_some, hL]
  simp only [if_true]
  rw [same_eq _ _ _ (by omega) (by omega), Option.bind_some]
  simp only [decide_true, if_true]
  have e4 : p ++ (putI n ++ (putI t.length ++ (t ++ (putL l ++ q)))) = (p ++ putI n ++ putI t.length ++ t ++ putL l) ++ q := by simp
  have e5 : p.length + (putI n).length + (putI t.length).length + t.length + (putL l).length = (p ++ putI n ++ putI t.length ++ t ++ putL l).length := by simp only [List.length_append]
  have e6 : ((B (p ++ (putI n ++ (putI t.length ++ (t ++ (putL l ++ q)))))).extract ((((p.length + (putI n).length + (putI t.length).length + t.length + (putL l).length : Nat) : Int)).toNat) (B (p ++ (putI n ++ (putI t.length ++ (t ++ (putL l ++ q)))))).size).toList = (B q).toList := by
    rw [B_extract, B_toList, B_toList, Int.toNat_natCast, B_size, List.take_length, e4, e5, List.drop_left]
  have hz : (B (p ++ (putI n ++ (putI t.length ++ (t ++ (putL l ++ q)))))).size = p.length + (putI n).length + (putI t.length).length + t.length + (putL l).length + q.length := by
    rw [B_size]; simp only [List.length_append]; omega
  rw [if_pos (show (0 : Int) ≤ ((p.length + (putI n).length + (putI t.length).length + t.length + (putL l).length : Nat) : Int) by omega), if_pos (show ((p.length + (putI n).length + (putI t.length).length + t.length + (putL l).length : Nat) : Int) ≤ ((B (p ++ (putI n ++ (putI t.length ++ (t ++ (putL l ++ q)))))).size : Int) by omega), if_pos e6,
    if_pos (show ((B (p ++ (putI n ++ (putI t.length ++ (t ++ (putL l ++ q)))))).size : Int) ≥ (p.length : Int) by omega), if_pos (show (0 : Int) ≤ (p.length : Int) by omega), if_pos (show (p.length : Int) ≤ ((B (p ++ (putI n ++ (putI t.length ++ (t ++ (putL l ++ q)))))).size : Int) by omega),
    B_extract, B_toList, Int.toNat_natCast, List.take_left, B_toList]
  simp

end Go.Proofs.Ytpebhbhdkmpjeaa.Pure

namespace Go.Proofs.Ytpebhbhdkmpjeaa.wireBackU
open Go.Proofs.YtpebhbhdkmpjeaaW Go.Proofs.YtpebhbhdkmpjeaaW.PrintWords Go.Proofs.Ytpebhbhdkmpjeaa.Q Go.ChangeShapes Go.WideShapes Go.ChangeAt Go.RowKit
open Go.ChangeMaps (open_string shut_string)
set_option linter.unusedVariables false
theorem own : ownKnob Try.prog.godebug = none := by kernel_rfl
theorem laidOut : laidOutB Try.prog = true := by kernel_rfl
def IsRow (k : IntKind) (w : World) (a : Option Addr) (len cap : Nat) (zs : List Int) : Prop :=
  (a = none ∧ len = 0 ∧ cap = 0 ∧ zs = []) ∨
  ∃ x, a = some x ∧ len ≤ cap ∧ cap ≤ maxLen ∧ zs.length = cap ∧ (∀ i, i < zs.length → w.cell? (x.add i) = some (.int k (zs.getD i 0))) ∧ ∀ n ∈ zs, (Lit.int k n).wf = true
theorem bulk_one {H : Type} (d : DataW H) : 1 ≤ Rows.uptoBulk d := by
  cases d with
  | lit l => cases l <;> simp [Rows.uptoBulk]
  | nil => simp [Rows.uptoBulk]
  | ptr d => simp [Rows.uptoBulk]
  | slice elems spare => simp [Rows.uptoBulk]
  | agg parts => simp [Rows.uptoBulk]
  | iface t d => simp [Rows.uptoBulk]
  | map entries => simp [Rows.uptoBulk]
  | held h => simp [Rows.uptoBulk]
theorem bulk_len {H : Type} (l : List (DataW H)) : l.length ≤ Rows.uptoBulkAll l := by
  induction l with
  | nil => simp [Rows.uptoBulkAll]
  | cons x r ih => have := bulk_one x; simp only [Rows.uptoBulkAll, List.length_cons]; omega
theorem bulk_slice {H : Type} (elems spare : List (DataW H)) : elems.length ≤ Rows.uptoBulk (.slice elems spare) := by
  have h1 := bulk_len elems
  simp only [Rows.uptoBulk]
  omega
theorem walkU (P : ∀ (a0 : ByteArray) (a1 : ByteArray) (a2 : ByteArray) (a3 : Int) (l4 : List Int), (Lit.int .i64 a3).wf = true → (∀ x ∈ l4, (Lit.int .i64 x).wf = true) → a0.size + a1.size + a2.size + l4.length ≤ 1048576 → ∃ k, storagebarterlaw01_WireBack.f k a0 a1 a2 a3 l4 = some true) (a0 : ByteArray) (a1 : ByteArray) (a2 : ByteArray) (a3 : Int) (a4 : Option Addr) (len4 cap4 : Nat) (z4 : List Int) (w : World) (w0 : a0.size ≤ 140737488351232) (w1 : a1.size ≤ 140737488351232) (w2 : a2.size ≤ 140737488351232) (w3 : (Lit.int .i64 a3).wf = true) (w4 : IsRow .i64 w a4 len4 cap4 z4) (y4 : len4 * 8 ≤ 140737488351232) (hku : a0.size + a1.size + a2.size + len4 ≤ 1048576) :
    Calls Try.prog 8 #[.string a0, .string a1, .string a2, .int .i64 a3, .slice a4 len4 cap4] w fun e w' => e = .returned (.bool true) ∧ Below w.heap.size w w' := by
  obtain ⟨l4, rfl, hr4, hm4, hw4, hc4⟩ := PrintWords.ReadsInt.ofRowC w4
  obtain ⟨k, h⟩ := P a0 a1 a2 a3 l4 w3 hw4 hku
  refine (Q.storagebarterlaw01_WireBack.calls k a0 a1 a2 a3 _ _ l4 true w (PrintWords.Kd.C_of_reads (d := (0 : Int)) (h1 := fun _ => rfl) hr4) hc4 h).mono ?_
  rintro e w' ⟨rfl, hd⟩
  exact ⟨rfl, hd⟩
set_option maxRecDepth 100000 in
theorem lifted (os : Os) (started : os.Started) (H : Type) (enc : TypeId × Value → H) (F : Stop.Interp) :
    ReturnsInHanded {} Try.checked os 8 .any ((Rows.OpenSpec.upto Rows.wireBackSpec).pre6 enc Try.prog Try.f8 Rows.wireBackUptoRow.domain false) (((Rows.OpenSpec.upto Rows.wireBackSpec).at F).post enc Try.prog Try.f8 false true false false) := by
  refine returnsInHanded_of_cond_sized (C := Try.checked) (s := (Rows.OpenSpec.upto Rows.wireBackSpec)) (k := Rows.uptoSmall) rfl own started (by kernel_rfl) Try.func8
    (OpenSpec.witness (enc := enc) (C := Try.checked) (s := (Rows.OpenSpec.upto Rows.wireBackSpec)) (k := Rows.uptoSmall) rfl false ⟨#[], #[.string ByteArray.empty, .string ByteArray.empty, .string ByteArray.empty, .int .i64 0, .slice none 0 0], []⟩ 8 (by kernel_rfl) (by kernel_rfl) (by kernel_rfl) (x := ([.lit (.string []), .lit (.string []), .lit (.string []), .lit (.int .i64 0), .nil], [], [])) (by kernel_rfl) rfl (by kernel_rfl)) ?_
  intro W base args ds gs before hval0 hW hcnd hk0 hsz0 _
  have hsz : (DataW.weightsEach Try.prog (Try.f8.params.toList ++ Rows.wireBackSpec.plain.varTypes Try.prog) (ds ++ gs)).all (· ≤ reachBytes) = true := hsz0
  have hval : ∀ (j : Nat) t v, Try.f8.params[j]? = some t → args[j]? = some v → Value.okWide Try.prog W .any base t v := hval0
  have hW' := hW
  obtain ⟨p, q, hA0, hV, rfl, hfz, hnd⟩ := hW
  have hA : DataW.TrodAll enc Try.prog W 0 (fun _ => true) true Try.f8.params.toList args.toList ds p := hA0
  rw [Try.params8] at hA hval hsz
  obtain ⟨v0, vs0, d0, ds0, p0, q0, hargs, rfl, rfl, h0, r0⟩ := trodAll_cons hA
  obtain ⟨v1, vs1, d1, ds1, p1, q1, rfl, rfl, rfl, h1, r1⟩ := trodAll_cons r0
  obtain ⟨v2, vs2, d2, ds2, p2, q2, rfl, rfl, rfl, h2, r2⟩ := trodAll_cons r1
  obtain ⟨v3, vs3, d3, ds3, p3, q3, rfl, rfl, rfl, h3, r3⟩ := trodAll_cons r2
  obtain ⟨v4, vs4, d4, ds4, p4, q4, rfl, rfl, rfl, h4, r4⟩ := trodAll_cons r3
  obtain ⟨rfl, rfl, rfl⟩ := trodAll_nil r4
  obtain rfl : args = #[v0, v1, v2, v3, v4] := by cases args; simp_all
  obtain ⟨rfl, rfl⟩ := trodVars_none hV
  obtain ⟨a0, rfl, rfl, rfl, y0⟩ := open_string Try.underlying9 (hval 0 9 v0 rfl rfl) h0
  have w0 : a0.size ≤ 140737488351232 := by
    have z := sized_string hsz (j := 0) (t := 9) rfl rfl
    rw [Array.length_toList] at z
    exact z
  obtain ⟨a1, rfl, rfl, rfl, y1⟩ := open_string Try.underlying9 (hval 1 9 v1 rfl rfl) h1
  have w1 : a1.size ≤ 140737488351232 := by
    have z := sized_string hsz (j := 1) (t := 9) rfl rfl
    rw [Array.length_toList] at z
    exact z
  obtain ⟨a2, rfl, rfl, rfl, y2⟩ := open_string Try.underlying9 (hval 2 9 v2 rfl rfl) h2
  have w2 : a2.size ≤ 140737488351232 := by
    have z := sized_string hsz (j := 2) (t := 9) rfl rfl
    rw [Array.length_toList] at z
    exact z
  obtain ⟨a3, rfl, rfl, rfl, w3⟩ := open_int Try.underlying3 (hval 3 3 v3 rfl rfl) h3
  obtain ⟨a4, len4, cap4, rfl⟩ := okWide_slice Try.underlying27 (hval 4 27 v4 rfl rfl)
  have k4 := h4
  have lt4 : ∀ x ∈ p4, x.block < W.heap.size := by obtain ⟨m, hm⟩ := k4; exact DataW.trod_lt m _ _ _ hm
  have hb4 : len4 ≤ Rows.uptoBulk d4 := by
    obtain ⟨fuel, hf⟩ := h4
    rcases open_ints Try.underlying27 Try.underlying3 (by kernel_rfl) hf with ⟨hcs, _⟩ | ⟨x, l, c, zs, hcs, _, hl, hm, hz, hx, hcell, hwz⟩
    · simp [Value.cells] at hcs
      obtain ⟨rfl, rfl, rfl⟩ := hcs
      exact Nat.zero_le _
    · simp [Value.cells] at hcs
      obtain ⟨rfl, rfl, rfl⟩ := hcs
      have hzl : zs.length = cap4 := by simpa using hz
      simp only [Prod.mk.injEq] at hx
      obtain ⟨rfl, _⟩ := hx
      have hq := bulk_slice (lits .i64 (zs.take len4) : List (DataW H)) (lits .i64 (zs.drop len4))
      have hq2 : (lits .i64 (zs.take len4) : List (DataW H)).length = len4 := by simp [lits, hzl]; omega
      omega
  obtain ⟨z4, w4⟩ : ∃ zs, IsRow .i64 W a4 len4 cap4 zs := by
    obtain ⟨fuel, hf⟩ := h4
    rcases open_ints Try.underlying27 Try.underlying3 (by kernel_rfl) hf with ⟨hcs, _⟩ | ⟨x, l, c, zs, hcs, _, hl, hm, hz, _, hcell, hwz⟩
    · simp [Value.cells] at hcs
      obtain ⟨rfl, rfl, rfl⟩ := hcs
      exact ⟨[], .inl ⟨rfl, rfl, rfl, rfl⟩⟩
    · simp [Value.cells] at hcs
      obtain ⟨rfl, rfl, rfl⟩ := hcs
      exact ⟨zs, .inr ⟨_, rfl, hl, hm, by simpa using hz, hcell, hwz⟩⟩
  have y4 : len4 * 8 ≤ 140737488351232 := PrintWords.sized_ints hsz (j := 4) (t := 27) rfl rfl Try.underlying27 Try.underlying3 (by kernel_rfl) (by kernel_rfl) h4
  have hk1 : Rows.uptoSmall H [.lit (.string a0.data.toList), .lit (.string a1.data.toList), .lit (.string a2.data.toList), .lit (.int .i64 a3), d4] = true := by simpa only [List.append_nil] using hk0
  have hkb := of_decide_eq_true hk1
  simp only [Rows.uptoBulkAll, Rows.uptoBulk, Array.length_toList] at hkb
  have hku : a0.size + a1.size + a2.size + len4 ≤ 1048576 := by
    have z0_ : a0.data.size = a0.size := rfl; have z1_ : a1.data.size = a1.size := rfl; have z2_ : a2.data.size = a2.size := rfl; omega
  clear hA0 hval0 hsz0 hsz hk0 hkb
  refine (walkU Pure.WireBackU a0 a1 a2 a3 a4 len4 cap4 z4 W w0 w1 w2 w3 w4 y4 hku).mono fun e W' ⟨he, bel⟩ => ?_
  subst he
  exact ⟨_, rfl, _, _, _, [], _, [], hW', trodAll_mk1 (shut_bool Try.underlying4 _), (trodAll_cons_mk (shut_string Try.underlying9 y0) (trodAll_cons_mk (shut_string Try.underlying9 y1) (trodAll_cons_mk (shut_string Try.underlying9 y2) (trodAll_cons_mk (shut_int Try.underlying3 w3) (trodAll_cons_mk (Below.trod laidOut (by kernel_rfl) (of_decide_eq_true (by kernel_rfl)) k4 bel lt4) trodAll_mk0))))), rfl, bel.frame _, fun h => by cases h⟩
theorem over : Rows.wireBackUptoRow.holds Try.pinned (Rows.OpenSpec.upto Rows.wireBackSpec) :=
  OpenClaim.holds_of_cond 8 Try.f8 rfl rfl rfl rfl rfl rfl rfl ⟨rfl, rfl, rfl, rfl, rfl⟩ rfl rfl rfl rfl rfl (by kernel_rfl) Try.func8 (by kernel_rfl)
    (of_decide_eq_true (by kernel_rfl)) (by unfold Func.isWrapper; first | (rw [if_pos (by decide +kernel)]; kernel_rfl) | (rw [if_neg (by decide +kernel)]; exact ⟨rfl, rfl⟩))
    (fun os started H enc _ F => lifted os started H enc F)
theorem proved : Rows.WireBackUptoSaid := over
#print axioms proved
end Go.Proofs.Ytpebhbhdkmpjeaa.wireBackU
namespace Go.Proofs.Ytpebhbhdkmpjeaa
/-- The row, under a short name, for the claim. -/
theorem wireBackU_holds : Rows.WireBackUptoSaid := wireBackU.proved
end Go.Proofs.Ytpebhbhdkmpjeaa
