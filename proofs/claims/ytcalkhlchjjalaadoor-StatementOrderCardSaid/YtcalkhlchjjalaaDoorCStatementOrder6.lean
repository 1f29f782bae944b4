/- StatementOrderCardSaid -/
import Derived.Test.YtcalkhlchjjalaaDoorCStatementOrder4
import Derived.Test.YtcalkhlchjjalaaDoorCStatementOrder5
import Derived.Test.YtcalkhlchjjalaaDoorCStatementOrder3
import Derived.Deep.DeepCutAuto
import Derived.IntWalk
import Derived.Deep.RegionHeld3
import Derived.Deep.CutBlock
import Derived.Deep.QuietTactic
import Derived.BigQuiet
import Derived.BigRegion
import Derived.StillTailTactics
import Derived.Laws.CopyOwn
namespace Go.Proofs.YtcalkhlchjjalaaDoor.Grv
open Go Go.RowKit Go.Proofs Go.Proofs.YtcalkhlchjjalaaDoor.Gm Go.Proofs.YtcalkhlchjjalaaDoor.Gdm Go.Proofs.YtcalkhlchjjalaaDoor.Gmr Go.Proofs.YtcalkhlchjjalaaDoor.Gsy Go.Proofs.YtcalkhlchjjalaaDoor.Gnx Go.Proofs.YtcalkhlchjjalaaDoor.Gck Go.Proofs.YtcalkhlchjjalaaDoor.Ggd Go.Proofs.YtcalkhlchjjalaaDoor.Q
set_option linter.unusedVariables false
theorem in_eq (a b c : Int) : storagebarterref15_in.f a b c = some (hold b c a) := by
 unfold storagebarterref15_in.f hold
 by_cases h : a ≥ b
 ·rw [if_pos h, decide_eq_true (show b ≤ a from h), Bool.true_and]
 ·rw [if_neg h, decide_eq_false (show ¬ b ≤ a from h), Bool.false_and]
def lockB (d : Int) : Bool := decide (1 ≤ d) && (decide (d % 3 = 1) && decide (d / 3 < 4294967294))
theorem lock_eq (d : Int) (h : I64 d) : storagebarterref15_lock.f d = some (lockB d) := by
 unfold storagebarterref15_lock.f lockB
 unfold I64 at h
 by_cases h1 : d ≥ 1
 ·rw [if_pos h1, decide_eq_true (show 1 ≤ d from h1), Bool.true_and, Int.tmod_eq_emod_of_nonneg (by omega), Int.tdiv_eq_ediv_of_nonneg (by omega), w64 (by omega)]
  by_cases h2 : d % 3 = 1
  ·rw [if_pos h2, decide_eq_true h2, Bool.true_and]
  ·rw [if_neg h2, decide_eq_false h2, Bool.false_and]
 ·rw [if_neg h1, decide_eq_false (show ¬ 1 ≤ d from h1), Bool.false_and]
theorem ite_b {α : Type} (F : Bool → α) (b x : Bool) : (if b = true then F x else F false) = F (b && x) := by cases b <;> rfl
theorem ite_p {α : Type} (F : Bool → α) (p : Prop) [Decidable p] (x : Bool) : (if p then F x else F false) = F (decide p && x) := by by_cases h : p <;> simp [h]
def partB (kind tick a b c d : Int) : Bool :=
 let slot := hold 0 63 a
 let name := hold 0 2147483646 b && hold 1 1024 c
 let term := hold (tick + 1) (tick + 65536) d && decide (d ≤ 1048576)
 let none := decide (b = 0) && (c == 0)
 if kind = 1 then slot && (name && term)
 else if kind = 2 then slot && (none && term)
 else if kind = 3 ∨ kind = 5 then slot && (none && d == 0)
 else if kind = 4 then slot && (name && d == 0)
 else if kind = 6 then hold 0 2147483646 a && (hold 0 2147483646 b && (hold 0 256 c && d == 0))
 else if kind = 7 then hold 0 2147483646 a && (name && lockB d)
 else if kind = 8 then hold 0 2147483646 a && (hold 0 4294967293 b && (c == 0 && d == 0))
 else false
theorem j3_eq (k : Nat) (sl nm no : Bool) (kind : Int) (f0 f1 f2 f3 tick a b c d f10 : Int) (hd : I64 d) (h1 : kind ≠ 1) (h2 : kind ≠ 2) (x : Bool) (hx : x = decide (kind = 3 ∨ kind = 5)) :
 storagebarterref15_parts.j3 (k + 1) sl nm no kind x f0 f1 f2 f3 tick kind a b c d f10 = some (
  if kind = 3 ∨ kind = 5 then sl && (no && d == 0)
  else if kind = 4 then sl && (nm && d == 0)
  else if kind = 6 then hold 0 2147483646 a && (hold 0 2147483646 b && (hold 0 256 c && d == 0))
  else if kind = 7 then hold 0 2147483646 a && (nm && lockB d)
  else if kind = 8 then hold 0 2147483646 a && (hold 0 4294967293 b && (c == 0 && d == 0))
  else false) := by
 rw [storagebarterref15_parts.j3]
 simp only [in_eq, lock_eq d hd, Option.bind_some]
 subst hx
 by_cases h : kind = 3 ∨ kind = 5
 ·rw [if_pos (decide_eq_true h), if_pos h]; cases sl <;> cases no <;> simp
 rw [if_neg (by rw [decide_eq_false h]; simp), if_neg h]
 by_cases h : kind = 4
 ·rw [if_pos h, if_pos h]; cases sl <;> cases nm <;> simp
 rw [if_neg h, if_neg h]
 by_cases h : kind = 6
 ·rw [if_pos h, if_pos h]; cases hold 0 2147483646 a <;> cases hold 0 2147483646 b <;> cases hold 0 256 c <;> simp
 rw [if_neg h, if_neg h]
 by_cases h : kind = 7
 ·rw [if_pos h, if_pos h]; cases hold 0 2147483646 a <;> cases nm <;> simp
 rw [if_neg h, if_neg h]
 by_cases h : kind = 8
 ·rw [if_pos h, if_pos h]
  by_cases hc : c = 0
  ·cases hold 0 2147483646 a <;> cases hold 0 4294967293 b <;> simp [hc]
  ·cases hold 0 2147483646 a <;> cases hold 0 4294967293 b <;> simp [hc]
 rw [if_neg h, if_neg h]
theorem parts_eq (k : Nat) (f0 f1 f2 f3 tick kind a b c d f10 : Int) (ht : 0 ≤ tick ∧ tick ≤ 1048576) (hd : I64 d) :
 storagebarterref15_parts.f (k + 4) f0 f1 f2 f3 tick kind a b c d f10 = some (partB kind tick a b c d) := by
 unfold storagebarterref15_parts.f
 simp only [in_eq, Option.bind_some]
 rw [ite_b (fun x => storagebarterref15_parts.j0 (k + 4) (hold 0 63 a) x f0 f1 f2 f3 tick kind a b c d f10)]
 rw [storagebarterref15_parts.j0]
 simp only [in_eq, Option.bind_some]
 rw [ite_b (fun x => storagebarterref15_parts.j1 (k + 3) (hold 0 63 a) (hold 0 2147483646 b && hold 1 1024 c) x f0 f1 f2 f3 tick kind a b c d f10), w64 (by omega), w64 (by omega)]
 rw [storagebarterref15_parts.j1]
 rw [ite_p (fun x => storagebarterref15_parts.j2 (k + 2) (hold 0 63 a) (hold 0 2147483646 b && hold 1 1024 c) (hold (tick + 1) (tick + 65536) d && decide (d ≤ 1048576)) x f0 f1 f2 f3 tick kind a b c d f10)]
 rw [storagebarterref15_parts.j2]
 unfold partB
 simp only
 generalize hold 0 63 a = sl
 generalize (hold 0 2147483646 b && hold 1 1024 c) = nm
 generalize (hold (tick + 1) (tick + 65536) d && decide (d ≤ 1048576)) = te
 generalize (decide (b = 0) && (c == 0)) = no
 by_cases h1 : kind = 1
 ·rw [if_pos h1, if_pos h1]; cases sl <;> cases nm <;> simp
 rw [if_neg h1, if_neg h1]
 by_cases h2 : kind = 2
 ·rw [if_pos h2, if_pos h2]; cases sl <;> cases no <;> simp
 rw [if_neg h2, if_neg h2]
 by_cases h3 : kind = 3
 ·rw [if_pos h3, j3_eq _ _ _ _ _ _ _ _ _ _ _ _ _ _ _ hd h1 h2 _ (by simp [h3])]
 ·rw [if_neg h3, j3_eq _ _ _ _ _ _ _ _ _ _ _ _ _ _ _ hd h1 h2 _ (by simp [h3]; exact Bool.beq_eq_decide_eq _ _)]
theorem partB_fits (kind tick a b c d : Int) (ht : 0 ≤ tick ∧ tick ≤ 1048576) (hd : I64 d) : partB kind tick a b c d = fitsB kind tick a b c d := by
 unfold I64 at hd
 by_cases hk : kind < 1 ∨ 9 ≤ kind
 ·unfold partB fitsB
  rw [if_pos hk]
  simp only
  rw [if_neg (by omega), if_neg (by omega), if_neg (by omega), if_neg (by omega), if_neg (by omega), if_neg (by omega), if_neg (by omega)]
 obtain rfl | rfl | rfl | rfl | rfl | rfl | rfl | rfl : kind = 1 ∨ kind = 2 ∨ kind = 3 ∨ kind = 4 ∨ kind = 5 ∨ kind = 6 ∨ kind = 7 ∨ kind = 8 := by omega
 all_goals
  unfold partB fitsB
  rw [if_neg hk]
  simp only [show (1 : Int).toNat = 1 from rfl, show (2 : Int).toNat = 2 from rfl, show (3 : Int).toNat = 3 from rfl, show (4 : Int).toNat = 4 from rfl, show (5 : Int).toNat = 5 from rfl, show (6 : Int).toNat = 6 from rfl, show (7 : Int).toNat = 7 from rfl, show (8 : Int).toNat = 8 from rfl, fm]
  unfold tailB
  simp only [Int.reduceEq, if_false, if_true, or_false, or_true, Bool.false_eq_true]
 ·by_cases h : d < 0 ∨ 1048576 < d
  ·rw [if_pos h, Bool.eq_iff_iff]; simp [hold_iff]; omega
  ·rw [if_neg h, Bool.eq_iff_iff]; simp [hold_iff]; omega
 ·by_cases h : d < 0 ∨ 1048576 < d
  ·rw [if_pos h, Bool.eq_iff_iff]; simp [hold_iff]; omega
  ·rw [if_neg h, Bool.eq_iff_iff]; simp [hold_iff]; omega
 ·rw [Bool.eq_iff_iff]; simp [hold_iff]; omega
 ·rw [Bool.eq_iff_iff]; simp [hold_iff]; omega
 ·rw [Bool.eq_iff_iff]; simp [hold_iff]; omega
 ·rw [Bool.eq_iff_iff]; simp [hold_iff]; omega
 ·unfold lockB
  by_cases h : d < 1 ∨ d % 3 ≠ 1
  ·rw [if_pos h, Bool.eq_iff_iff]; simp [hold_iff]; omega
  ·rw [if_neg h, Int.tdiv_eq_ediv_of_nonneg (by omega), w64 (by omega), Bool.eq_iff_iff]; simp [hold_iff]; omega
 ·rw [Bool.eq_iff_iff]; simp [hold_iff]; omega
theorem rValid_eq (k : Nat) (f0 f1 f2 f3 f4 f5 f6 f7 f8 f9 f10 : Int) (h9 : I64 f9) : storagebarterref15_Valid.f (k + 4) f0 f1 f2 f3 f4 f5 f6 f7 f8 f9 f10 = some (vldB f0 f1 f2 f3 f4 f5 f6 f7 f8 f9 f10) := by
 unfold storagebarterref15_Valid.f vldB
 simp only [in_eq, Option.bind_some]
 cases h0 : hold 1 2147483646 f0
 ·simp
 rw [if_pos rfl, Bool.true_and]
 cases h1 : hold 1 2147483646 f1
 ·simp
 rw [if_pos rfl, Bool.true_and]
 by_cases h01 : f0 = f1
 ·rw [if_pos h01, h01]; simp
 rw [if_neg h01, beq_eq_false_iff_ne.2 h01, Bool.not_false, Bool.true_and]
 cases h2 : hold 1 256 f2
 ·rw [if_neg (by simp)]
  have : ¬ (1 ≤ f2 ∧ f2 ≤ 256) := fun z => by rw [hold_iff.2 z] at h2; cases h2
  by_cases g : 1 ≤ f2
  ·rw [decide_eq_false (show ¬ f2 ≤ 256 from fun z => this ⟨g, z⟩)]; simp
  ·rw [decide_eq_false g]; simp
 rw [if_pos rfl, decide_eq_true (hold_iff.1 h2).1, decide_eq_true (hold_iff.1 h2).2, Bool.true_and, Bool.true_and]
 cases h3 : hold 0 2147483646 f3
 ·simp
 rw [if_pos rfl, Bool.true_and]
 have hbody : (if hold 0 1048576 f4 = true then (if hold 0 2147483646 f10 = true then (storagebarterref15_parts.f (k + 4) f0 f1 f2 f3 f4 f5 f6 f7 f8 f9 f10).bind fun t => some t else some false) else some false) = some (decide (0 ≤ f4) && (decide (f4 ≤ 1048576) && (hold 0 2147483646 f10 && fitsB f5 f4 f6 f7 f8 f9))) := by
  cases h4 : hold 0 1048576 f4
  ·rw [if_neg (by simp)]
   have : ¬ (0 ≤ f4 ∧ f4 ≤ 1048576) := fun z => by rw [hold_iff.2 z] at h4; cases h4
   by_cases g : 0 ≤ f4
   ·rw [decide_eq_false (show ¬ f4 ≤ 1048576 from fun z => this ⟨g, z⟩)]; simp
   ·rw [decide_eq_false g]; simp
  rw [if_pos rfl, decide_eq_true (hold_iff.1 h4).1, decide_eq_true (hold_iff.1 h4).2, Bool.true_and, Bool.true_and]
  cases h10 : hold 0 2147483646 f10
  ·simp
  rw [if_pos rfl, parts_eq k _ _ _ _ _ _ _ _ _ _ _ (hold_iff.1 h4) h9, Option.bind_some, partB_fits _ _ _ _ _ _ (hold_iff.1 h4) h9, Bool.true_and]
 by_cases g2 : f2 > 1
 ·rw [if_pos g2, decide_eq_true (show 1 < f2 from g2), Bool.true_or, Bool.true_and]
  exact hbody
 ·rw [if_neg g2, decide_eq_false (show ¬ 1 < f2 from g2), Bool.false_or]
  by_cases g3 : f3 = 0
  ·rw [if_pos g3, g3]
   simp only [beq_self_eq_true, Bool.true_and]
   rw [g3] at hbody
   exact hbody
  ·rw [if_neg g3, beq_eq_false_iff_ne.2 g3, Bool.false_and]
end Go.Proofs.YtcalkhlchjjalaaDoor.Grv

namespace Go.Proofs.YtcalkhlchjjalaaDoor.Grn
open Go Go.RowKit Go.Proofs Go.Proofs.YtcalkhlchjjalaaDoor.Gm Go.Proofs.YtcalkhlchjjalaaDoor.Gdm Go.Proofs.YtcalkhlchjjalaaDoor.Gmr Go.Proofs.YtcalkhlchjjalaaDoor.Gsg Go.Proofs.YtcalkhlchjjalaaDoor.Gsy Go.Proofs.YtcalkhlchjjalaaDoor.Gnx Go.Proofs.YtcalkhlchjjalaaDoor.Ggd Go.Proofs.YtcalkhlchjjalaaDoor.Grv Go.Proofs.YtcalkhlchjjalaaDoor.Grs Go.Proofs.YtcalkhlchjjalaaDoor.Q Go.Proofs.YtcalkhlchjjalaaDoor.Gput Go.Proofs.YtcalkhlchjjalaaDoorW.PrintWords Go.Proofs.YtcalkhlchjjalaaDoorW.PrintLast Go.Proofs.YtcalkhlchjjalaaDoorW.PrintMore
set_option linter.unusedVariables false
theorem in_x (l m n : Int) (b : Bool) (hb : hold l m n = b) (w : World) : Calls Tryd.prog 30 #[.int .i64 n, .int .i64 l, .int .i64 m] w fun e w' => e = .returned (.bool b) ∧ w' = w := by
 subst hb
 unfold hold
 by_cases h1 : l ≤ n
 ·have d1 := decide_eq_true h1
  rw [d1, Bool.true_and]
  go_enter Tryd.func30, Tryd.ntmps30
  go_wp2
  go_ret
  exact ⟨rfl, rfl⟩
 ·have d1 := decide_eq_false h1
  rw [d1, Bool.false_and]
  go_enter Tryd.func30, Tryd.ntmps30
  go_wp2
  go_ret
  exact ⟨rfl, rfl⟩
theorem rbytes_x (f0 f1 f2 f3 f4 f5 f6 f7 f8 f9 f10 : Int) (h : W64 ⟨f0, f1, f2, f3, f4, f5, f6, f7, f8, f9, f10⟩) (w : World) :
 Calls Tryd.prog 32 #[.agg #[.int .i64 f0, .int .i64 f1, .int .i64 f2, .int .i64 f3, .int .i64 f4, .int .i64 f5, .int .i64 f6, .int .i64 f7, .int .i64 f8, .int .i64 f9, .int .i64 f10]] w fun e w' => e = .returned (.string (B (bts ⟨f0, f1, f2, f3, f4, f5, f6, f7, f8, f9, f10⟩))) ∧ Below w.heap.size w w' :=
 storagebarterref15_Bytes.calls 22 f0 f1 f2 f3 f4 f5 f6 f7 f8 f9 f10 _ w (rBytes_eq ⟨f0, f1, f2, f3, f4, f5, f6, f7, f8, f9, f10⟩ h 22 (Nat.le_refl _))
theorem rsum_x (l : List UInt8) (hl : l.length ≤ 1000) (w : World) : Calls Tryd.prog 31 #[.string (B l)] w fun e w' => e = .returned (.int .i64 (dg 1 l)) ∧ Below w.heap.size w w' :=
 (storagebarterref02_Sum.calls 1001 (B l) _ w (rSum_eq l 1001 (by omega) (by omega))).mono fun e w' z => ⟨z.1, z.2.below⟩
theorem rsign_x (p : Int) (l : List UInt8) (hp : within p) (hl : l.length ≤ 1000) (w : World) : Calls Tryd.prog 33 #[.int .i64 p, .string (B l)] w fun e w' => e = .returned (.tuple #[.int .i64 (mk_ p l), .int .i64 0]) ∧ Below w.heap.size w w' :=
 storagebarterref14_Sign.calls 1020 p (B l) (mk_ p l) 0 w (by rw [rSign_eq p l 1020 (by omega) (by omega)]; unfold sg mk_; rw [if_pos hp])
theorem vld_mk_no {s : S39} (hv : ¬ vldS s = true) {m : Int} (hm : 0 ≤ m ∧ m < 2147483647) (h0 : s.f10 = 0 := by rfl) : vldB s.f0 s.f1 s.f2 s.f3 s.f4 s.f5 s.f6 s.f7 s.f8 s.f9 m = false := by
 rw [Bool.eq_false_iff]
 intro z
 have h1 := vldS_mark (s := { s with f10 := m }) z 0 (by omega)
 have h2 : ({ ({ s with f10 := m } : S39) with f10 := 0 } : S39) = s := by cases s; simp only at h0; subst h0; rfl
 rw [h2] at h1
 exact hv h1
theorem rvalid_x (f0 f1 f2 f3 f4 f5 f6 f7 f8 f9 f10 : Int) (w : World) (h9 : I64 f9) (r : Bool) (hr : vldB f0 f1 f2 f3 f4 f5 f6 f7 f8 f9 f10 = r) :
 Calls Tryd.prog 34 #[.agg #[.int .i64 f0, .int .i64 f1, .int .i64 f2, .int .i64 f3, .int .i64 f4, .int .i64 f5, .int .i64 f6, .int .i64 f7, .int .i64 f8, .int .i64 f9, .int .i64 f10]] w fun e w' => e = .returned (.bool r) ∧ Below w.heap.size w w' :=
 storagebarterref15_Valid.calls 4 f0 f1 f2 f3 f4 f5 f6 f7 f8 f9 f10 r w (hr ▸ rValid_eq 0 f0 f1 f2 f3 f4 f5 f6 f7 f8 f9 f10 h9)
set_option maxRecDepth 100000 in
set_option maxHeartbeats 8000000 in
theorem rnext_x (A0 : Option Addr) (c0 : Nat) (l0 : List S39) (p0 p1 dst tick kind a b c d : Int) (w : World) (hr0 : Kd.C k39 w A0 l0.length l0) (hc0 : l0.length ≤ c0)
 (hW : ∀ s ∈ l0, W64 s) (i0 : I64 p0) (i2 : I64 dst) (i3 : I64 tick) (i4 : I64 kind) (i5 : I64 a) (i6 : I64 b) (i7 : I64 c) (i8 : I64 d) (r : S39) (re : Int) (hr : nxt l0 p0 p1 dst tick kind a b c d = (r, re)) :
 Calls Tryd.prog 15 #[.slice A0 l0.length c0, .agg #[.int .i64 p0, .int .i64 p1], .int .i64 dst, .int .i64 tick, .int .i64 kind, .int .i64 a, .int .i64 b, .int .i64 c, .int .i64 d] w fun e w' =>
  e = .returned (.tuple #[.agg #[.int .i64 r.f0, .int .i64 r.f1, .int .i64 r.f2, .int .i64 r.f3, .int .i64 r.f4, .int .i64 r.f5, .int .i64 r.f6, .int .i64 r.f7, .int .i64 r.f8, .int .i64 r.f9, .int .i64 r.f10], .int .i64 re]) ∧ Below w.heap.size w w' := by
 have hu39 := Tryd.underlying39
 have hu25 := Tryd.underlying25
 have HR := Aside0.mk hr0
 have HW := Aside0.mk hW
 have HN := Lib.hid hr
 have HI := Aside0.mk (And.intro i0 (And.intro i2 (And.intro i3 (And.intro i4 (And.intro i5 (And.intro i6 (And.intro i7 i8)))))))
 clear hr0 hr hW i0 i2 i3 i4 i5 i6 i7 i8
 obtain ⟨b0, hb0⟩ : ∃ b, hold 1 2147483646 p0 = b := ⟨_, rfl⟩
 have H0 := Lib.hid hb0
 clear hb0
 cases b0 with
 | false =>
  obtain ⟨rfl, rfl⟩ : z39 = r ∧ 1 = re := by have h := HN.out; unfold nxt at h; rw [if_pos (.inl H0.out)] at h; exact Prod.mk.inj h
  go_enter Tryd.func15, Tryd.ntmps15
  go_wp2_with (first | (go_at_call 30; with_reducible refine (in_x 1 2147483646 p0 false H0.out _).mono ?_; rintro e w' ⟨rfl, rfl⟩))
  have HB := Aside0.mk (Below.refl w.heap.size w)
  refine bodyPost_ret (results_ct rfl _ _ (w.heap.size + 1) 39 #[.int .i64 0, .int .i64 0, .int .i64 0, .int .i64 0, .int .i64 0, .int .i64 0, .int .i64 0, .int .i64 0, .int .i64 0, .int .i64 0, .int .i64 0] (0, 0) _ rfl (by exact two_new w _ _ _ _) Tryd.underlying39 rfl (by kernel_rfl)) rfl ?_
  exact ⟨rfl, by (repeat (with_reducible first | exact HB.out | exact Below.refl _ _ | apply below_alloc | apply pw_below_drewN | apply below_drew1 | refine below_set ?_ (Nat.le_succ _) | refine below_set ?_ HZ.out))⟩
 | true =>
  obtain ⟨b1, hb1⟩ : ∃ b, hold 1 2147483646 p1 = b := ⟨_, rfl⟩
  have H1 := Lib.hid hb1
  clear hb1
  cases b1 with
  | false =>
   obtain ⟨rfl, rfl⟩ : z39 = r ∧ 1 = re := by have h := HN.out; unfold nxt at h; rw [if_pos (.inr H1.out)] at h; exact Prod.mk.inj h
   go_enter Tryd.func15, Tryd.ntmps15
   go_wp2_with (first | (go_at_call 30; with_reducible refine (in_x 1 2147483646 p0 true H0.out _).mono ?_; rintro e w' ⟨rfl, rfl⟩) | (go_at_call 30; with_reducible refine (in_x 1 2147483646 p1 false H1.out _).mono ?_; rintro e w' ⟨rfl, rfl⟩))
   have HB := Aside0.mk (Below.refl w.heap.size w)
   refine bodyPost_ret (results_ct rfl _ _ (w.heap.size + 1) 39 #[.int .i64 0, .int .i64 0, .int .i64 0, .int .i64 0, .int .i64 0, .int .i64 0, .int .i64 0, .int .i64 0, .int .i64 0, .int .i64 0, .int .i64 0] (0, 0) _ rfl (by exact two_new w _ _ _ _) Tryd.underlying39 rfl (by kernel_rfl)) rfl ?_
   exact ⟨rfl, by (repeat (with_reducible first | exact HB.out | exact Below.refl _ _ | apply below_alloc | apply pw_below_drewN | apply below_drew1 | refine below_set ?_ (Nat.le_succ _) | refine below_set ?_ HZ.out))⟩
  | true =>
   have HP : Aside0 (within p0 ∧ within p1) := ⟨⟨hold_within H0.out, hold_within H1.out⟩⟩
   by_cases hl : 256 ≤ l0.length
   case pos =>
    obtain ⟨rfl, rfl⟩ : z39 = r ∧ 4 = re := by have h := HN.out; unfold nxt at h; rw [H0.out, H1.out, if_neg (by simp), if_pos hl] at h; exact Prod.mk.inj h
    have g1 : decide (256 ≤ l0.length) = true := decide_eq_true hl
    have g2 : decide (256 ≤ (l0.length : Int)) = true := decide_eq_true (by omega)
    clear hl
    go_enter Tryd.func15, Tryd.ntmps15
    go_wp2_with (first | (go_at_call 30; with_reducible refine (in_x 1 2147483646 p0 true H0.out _).mono ?_; rintro e w' ⟨rfl, rfl⟩) | (go_at_call 30; with_reducible refine (in_x 1 2147483646 p1 true H1.out _).mono ?_; rintro e w' ⟨rfl, rfl⟩))
    have HB := Aside0.mk (Below.refl w.heap.size w)
    refine bodyPost_ret (results_ct rfl _ _ (w.heap.size + 1) 39 #[.int .i64 0, .int .i64 0, .int .i64 0, .int .i64 0, .int .i64 0, .int .i64 0, .int .i64 0, .int .i64 0, .int .i64 0, .int .i64 0, .int .i64 0] (0, 0) _ rfl (by exact two_new w _ _ _ _) Tryd.underlying39 rfl (by kernel_rfl)) rfl ?_
    exact ⟨rfl, by (repeat (with_reducible first | exact HB.out | exact Below.refl _ _ | apply below_alloc | apply pw_below_drewN | apply below_drew1 | refine below_set ?_ (Nat.le_succ _) | refine below_set ?_ HZ.out))⟩
   case neg =>
   have g1 : decide (256 ≤ l0.length) = false := decide_eq_false hl
   have g2 : decide (256 ≤ (l0.length : Int)) = false := decide_eq_false (by omega)
   have hlen : l0.length < 256 := by omega
   clear hl
   go_enter Tryd.func15, Tryd.ntmps15
   go_wp2_with (first | (go_at_call 30; with_reducible refine (in_x 1 2147483646 p0 true H0.out _).mono ?_; rintro e w' ⟨rfl, rfl⟩) | (go_at_call 30; with_reducible refine (in_x 1 2147483646 p1 true H1.out _).mono ?_; rintro e w' ⟨rfl, rfl⟩))
   clear H0 H1 g1 g2
   go_loopw [41] (fun s41 wr => ∃ k : Nat, k ≤ l0.length ∧ s41 = .int .i64 k ∧ Aside0 (∀ j : Nat, j < k → (rd_T39 l0 j).f0 = p0 ∧ (rd_T39 l0 j).f1 = dst) ∧ Aside0 (NxW w wr p0 p1)) (fun s41 _ => l0.length - (intOf s41).toNat)
   case atStart => exact ⟨0, Nat.zero_le _, rfl, ⟨fun j hj => absurd hj (Nat.not_lt_zero _)⟩, ⟨⟨by repeat (first | exact Below.refl _ _ | (with_reducible apply below_alloc)), blk_alloc (heap_alloc_new w _) _, two_new w _ _ _ _⟩⟩⟩
   case round =>
    obtain ⟨k, hk, rfl, HJ, HX⟩ := hrel
    have hv0 : wr.cell? ⟨w.heap.size, 0, none⟩ = some (.int .i64 p0) := (blk_cell HX.out.b10 0).trans rfl
    have hv1 : wr.cell? ⟨w.heap.size, 1, none⟩ = some (.int .i64 p1) := (blk_cell HX.out.b10 1).trans rfl
    have hz0 : w.heap.size < wr.heap.size := blk_lt HX.out.b10
    have hz1 : w.heap.size + 1 < wr.heap.size := blk_lt HX.out.b18
    have hf0 := blk_frozen HX.out.b18 0
    have hq0 : wr.cell? ⟨w.heap.size + 1, 0, none⟩ = some (.int .i64 0) := (blk_cell HX.out.b18 0).trans rfl
    have hf1 := blk_frozen HX.out.b18 1
    have hq1 : wr.cell? ⟨w.heap.size + 1, 1, none⟩ = some (.int .i64 0) := (blk_cell HX.out.b18 1).trans rfl
    have hf2 := blk_frozen HX.out.b18 2
    have hq2 : wr.cell? ⟨w.heap.size + 1, 2, none⟩ = some (.int .i64 0) := (blk_cell HX.out.b18 2).trans rfl
    have hf3 := blk_frozen HX.out.b18 3
    have hq3 : wr.cell? ⟨w.heap.size + 1, 3, none⟩ = some (.int .i64 0) := (blk_cell HX.out.b18 3).trans rfl
    have hf4 := blk_frozen HX.out.b18 4
    have hq4 : wr.cell? ⟨w.heap.size + 1, 4, none⟩ = some (.int .i64 0) := (blk_cell HX.out.b18 4).trans rfl
    have hf5 := blk_frozen HX.out.b18 5
    have hq5 : wr.cell? ⟨w.heap.size + 1, 5, none⟩ = some (.int .i64 0) := (blk_cell HX.out.b18 5).trans rfl
    have hf6 := blk_frozen HX.out.b18 6
    have hq6 : wr.cell? ⟨w.heap.size + 1, 6, none⟩ = some (.int .i64 0) := (blk_cell HX.out.b18 6).trans rfl
    have hf7 := blk_frozen HX.out.b18 7
    have hq7 : wr.cell? ⟨w.heap.size + 1, 7, none⟩ = some (.int .i64 0) := (blk_cell HX.out.b18 7).trans rfl
    have hf8 := blk_frozen HX.out.b18 8
    have hq8 : wr.cell? ⟨w.heap.size + 1, 8, none⟩ = some (.int .i64 0) := (blk_cell HX.out.b18 8).trans rfl
    have hf9 := blk_frozen HX.out.b18 9
    have hq9 : wr.cell? ⟨w.heap.size + 1, 9, none⟩ = some (.int .i64 0) := (blk_cell HX.out.b18 9).trans rfl
    have hf10 := blk_frozen HX.out.b18 10
    have hq10 : wr.cell? ⟨w.heap.size + 1, 10, none⟩ = some (.int .i64 0) := (blk_cell HX.out.b18 10).trans rfl
    by_cases hlt : k < l0.length
    case pos =>
     obtain ⟨ad, ead, hx0, hx1, hx2, hx3, hx4, hx5, hx6, hx7, hx8, hx9, hx10⟩ := at_T39 HR.out k (by omega) (by omega)
     cases ead
     replace hx0 := (HX.out.hb.cell (World.block_lt_of_cell? w _ hx0)).trans hx0
     replace hx1 := (HX.out.hb.cell (World.block_lt_of_cell? w _ hx1)).trans hx1
     replace hx2 := (HX.out.hb.cell (World.block_lt_of_cell? w _ hx2)).trans hx2
     replace hx3 := (HX.out.hb.cell (World.block_lt_of_cell? w _ hx3)).trans hx3
     replace hx4 := (HX.out.hb.cell (World.block_lt_of_cell? w _ hx4)).trans hx4
     replace hx5 := (HX.out.hb.cell (World.block_lt_of_cell? w _ hx5)).trans hx5
     replace hx6 := (HX.out.hb.cell (World.block_lt_of_cell? w _ hx6)).trans hx6
     replace hx7 := (HX.out.hb.cell (World.block_lt_of_cell? w _ hx7)).trans hx7
     replace hx8 := (HX.out.hb.cell (World.block_lt_of_cell? w _ hx8)).trans hx8
     replace hx9 := (HX.out.hb.cell (World.block_lt_of_cell? w _ hx9)).trans hx9
     replace hx10 := (HX.out.hb.cell (World.block_lt_of_cell? w _ hx10)).trans hx10
     simp only [Int.toNat_natCast] at hx0 hx1 hx2 hx3 hx4 hx5 hx6 hx7 hx8 hx9 hx10
     obtain ⟨e, he⟩ : ∃ e, e = rd_T39 l0 k := ⟨_, rfl⟩
     rw [← he] at hx0 hx1 hx2 hx3 hx4 hx5 hx6 hx7 hx8 hx9 hx10
     have HE := Lib.hid he
     clear he
     obtain ⟨y0, y1, y2, y3, y4, y5, y6, y7, y8, y9, y10⟩ := e
     simp only at hx0 hx1 hx2 hx3 hx4 hx5 hx6 hx7 hx8 hx9 hx10
     by_cases e0 : y0 = p0
     case neg =>
      obtain ⟨rfl, rfl⟩ : z39 = r ∧ 16 = re := by
       have h := HN.out
       unfold nxt at h
       have hbad : ∃ s ∈ l0, s.f0 ≠ p0 ∨ s.f1 ≠ dst := ⟨l0[k], List.getElem_mem hlt, by rw [← rd_get l0 k hlt, ← HE.out]; exact .inl e0⟩
       rw [if_neg (by rintro (z | z); exact absurd HP.out.1 (fun y => by unfold hold at z; unfold within at y; simp at z; omega); exact absurd HP.out.2 (fun y => by unfold hold at z; unfold within at y; simp at z; omega)), if_neg (by omega), if_pos hbad] at h
       exact Prod.mk.inj h
      have g0 : (y0 != p0) = true := bne_iff_ne.2 e0
      have g0' : (y0 == p0) = false := beq_eq_false_iff_ne.2 e0
      clear e0
      go_wp2
      have HB := Aside0.mk HX.out.hb
      refine bodyPost_ret (results_ct rfl _ _ (w.heap.size + 1) 39 #[.int .i64 0, .int .i64 0, .int .i64 0, .int .i64 0, .int .i64 0, .int .i64 0, .int .i64 0, .int .i64 0, .int .i64 0, .int .i64 0, .int .i64 0] (0, 0) _ rfl (by (with_reducible refine blk_alloc ?_ _); (with_reducible exact put11 _ _ _ _ _ _ _ _ _ _ _ _ _ _ _ _ _ _ _ _ _ _ HX.out.b18)) Tryd.underlying39 rfl (by kernel_rfl)) rfl ?_
      exact ⟨rfl, by (repeat (with_reducible first | exact HB.out | exact Below.refl _ _ | apply below_alloc | apply pw_below_drewN | apply below_drew1 | refine below_set ?_ (Nat.le_succ _) | refine below_set ?_ HZ.out))⟩
     case pos =>
     by_cases e1 : y1 = dst
     case neg =>
      obtain ⟨rfl, rfl⟩ : z39 = r ∧ 16 = re := by
       have h := HN.out
       unfold nxt at h
       have hbad : ∃ s ∈ l0, s.f0 ≠ p0 ∨ s.f1 ≠ dst := ⟨l0[k], List.getElem_mem hlt, by rw [← rd_get l0 k hlt, ← HE.out]; exact .inr e1⟩
       rw [if_neg (by rintro (z | z); exact absurd HP.out.1 (fun y => by unfold hold at z; unfold within at y; simp at z; omega); exact absurd HP.out.2 (fun y => by unfold hold at z; unfold within at y; simp at z; omega)), if_neg (by omega), if_pos hbad] at h
       exact Prod.mk.inj h
      have g0 : (y0 != p0) = false := bne_eq_false_iff_eq.2 e0
      have g0' : (y0 == p0) = true := beq_iff_eq.2 e0
      have g1 : (y1 != dst) = true := bne_iff_ne.2 e1
      have g1' : (y1 == dst) = false := beq_eq_false_iff_ne.2 e1
      clear e0 e1
      go_wp2
      have HB := Aside0.mk HX.out.hb
      refine bodyPost_ret (results_ct rfl _ _ (w.heap.size + 1) 39 #[.int .i64 0, .int .i64 0, .int .i64 0, .int .i64 0, .int .i64 0, .int .i64 0, .int .i64 0, .int .i64 0, .int .i64 0, .int .i64 0, .int .i64 0] (0, 0) _ rfl (by (with_reducible refine blk_alloc ?_ _); (with_reducible exact put11 _ _ _ _ _ _ _ _ _ _ _ _ _ _ _ _ _ _ _ _ _ _ HX.out.b18)) Tryd.underlying39 rfl (by kernel_rfl)) rfl ?_
      exact ⟨rfl, by (repeat (with_reducible first | exact HB.out | exact Below.refl _ _ | apply below_alloc | apply pw_below_drewN | apply below_drew1 | refine below_set ?_ (Nat.le_succ _) | refine below_set ?_ HZ.out))⟩
     case pos =>
     have J1 : Aside0 (∀ j : Nat, j < k + 1 → (rd_T39 l0 j).f0 = p0 ∧ (rd_T39 l0 j).f1 = dst) := ⟨fun j hj => by
      by_cases z : j = k
      ·subst z; rw [← HE.out]; exact ⟨e0, e1⟩
      ·exact HJ.out j (by omega)⟩
     have g0 : (y0 != p0) = false := bne_eq_false_iff_eq.2 e0
     have g0' : (y0 == p0) = true := beq_iff_eq.2 e0
     have g1 : (y1 != dst) = false := bne_eq_false_iff_eq.2 e1
     have g1' : (y1 == dst) = true := beq_iff_eq.2 e1
     clear e0 e1
     go_wp2
     go_roundw
     case rel => exact ⟨k + 1, by omega, by go_num, J1, ⟨HX.out.alloc _⟩⟩
     case measure => simp only [intOf]; omega
    case neg =>
    obtain rfl : k = l0.length := by omega
    have HL0 : Aside0 (∀ s ∈ l0, s.f0 = p0 ∧ s.f1 = dst) := ⟨fun s hs => by obtain ⟨j, hj, rfl⟩ := List.getElem_of_mem hs; rw [← rd_get l0 j hj]; exact HJ.out j hj⟩
    have HN2 : Hid ((match l0.getLast? with | none => fin p0 p1 dst ((l0.length : Int) + 1) 0 tick kind a b c d | some s => if tick < s.f4 then (z39, 22) else fin p0 p1 dst ((l0.length : Int) + 1) (dg 1 (bts s)) tick kind a b c d) = (r, re)) := Lib.hid (by
     have h := HN.out
     unfold nxt at h
     rw [if_neg (by rintro (z | z); exact absurd HP.out.1 (fun y => by unfold hold at z; unfold within at y; simp at z; omega); exact absurd HP.out.2 (fun y => by unfold hold at z; unfold within at y; simp at z; omega)), if_neg (by omega), if_neg (by rintro ⟨s, hs, z | z⟩; exact z (HL0.out s hs).1; exact z (HL0.out s hs).2)] at h
     exact h)
    clear HN HJ HL0
    have HS := Aside0.mk (heap_alloc_new wr (.cells #[.int .i64 p0, .int .i64 dst, .int .i64 ((l0.length : Int) + 1), .int .i64 0, .int .i64 tick, .int .i64 kind, .int .i64 a, .int .i64 b, .int .i64 c, .int .i64 d, .int .i64 0] 39))
    by_cases hz : l0.length = 0
    case pos =>
     have HF : Hid (fin p0 p1 dst ((l0.length : Int) + 1) 0 tick kind a b c d = (r, re)) := Lib.hid (by have h := HN2.out; rw [List.length_eq_zero_iff.1 hz] at h ⊢; exact h)
     have gz : decide (0 < l0.length) = false := decide_eq_false (by omega)
     have gz' : decide (0 < (l0.length : Int)) = false := decide_eq_false (by omega)
     clear hz HN2
     replace HX := Aside0.mk (HX.out.alloc (.cells #[.int .i64 p0, .int .i64 dst, .int .i64 ((l0.length : Int) + 1), .int .i64 0, .int .i64 tick, .int .i64 kind, .int .i64 a, .int .i64 b, .int .i64 c, .int .i64 d, .int .i64 0] 39))
     have HWS : Aside0 (W64 ⟨p0, dst, (l0.length : Int) + 1, 0, tick, kind, a, b, c, d, 0⟩) := ⟨by obtain ⟨i0, i2, i3, i4, i5, i6, i7, i8⟩ := HI.out; exact ⟨i0, i2, by show I64 ((l0.length : Int) + 1); unfold I64; omega, by show I64 0; unfold I64; omega, i3, i4, i5, i6, i7, i8, by show I64 0; unfold I64; omega⟩⟩
     have HSL : Aside0 ((bts ⟨p0, dst, (l0.length : Int) + 1, 0, tick, kind, a, b, c, d, 0⟩).length ≤ 1000) := ⟨Nat.le_trans (bts_len HWS.out) (by omega)⟩
     have HI9 : Aside0 (I64 d) := ⟨HI.out.2.2.2.2.2.2.2⟩
     go_upto_region 17 with (first | fail)
     go_cut [] (fun wx => Aside0 (NxW w wx p0 p1) ∧ Aside0 (wx.heap[wr.heap.size]? = some (.cells #[.int .i64 p0, .int .i64 dst, .int .i64 ((l0.length : Int) + 1), .int .i64 0, .int .i64 tick, .int .i64 kind, .int .i64 a, .int .i64 b, .int .i64 c, .int .i64 d, .int .i64 (mk_ p1 (bts ⟨p0, dst, (l0.length : Int) + 1, 0, tick, kind, a, b, c, d, 0⟩))] 39 (0, 0))))
     case first =>
      go_region_with (first | (go_at_call 32; with_reducible refine (rbytes_x p0 dst ((l0.length : Int) + 1) 0 tick kind a b c d 0 HWS.out _).mono ?_; rintro e w3 ⟨rfl, hb⟩; have hb_ := below_step (show Below (wr.alloc (.cells #[.int .i64 p0, .int .i64 dst, .int .i64 ((l0.length : Int) + 1), .int .i64 0, .int .i64 tick, .int .i64 kind, .int .i64 a, .int .i64 b, .int .i64 c, .int .i64 d, .int .i64 0] 39)).heap.size (wr.alloc (.cells #[.int .i64 p0, .int .i64 dst, .int .i64 ((l0.length : Int) + 1), .int .i64 0, .int .i64 tick, .int .i64 kind, .int .i64 a, .int .i64 b, .int .i64 c, .int .i64 d, .int .i64 0] 39)) _ from by (repeat (with_reducible first | exact Below.refl _ _ | apply below_alloc | apply pw_below_drewN | apply below_drew1))) hb; clear hb; have hb := hb_; clear hb_; have n1_ := Aside0.mk (HX.out.below hb); have n2_ := Aside0.mk (blk_below HS.out hb); clear HX HS; have HX := n1_; have HS := n2_; clear n1_ n2_ hb; have hv1_ : w3.cell? ⟨w.heap.size, 1, none⟩ = some (.int .i64 p1) := (blk_cell HX.out.b10 1).trans rfl; have hs0_ : w3.cell? ⟨wr.heap.size, 0, none⟩ = some _ := (blk_cell HS.out 0).trans rfl; have hs1_ : w3.cell? ⟨wr.heap.size, 1, none⟩ = some _ := (blk_cell HS.out 1).trans rfl; have hs2_ : w3.cell? ⟨wr.heap.size, 2, none⟩ = some _ := (blk_cell HS.out 2).trans rfl; have hs3_ : w3.cell? ⟨wr.heap.size, 3, none⟩ = some _ := (blk_cell HS.out 3).trans rfl; have hs4_ : w3.cell? ⟨wr.heap.size, 4, none⟩ = some _ := (blk_cell HS.out 4).trans rfl; have hs5_ : w3.cell? ⟨wr.heap.size, 5, none⟩ = some _ := (blk_cell HS.out 5).trans rfl; have hs6_ : w3.cell? ⟨wr.heap.size, 6, none⟩ = some _ := (blk_cell HS.out 6).trans rfl; have hs7_ : w3.cell? ⟨wr.heap.size, 7, none⟩ = some _ := (blk_cell HS.out 7).trans rfl; have hs8_ : w3.cell? ⟨wr.heap.size, 8, none⟩ = some _ := (blk_cell HS.out 8).trans rfl; have hs9_ : w3.cell? ⟨wr.heap.size, 9, none⟩ = some _ := (blk_cell HS.out 9).trans rfl; have hs10_ : w3.cell? ⟨wr.heap.size, 10, none⟩ = some _ := (blk_cell HS.out 10).trans rfl) | (go_at_call 33; with_reducible refine (rsign_x p1 _ HP.out.2 HSL.out _).mono ?_; rintro e w4 ⟨rfl, hb⟩; have hb_ := below_step (show Below w3.heap.size w3 _ from by (repeat (with_reducible first | exact Below.refl _ _ | apply below_alloc | apply pw_below_drewN | apply below_drew1))) hb; clear hb; have hb := hb_; clear hb_; have n1_ := Aside0.mk (HX.out.below hb); have n2_ := Aside0.mk (blk_below HS.out hb); clear HX HS; have HX := n1_; have HS := n2_; clear n1_ n2_ hb; have hv1_ : w4.cell? ⟨w.heap.size, 1, none⟩ = some (.int .i64 p1) := (blk_cell HX.out.b10 1).trans rfl; have hs0_ : w4.cell? ⟨wr.heap.size, 0, none⟩ = some _ := (blk_cell HS.out 0).trans rfl; have hs1_ : w4.cell? ⟨wr.heap.size, 1, none⟩ = some _ := (blk_cell HS.out 1).trans rfl; have hs2_ : w4.cell? ⟨wr.heap.size, 2, none⟩ = some _ := (blk_cell HS.out 2).trans rfl; have hs3_ : w4.cell? ⟨wr.heap.size, 3, none⟩ = some _ := (blk_cell HS.out 3).trans rfl; have hs4_ : w4.cell? ⟨wr.heap.size, 4, none⟩ = some _ := (blk_cell HS.out 4).trans rfl; have hs5_ : w4.cell? ⟨wr.heap.size, 5, none⟩ = some _ := (blk_cell HS.out 5).trans rfl; have hs6_ : w4.cell? ⟨wr.heap.size, 6, none⟩ = some _ := (blk_cell HS.out 6).trans rfl; have hs7_ : w4.cell? ⟨wr.heap.size, 7, none⟩ = some _ := (blk_cell HS.out 7).trans rfl; have hs8_ : w4.cell? ⟨wr.heap.size, 8, none⟩ = some _ := (blk_cell HS.out 8).trans rfl; have hs9_ : w4.cell? ⟨wr.heap.size, 9, none⟩ = some _ := (blk_cell HS.out 9).trans rfl; have hs10_ : w4.cell? ⟨wr.heap.size, 10, none⟩ = some _ := (blk_cell HS.out 10).trans rfl; have hzz_ := blk_lt HS.out; have hf10_ := blk_frozen HS.out 10))
      all_goals (go_wp2_with fail; go_meet; exact ⟨⟨HX.out.set hz1 _ _⟩, ⟨blk_put HS.out 10 _ rfl⟩⟩)
     case rest =>
     obtain ⟨HX, HS⟩ := hcut
     have hsc0_ : wc.cell? ⟨wr.heap.size, 0, none⟩ = some _ := (blk_cell HS.out 0).trans rfl
     have hsc1_ : wc.cell? ⟨wr.heap.size, 1, none⟩ = some _ := (blk_cell HS.out 1).trans rfl
     have hsc2_ : wc.cell? ⟨wr.heap.size, 2, none⟩ = some _ := (blk_cell HS.out 2).trans rfl
     have hsc3_ : wc.cell? ⟨wr.heap.size, 3, none⟩ = some _ := (blk_cell HS.out 3).trans rfl
     have hsc4_ : wc.cell? ⟨wr.heap.size, 4, none⟩ = some _ := (blk_cell HS.out 4).trans rfl
     have hsc5_ : wc.cell? ⟨wr.heap.size, 5, none⟩ = some _ := (blk_cell HS.out 5).trans rfl
     have hsc6_ : wc.cell? ⟨wr.heap.size, 6, none⟩ = some _ := (blk_cell HS.out 6).trans rfl
     have hsc7_ : wc.cell? ⟨wr.heap.size, 7, none⟩ = some _ := (blk_cell HS.out 7).trans rfl
     have hsc8_ : wc.cell? ⟨wr.heap.size, 8, none⟩ = some _ := (blk_cell HS.out 8).trans rfl
     have hsc9_ : wc.cell? ⟨wr.heap.size, 9, none⟩ = some _ := (blk_cell HS.out 9).trans rfl
     have hsc10_ : wc.cell? ⟨wr.heap.size, 10, none⟩ = some _ := (blk_cell HS.out 10).trans rfl
     have hzz := blk_lt HS.out
     have hzy := blk_lt HX.out.b18
     have HZ := Aside0.mk (Nat.le_of_lt hz0)
     by_cases hv : vldS ⟨p0, dst, (l0.length : Int) + 1, 0, tick, kind, a, b, c, d, 0⟩ = true
     case neg =>
      obtain ⟨rfl, rfl⟩ : z39 = r ∧ 2 = re := by have h := HF.out; unfold fin at h; rw [if_neg hv] at h; exact Prod.mk.inj h
      have HV : Hid (vldB p0 dst ((l0.length : Int) + 1) 0 tick kind a b c d (mk_ p1 (bts ⟨p0, dst, (l0.length : Int) + 1, 0, tick, kind, a, b, c, d, 0⟩)) = false) := Lib.hid (vld_mk_no hv (mk_range p1 _))
      clear hv
      go_wp2_with (first | (go_at_call 34; with_reducible refine (rvalid_x p0 dst ((l0.length : Int) + 1) 0 tick kind a b c d (mk_ p1 (bts ⟨p0, dst, (l0.length : Int) + 1, 0, tick, kind, a, b, c, d, 0⟩)) _ HI9.out false HV.out).mono ?_; rintro e w2 ⟨rfl, hb⟩; have n1_ := Aside0.mk (HX.out.below hb); have n2_ := Aside0.mk (blk_below HS.out hb); clear HX HS; have HX := n1_; have HS := n2_; clear n1_ n2_ hb; have hv1_ : w2.cell? ⟨w.heap.size, 1, none⟩ = some (.int .i64 p1) := (blk_cell HX.out.b10 1).trans rfl; have hq0_ : w2.cell? ⟨w.heap.size + 1, 0, none⟩ = some (.int .i64 0) := (blk_cell HX.out.b18 0).trans rfl; have hf0_ := blk_frozen HX.out.b18 0; have hq1_ : w2.cell? ⟨w.heap.size + 1, 1, none⟩ = some (.int .i64 0) := (blk_cell HX.out.b18 1).trans rfl; have hf1_ := blk_frozen HX.out.b18 1; have hq2_ : w2.cell? ⟨w.heap.size + 1, 2, none⟩ = some (.int .i64 0) := (blk_cell HX.out.b18 2).trans rfl; have hf2_ := blk_frozen HX.out.b18 2; have hq3_ : w2.cell? ⟨w.heap.size + 1, 3, none⟩ = some (.int .i64 0) := (blk_cell HX.out.b18 3).trans rfl; have hf3_ := blk_frozen HX.out.b18 3; have hq4_ : w2.cell? ⟨w.heap.size + 1, 4, none⟩ = some (.int .i64 0) := (blk_cell HX.out.b18 4).trans rfl; have hf4_ := blk_frozen HX.out.b18 4; have hq5_ : w2.cell? ⟨w.heap.size + 1, 5, none⟩ = some (.int .i64 0) := (blk_cell HX.out.b18 5).trans rfl; have hf5_ := blk_frozen HX.out.b18 5; have hq6_ : w2.cell? ⟨w.heap.size + 1, 6, none⟩ = some (.int .i64 0) := (blk_cell HX.out.b18 6).trans rfl; have hf6_ := blk_frozen HX.out.b18 6; have hq7_ : w2.cell? ⟨w.heap.size + 1, 7, none⟩ = some (.int .i64 0) := (blk_cell HX.out.b18 7).trans rfl; have hf7_ := blk_frozen HX.out.b18 7; have hq8_ : w2.cell? ⟨w.heap.size + 1, 8, none⟩ = some (.int .i64 0) := (blk_cell HX.out.b18 8).trans rfl; have hf8_ := blk_frozen HX.out.b18 8; have hq9_ : w2.cell? ⟨w.heap.size + 1, 9, none⟩ = some (.int .i64 0) := (blk_cell HX.out.b18 9).trans rfl; have hf9_ := blk_frozen HX.out.b18 9; have hq10_ : w2.cell? ⟨w.heap.size + 1, 10, none⟩ = some (.int .i64 0) := (blk_cell HX.out.b18 10).trans rfl; have hf10_ := blk_frozen HX.out.b18 10))
      have HB := Aside0.mk HX.out.hb
      refine bodyPost_ret (results_ct rfl _ _ (w.heap.size + 1) 39 #[.int .i64 0, .int .i64 0, .int .i64 0, .int .i64 0, .int .i64 0, .int .i64 0, .int .i64 0, .int .i64 0, .int .i64 0, .int .i64 0, .int .i64 0] (0, 0) _ rfl (by (with_reducible exact put11 _ _ _ _ _ _ _ _ _ _ _ _ _ _ _ _ _ _ _ _ _ _ HX.out.b18)) Tryd.underlying39 rfl (by kernel_rfl)) rfl ?_
      exact ⟨rfl, by (repeat (with_reducible first | exact HB.out | exact Below.refl _ _ | apply below_alloc | apply pw_below_drewN | apply below_drew1 | refine below_set ?_ (Nat.le_succ _) | refine below_set ?_ HZ.out))⟩
     case pos =>
      obtain ⟨hr_, hre_⟩ : (⟨p0, dst, (l0.length : Int) + 1, 0, tick, kind, a, b, c, d, mk_ p1 (bts ⟨p0, dst, (l0.length : Int) + 1, 0, tick, kind, a, b, c, d, 0⟩)⟩ : S39) = r ∧ 0 = re := by have h := HF.out; unfold fin at h; rw [if_pos hv] at h; exact Prod.mk.inj h
      subst hr_
      subst hre_
      have HV : Hid (vldB p0 dst ((l0.length : Int) + 1) 0 tick kind a b c d (mk_ p1 (bts ⟨p0, dst, (l0.length : Int) + 1, 0, tick, kind, a, b, c, d, 0⟩)) = true) := Lib.hid (vldS_mark hv _ (mk_range p1 _))
      clear hv
      go_wp2_with (first | (go_at_call 34; with_reducible refine (rvalid_x p0 dst ((l0.length : Int) + 1) 0 tick kind a b c d (mk_ p1 (bts ⟨p0, dst, (l0.length : Int) + 1, 0, tick, kind, a, b, c, d, 0⟩)) _ HI9.out true HV.out).mono ?_; rintro e w2 ⟨rfl, hb⟩; have n1_ := Aside0.mk (HX.out.below hb); have n2_ := Aside0.mk (blk_below HS.out hb); clear HX HS; have HX := n1_; have HS := n2_; clear n1_ n2_ hb; have hv1_ : w2.cell? ⟨w.heap.size, 1, none⟩ = some (.int .i64 p1) := (blk_cell HX.out.b10 1).trans rfl; have hq0_ : w2.cell? ⟨w.heap.size + 1, 0, none⟩ = some (.int .i64 0) := (blk_cell HX.out.b18 0).trans rfl; have hf0_ := blk_frozen HX.out.b18 0; have hq1_ : w2.cell? ⟨w.heap.size + 1, 1, none⟩ = some (.int .i64 0) := (blk_cell HX.out.b18 1).trans rfl; have hf1_ := blk_frozen HX.out.b18 1; have hq2_ : w2.cell? ⟨w.heap.size + 1, 2, none⟩ = some (.int .i64 0) := (blk_cell HX.out.b18 2).trans rfl; have hf2_ := blk_frozen HX.out.b18 2; have hq3_ : w2.cell? ⟨w.heap.size + 1, 3, none⟩ = some (.int .i64 0) := (blk_cell HX.out.b18 3).trans rfl; have hf3_ := blk_frozen HX.out.b18 3; have hq4_ : w2.cell? ⟨w.heap.size + 1, 4, none⟩ = some (.int .i64 0) := (blk_cell HX.out.b18 4).trans rfl; have hf4_ := blk_frozen HX.out.b18 4; have hq5_ : w2.cell? ⟨w.heap.size + 1, 5, none⟩ = some (.int .i64 0) := (blk_cell HX.out.b18 5).trans rfl; have hf5_ := blk_frozen HX.out.b18 5; have hq6_ : w2.cell? ⟨w.heap.size + 1, 6, none⟩ = some (.int .i64 0) := (blk_cell HX.out.b18 6).trans rfl; have hf6_ := blk_frozen HX.out.b18 6; have hq7_ : w2.cell? ⟨w.heap.size + 1, 7, none⟩ = some (.int .i64 0) := (blk_cell HX.out.b18 7).trans rfl; have hf7_ := blk_frozen HX.out.b18 7; have hq8_ : w2.cell? ⟨w.heap.size + 1, 8, none⟩ = some (.int .i64 0) := (blk_cell HX.out.b18 8).trans rfl; have hf8_ := blk_frozen HX.out.b18 8; have hq9_ : w2.cell? ⟨w.heap.size + 1, 9, none⟩ = some (.int .i64 0) := (blk_cell HX.out.b18 9).trans rfl; have hf9_ := blk_frozen HX.out.b18 9; have hq10_ : w2.cell? ⟨w.heap.size + 1, 10, none⟩ = some (.int .i64 0) := (blk_cell HX.out.b18 10).trans rfl; have hf10_ := blk_frozen HX.out.b18 10; have hs0_ : w2.cell? ⟨wr.heap.size, 0, none⟩ = some _ := (blk_cell HS.out 0).trans rfl; have hs1_ : w2.cell? ⟨wr.heap.size, 1, none⟩ = some _ := (blk_cell HS.out 1).trans rfl; have hs2_ : w2.cell? ⟨wr.heap.size, 2, none⟩ = some _ := (blk_cell HS.out 2).trans rfl; have hs3_ : w2.cell? ⟨wr.heap.size, 3, none⟩ = some _ := (blk_cell HS.out 3).trans rfl; have hs4_ : w2.cell? ⟨wr.heap.size, 4, none⟩ = some _ := (blk_cell HS.out 4).trans rfl; have hs5_ : w2.cell? ⟨wr.heap.size, 5, none⟩ = some _ := (blk_cell HS.out 5).trans rfl; have hs6_ : w2.cell? ⟨wr.heap.size, 6, none⟩ = some _ := (blk_cell HS.out 6).trans rfl; have hs7_ : w2.cell? ⟨wr.heap.size, 7, none⟩ = some _ := (blk_cell HS.out 7).trans rfl; have hs8_ : w2.cell? ⟨wr.heap.size, 8, none⟩ = some _ := (blk_cell HS.out 8).trans rfl; have hs9_ : w2.cell? ⟨wr.heap.size, 9, none⟩ = some _ := (blk_cell HS.out 9).trans rfl; have hs10_ : w2.cell? ⟨wr.heap.size, 10, none⟩ = some _ := (blk_cell HS.out 10).trans rfl; have hzy2_ := blk_lt HX.out.b18))
      have HB := Aside0.mk HX.out.hb
      refine bodyPost_ret (results_ct rfl _ _ (w.heap.size + 1) 39 #[.int .i64 p0, .int .i64 dst, .int .i64 ((l0.length : Int) + 1), .int .i64 0, .int .i64 tick, .int .i64 kind, .int .i64 a, .int .i64 b, .int .i64 c, .int .i64 d, .int .i64 (mk_ p1 (bts ⟨p0, dst, (l0.length : Int) + 1, 0, tick, kind, a, b, c, d, 0⟩))] (0, 0) _ rfl (by (with_reducible exact put11 _ _ _ _ _ _ _ _ _ _ _ _ _ _ _ _ _ _ _ _ _ _ HX.out.b18)) Tryd.underlying39 rfl (by kernel_rfl)) rfl ?_
      exact ⟨rfl, by (repeat (with_reducible first | exact HB.out | exact Below.refl _ _ | apply below_alloc | apply pw_below_drewN | apply below_drew1 | refine below_set ?_ (Nat.le_succ _) | refine below_set ?_ HZ.out))⟩
    case neg =>
    have gz : decide (0 < l0.length) = true := decide_eq_true (by omega)
    have gz' : decide (0 < (l0.length : Int)) = true := decide_eq_true (by omega)
    obtain ⟨m, hm⟩ : ∃ m : Nat, l0.length = m + 1 := ⟨l0.length - 1, by omega⟩
    have hm1 : ((l0.length : Int) - 1) = (m : Int) := by omega
    have hml : m < l0.length := by omega
    obtain ⟨ad, ead, hx0, hx1, hx2, hx3, hx4, hx5, hx6, hx7, hx8, hx9, hx10⟩ := at_T39 HR.out m (by omega) (by omega)
    cases ead
    replace hx0 := (HX.out.hb.cell (World.block_lt_of_cell? w _ hx0)).trans hx0
    replace hx1 := (HX.out.hb.cell (World.block_lt_of_cell? w _ hx1)).trans hx1
    replace hx2 := (HX.out.hb.cell (World.block_lt_of_cell? w _ hx2)).trans hx2
    replace hx3 := (HX.out.hb.cell (World.block_lt_of_cell? w _ hx3)).trans hx3
    replace hx4 := (HX.out.hb.cell (World.block_lt_of_cell? w _ hx4)).trans hx4
    replace hx5 := (HX.out.hb.cell (World.block_lt_of_cell? w _ hx5)).trans hx5
    replace hx6 := (HX.out.hb.cell (World.block_lt_of_cell? w _ hx6)).trans hx6
    replace hx7 := (HX.out.hb.cell (World.block_lt_of_cell? w _ hx7)).trans hx7
    replace hx8 := (HX.out.hb.cell (World.block_lt_of_cell? w _ hx8)).trans hx8
    replace hx9 := (HX.out.hb.cell (World.block_lt_of_cell? w _ hx9)).trans hx9
    replace hx10 := (HX.out.hb.cell (World.block_lt_of_cell? w _ hx10)).trans hx10
    simp only [Int.toNat_natCast] at hx0 hx1 hx2 hx3 hx4 hx5 hx6 hx7 hx8 hx9 hx10
    obtain ⟨e, he⟩ : ∃ e, e = rd_T39 l0 m := ⟨_, rfl⟩
    rw [← he] at hx0 hx1 hx2 hx3 hx4 hx5 hx6 hx7 hx8 hx9 hx10
    have heW : W64 e := by rw [he, rd_get l0 m hml]; exact HW.out _ (List.getElem_mem hml)
    have HN3 : Hid ((if tick < e.f4 then (z39, 22) else fin p0 p1 dst ((l0.length : Int) + 1) (dg 1 (bts e)) tick kind a b c d) = (r, re)) := Lib.hid (by
     have h := HN2.out
     rw [List.getLast?_eq_getElem?, show l0.length - 1 = m by omega, List.getElem?_eq_getElem hml, ← rd_get l0 m hml, ← he] at h
     exact h)
    have hadl := World.block_lt_of_cell? wr _ hx0
    have HEW := Aside0.mk heW
    have HM1 := Lib.hid hm1
    clear he heW hm HN2 hz hm1
    obtain ⟨y0, y1, y2, y3, y4, y5, y6, y7, y8, y9, y10⟩ := e
    simp only at hx0 hx1 hx2 hx3 hx4 hx5 hx6 hx7 hx8 hx9 hx10
    have hm2 : IntKind.i64.wrap ((l0.length : Int) - 1) = (m : Int) := by rw [HM1.out]; exact IntWalk.i64_in _ (by omega)
    have hm3 : wrap64 ((l0.length : Int) - 1) = (m : Int) := by rw [HM1.out]; exact w64 (by omega)
    have hm4 : (l0.length : Int) - 1 = (m : Int) := HM1.out
    have HZ := Aside0.mk (Nat.le_of_lt hz0)
    by_cases ht : tick < y4
    case pos =>
     obtain ⟨rfl, rfl⟩ : z39 = r ∧ 22 = re := by have h := HN3.out; rw [if_pos ht] at h; exact Prod.mk.inj h
     have ht1 : decide (tick < y4) = true := decide_eq_true ht
     clear ht
     go_wp2
     have HB := Aside0.mk HX.out.hb
     refine bodyPost_ret (results_ct rfl _ _ (w.heap.size + 1) 39 #[.int .i64 0, .int .i64 0, .int .i64 0, .int .i64 0, .int .i64 0, .int .i64 0, .int .i64 0, .int .i64 0, .int .i64 0, .int .i64 0, .int .i64 0] (0, 0) _ rfl (by (repeat (with_reducible refine blk_alloc ?_ _)); (with_reducible exact put11 _ _ _ _ _ _ _ _ _ _ _ _ _ _ _ _ _ _ _ _ _ _ (by (repeat (with_reducible refine blk_alloc ?_ _)); exact HX.out.b18))) Tryd.underlying39 rfl (by kernel_rfl)) rfl ?_
     exact ⟨rfl, by (repeat (with_reducible first | exact HB.out | exact Below.refl _ _ | apply below_alloc | apply pw_below_drewN | apply below_drew1 | refine below_set ?_ (Nat.le_succ _) | refine below_set ?_ HZ.out))⟩
    case neg =>
    have HF0 : Hid (fin p0 p1 dst ((l0.length : Int) + 1) (dg 1 (bts ⟨y0, y1, y2, y3, y4, y5, y6, y7, y8, y9, y10⟩)) tick kind a b c d = (r, re)) := Lib.hid (by have h := HN3.out; rw [if_neg ht] at h; exact h)
    have ht1 : decide (tick < y4) = false := decide_eq_false ht
    clear ht HN3
    obtain ⟨dgl, hdg⟩ : ∃ z, dg 1 (bts ⟨y0, y1, y2, y3, y4, y5, y6, y7, y8, y9, y10⟩) = z := ⟨_, rfl⟩
    have hdr : 0 ≤ dgl ∧ dgl < 2147483647 := by rw [← hdg]; exact dg_range _ 1 (by omega)
    have HF : Hid (fin p0 p1 dst ((l0.length : Int) + 1) dgl tick kind a b c d = (r, re)) := Lib.hid (by rw [← hdg]; exact HF0.out)
    have HDG := Lib.hid hdg
    have HDR := Aside0.mk hdr
    clear hdg hdr HF0
    replace HX := Aside0.mk ((HX.out.alloc (.cells #[.int .i64 p0, .int .i64 dst, .int .i64 ((l0.length : Int) + 1), .int .i64 0, .int .i64 tick, .int .i64 kind, .int .i64 a, .int .i64 b, .int .i64 c, .int .i64 d, .int .i64 0] 39)).alloc (.cells #[.int .i64 y0, .int .i64 y1, .int .i64 y2, .int .i64 y3, .int .i64 y4, .int .i64 y5, .int .i64 y6, .int .i64 y7, .int .i64 y8, .int .i64 y9, .int .i64 y10] 39))
    replace HS := Aside0.mk (blk_alloc HS.out (.cells #[.int .i64 y0, .int .i64 y1, .int .i64 y2, .int .i64 y3, .int .i64 y4, .int .i64 y5, .int .i64 y6, .int .i64 y7, .int .i64 y8, .int .i64 y9, .int .i64 y10] 39))
    go_upto_if 73 with fail
    go_cut [] (fun wx => Aside0 (NxW w wx p0 p1) ∧ Aside0 (wx.heap[wr.heap.size]? = some (.cells #[.int .i64 p0, .int .i64 dst, .int .i64 ((l0.length : Int) + 1), .int .i64 dgl, .int .i64 tick, .int .i64 kind, .int .i64 a, .int .i64 b, .int .i64 c, .int .i64 d, .int .i64 0] 39 (0, 0))))
    case first =>
     go_wp2_with (first | (go_at_call 32; with_reducible refine (rbytes_x y0 y1 y2 y3 y4 y5 y6 y7 y8 y9 y10 HEW.out _).mono ?_; rintro e w5 ⟨rfl, hb⟩; have n1_ := Aside0.mk (HX.out.below hb); have n2_ := Aside0.mk (blk_below HS.out hb); clear HX HS; have HX := n1_; have HS := n2_; clear n1_ n2_ hb) | (go_at_call 31; with_reducible refine (rsum_x _ (Nat.le_trans (bts_len HEW.out) (by omega)) _).mono ?_; rintro e w6 ⟨rfl, hb⟩; have n1_ := Aside0.mk (HX.out.below hb); have n2_ := Aside0.mk (blk_below HS.out hb); clear HX HS; have HX := n1_; have HS := n2_; clear n1_ n2_ hb; have hs0_ : w6.cell? ⟨wr.heap.size, 0, none⟩ = some _ := (blk_cell HS.out 0).trans rfl; have hs1_ : w6.cell? ⟨wr.heap.size, 1, none⟩ = some _ := (blk_cell HS.out 1).trans rfl; have hs2_ : w6.cell? ⟨wr.heap.size, 2, none⟩ = some _ := (blk_cell HS.out 2).trans rfl; have hs3_ : w6.cell? ⟨wr.heap.size, 3, none⟩ = some _ := (blk_cell HS.out 3).trans rfl; have hs4_ : w6.cell? ⟨wr.heap.size, 4, none⟩ = some _ := (blk_cell HS.out 4).trans rfl; have hs5_ : w6.cell? ⟨wr.heap.size, 5, none⟩ = some _ := (blk_cell HS.out 5).trans rfl; have hs6_ : w6.cell? ⟨wr.heap.size, 6, none⟩ = some _ := (blk_cell HS.out 6).trans rfl; have hs7_ : w6.cell? ⟨wr.heap.size, 7, none⟩ = some _ := (blk_cell HS.out 7).trans rfl; have hs8_ : w6.cell? ⟨wr.heap.size, 8, none⟩ = some _ := (blk_cell HS.out 8).trans rfl; have hs9_ : w6.cell? ⟨wr.heap.size, 9, none⟩ = some _ := (blk_cell HS.out 9).trans rfl; have hs10_ : w6.cell? ⟨wr.heap.size, 10, none⟩ = some _ := (blk_cell HS.out 10).trans rfl; have hzz := blk_lt HS.out; have hg3_ := blk_frozen HS.out 3; rw [HDG.out]))
     go_meet
     exact ⟨⟨HX.out.set hz1 _ _⟩, ⟨blk_put HS.out 3 _ rfl⟩⟩
    case rest =>
     obtain ⟨HX, HS⟩ := hcut
     have hs00_ : wc.cell? ⟨wr.heap.size, 0, none⟩ = some _ := (blk_cell HS.out 0).trans rfl
     have hs10_ : wc.cell? ⟨wr.heap.size, 1, none⟩ = some _ := (blk_cell HS.out 1).trans rfl
     have hs20_ : wc.cell? ⟨wr.heap.size, 2, none⟩ = some _ := (blk_cell HS.out 2).trans rfl
     have hs30_ : wc.cell? ⟨wr.heap.size, 3, none⟩ = some _ := (blk_cell HS.out 3).trans rfl
     have hs40_ : wc.cell? ⟨wr.heap.size, 4, none⟩ = some _ := (blk_cell HS.out 4).trans rfl
     have hs50_ : wc.cell? ⟨wr.heap.size, 5, none⟩ = some _ := (blk_cell HS.out 5).trans rfl
     have hs60_ : wc.cell? ⟨wr.heap.size, 6, none⟩ = some _ := (blk_cell HS.out 6).trans rfl
     have hs70_ : wc.cell? ⟨wr.heap.size, 7, none⟩ = some _ := (blk_cell HS.out 7).trans rfl
     have hs80_ : wc.cell? ⟨wr.heap.size, 8, none⟩ = some _ := (blk_cell HS.out 8).trans rfl
     have hs90_ : wc.cell? ⟨wr.heap.size, 9, none⟩ = some _ := (blk_cell HS.out 9).trans rfl
     have hs100_ : wc.cell? ⟨wr.heap.size, 10, none⟩ = some _ := (blk_cell HS.out 10).trans rfl
     have hv1c_ : wc.cell? ⟨w.heap.size, 1, none⟩ = some (.int .i64 p1) := (blk_cell HX.out.b10 1).trans rfl
     have hzzc := blk_lt HS.out
     have hf10c := blk_frozen HS.out 10
     have HWS : Aside0 (W64 ⟨p0, dst, (l0.length : Int) + 1, dgl, tick, kind, a, b, c, d, 0⟩) := ⟨by obtain ⟨i0, i2, i3, i4, i5, i6, i7, i8⟩ := HI.out; exact ⟨i0, i2, by show I64 ((l0.length : Int) + 1); unfold I64; omega, (by show I64 dgl; have := HDR.out; unfold I64; omega), i3, i4, i5, i6, i7, i8, by show I64 0; unfold I64; omega⟩⟩
     have HSL : Aside0 ((bts ⟨p0, dst, (l0.length : Int) + 1, dgl, tick, kind, a, b, c, d, 0⟩).length ≤ 1000) := ⟨Nat.le_trans (bts_len HWS.out) (by omega)⟩
     have HI9 : Aside0 (I64 d) := ⟨HI.out.2.2.2.2.2.2.2⟩
     go_upto_region 17 with (first | fail)
     go_cut [] (fun wx => Aside0 (NxW w wx p0 p1) ∧ Aside0 (wx.heap[wr.heap.size]? = some (.cells #[.int .i64 p0, .int .i64 dst, .int .i64 ((l0.length : Int) + 1), .int .i64 dgl, .int .i64 tick, .int .i64 kind, .int .i64 a, .int .i64 b, .int .i64 c, .int .i64 d, .int .i64 (mk_ p1 (bts ⟨p0, dst, (l0.length : Int) + 1, dgl, tick, kind, a, b, c, d, 0⟩))] 39 (0, 0))))
     case first =>
      go_region_with (first | (go_at_call 32; with_reducible refine (rbytes_x p0 dst ((l0.length : Int) + 1) dgl tick kind a b c d 0 HWS.out _).mono ?_; rintro e w3 ⟨rfl, hb⟩; have hb_ := below_step (show Below wc.heap.size wc _ from by (repeat (with_reducible first | exact Below.refl _ _ | apply below_alloc | apply pw_below_drewN | apply below_drew1))) hb; clear hb; have hb := hb_; clear hb_; have n1_ := Aside0.mk (HX.out.below hb); have n2_ := Aside0.mk (blk_below HS.out hb); clear HX HS; have HX := n1_; have HS := n2_; clear n1_ n2_ hb; have hv1_ : w3.cell? ⟨w.heap.size, 1, none⟩ = some (.int .i64 p1) := (blk_cell HX.out.b10 1).trans rfl; have hs0_ : w3.cell? ⟨wr.heap.size, 0, none⟩ = some _ := (blk_cell HS.out 0).trans rfl; have hs1_ : w3.cell? ⟨wr.heap.size, 1, none⟩ = some _ := (blk_cell HS.out 1).trans rfl; have hs2_ : w3.cell? ⟨wr.heap.size, 2, none⟩ = some _ := (blk_cell HS.out 2).trans rfl; have hs3_ : w3.cell? ⟨wr.heap.size, 3, none⟩ = some _ := (blk_cell HS.out 3).trans rfl; have hs4_ : w3.cell? ⟨wr.heap.size, 4, none⟩ = some _ := (blk_cell HS.out 4).trans rfl; have hs5_ : w3.cell? ⟨wr.heap.size, 5, none⟩ = some _ := (blk_cell HS.out 5).trans rfl; have hs6_ : w3.cell? ⟨wr.heap.size, 6, none⟩ = some _ := (blk_cell HS.out 6).trans rfl; have hs7_ : w3.cell? ⟨wr.heap.size, 7, none⟩ = some _ := (blk_cell HS.out 7).trans rfl; have hs8_ : w3.cell? ⟨wr.heap.size, 8, none⟩ = some _ := (blk_cell HS.out 8).trans rfl; have hs9_ : w3.cell? ⟨wr.heap.size, 9, none⟩ = some _ := (blk_cell HS.out 9).trans rfl; have hs10_ : w3.cell? ⟨wr.heap.size, 10, none⟩ = some _ := (blk_cell HS.out 10).trans rfl) | (go_at_call 33; with_reducible refine (rsign_x p1 _ HP.out.2 HSL.out _).mono ?_; rintro e w4 ⟨rfl, hb⟩; have hb_ := below_step (show Below w3.heap.size w3 _ from by (repeat (with_reducible first | exact Below.refl _ _ | apply below_alloc | apply pw_below_drewN | apply below_drew1))) hb; clear hb; have hb := hb_; clear hb_; have n1_ := Aside0.mk (HX.out.below hb); have n2_ := Aside0.mk (blk_below HS.out hb); clear HX HS; have HX := n1_; have HS := n2_; clear n1_ n2_ hb; have hv1_ : w4.cell? ⟨w.heap.size, 1, none⟩ = some (.int .i64 p1) := (blk_cell HX.out.b10 1).trans rfl; have hs0_ : w4.cell? ⟨wr.heap.size, 0, none⟩ = some _ := (blk_cell HS.out 0).trans rfl; have hs1_ : w4.cell? ⟨wr.heap.size, 1, none⟩ = some _ := (blk_cell HS.out 1).trans rfl; have hs2_ : w4.cell? ⟨wr.heap.size, 2, none⟩ = some _ := (blk_cell HS.out 2).trans rfl; have hs3_ : w4.cell? ⟨wr.heap.size, 3, none⟩ = some _ := (blk_cell HS.out 3).trans rfl; have hs4_ : w4.cell? ⟨wr.heap.size, 4, none⟩ = some _ := (blk_cell HS.out 4).trans rfl; have hs5_ : w4.cell? ⟨wr.heap.size, 5, none⟩ = some _ := (blk_cell HS.out 5).trans rfl; have hs6_ : w4.cell? ⟨wr.heap.size, 6, none⟩ = some _ := (blk_cell HS.out 6).trans rfl; have hs7_ : w4.cell? ⟨wr.heap.size, 7, none⟩ = some _ := (blk_cell HS.out 7).trans rfl; have hs8_ : w4.cell? ⟨wr.heap.size, 8, none⟩ = some _ := (blk_cell HS.out 8).trans rfl; have hs9_ : w4.cell? ⟨wr.heap.size, 9, none⟩ = some _ := (blk_cell HS.out 9).trans rfl; have hs10_ : w4.cell? ⟨wr.heap.size, 10, none⟩ = some _ := (blk_cell HS.out 10).trans rfl; have hzz_ := blk_lt HS.out; have hf10_ := blk_frozen HS.out 10))
      all_goals (go_wp2_with fail; go_meet; exact ⟨⟨HX.out.set hz1 _ _⟩, ⟨blk_put HS.out 10 _ rfl⟩⟩)
     case rest =>
     obtain ⟨HX, HS⟩ := hcut
     have hsc0_ : wc.cell? ⟨wr.heap.size, 0, none⟩ = some _ := (blk_cell HS.out 0).trans rfl
     have hsc1_ : wc.cell? ⟨wr.heap.size, 1, none⟩ = some _ := (blk_cell HS.out 1).trans rfl
     have hsc2_ : wc.cell? ⟨wr.heap.size, 2, none⟩ = some _ := (blk_cell HS.out 2).trans rfl
     have hsc3_ : wc.cell? ⟨wr.heap.size, 3, none⟩ = some _ := (blk_cell HS.out 3).trans rfl
     have hsc4_ : wc.cell? ⟨wr.heap.size, 4, none⟩ = some _ := (blk_cell HS.out 4).trans rfl
     have hsc5_ : wc.cell? ⟨wr.heap.size, 5, none⟩ = some _ := (blk_cell HS.out 5).trans rfl
     have hsc6_ : wc.cell? ⟨wr.heap.size, 6, none⟩ = some _ := (blk_cell HS.out 6).trans rfl
     have hsc7_ : wc.cell? ⟨wr.heap.size, 7, none⟩ = some _ := (blk_cell HS.out 7).trans rfl
     have hsc8_ : wc.cell? ⟨wr.heap.size, 8, none⟩ = some _ := (blk_cell HS.out 8).trans rfl
     have hsc9_ : wc.cell? ⟨wr.heap.size, 9, none⟩ = some _ := (blk_cell HS.out 9).trans rfl
     have hsc10_ : wc.cell? ⟨wr.heap.size, 10, none⟩ = some _ := (blk_cell HS.out 10).trans rfl
     have hzz := blk_lt HS.out
     have hzy := blk_lt HX.out.b18
     have HZ := Aside0.mk (Nat.le_of_lt hz0)
     by_cases hv : vldS ⟨p0, dst, (l0.length : Int) + 1, dgl, tick, kind, a, b, c, d, 0⟩ = true
     case neg =>
      obtain ⟨rfl, rfl⟩ : z39 = r ∧ 2 = re := by have h := HF.out; unfold fin at h; rw [if_neg hv] at h; exact Prod.mk.inj h
      have HV : Hid (vldB p0 dst ((l0.length : Int) + 1) dgl tick kind a b c d (mk_ p1 (bts ⟨p0, dst, (l0.length : Int) + 1, dgl, tick, kind, a, b, c, d, 0⟩)) = false) := Lib.hid (vld_mk_no hv (mk_range p1 _))
      clear hv
      go_wp2_with (first | (go_at_call 34; with_reducible refine (rvalid_x p0 dst ((l0.length : Int) + 1) dgl tick kind a b c d (mk_ p1 (bts ⟨p0, dst, (l0.length : Int) + 1, dgl, tick, kind, a, b, c, d, 0⟩)) _ HI9.out false HV.out).mono ?_; rintro e w2 ⟨rfl, hb⟩; have n1_ := Aside0.mk (HX.out.below hb); have n2_ := Aside0.mk (blk_below HS.out hb); clear HX HS; have HX := n1_; have HS := n2_; clear n1_ n2_ hb; have hv1_ : w2.cell? ⟨w.heap.size, 1, none⟩ = some (.int .i64 p1) := (blk_cell HX.out.b10 1).trans rfl; have hq0_ : w2.cell? ⟨w.heap.size + 1, 0, none⟩ = some (.int .i64 0) := (blk_cell HX.out.b18 0).trans rfl; have hf0_ := blk_frozen HX.out.b18 0; have hq1_ : w2.cell? ⟨w.heap.size + 1, 1, none⟩ = some (.int .i64 0) := (blk_cell HX.out.b18 1).trans rfl; have hf1_ := blk_frozen HX.out.b18 1; have hq2_ : w2.cell? ⟨w.heap.size + 1, 2, none⟩ = some (.int .i64 0) := (blk_cell HX.out.b18 2).trans rfl; have hf2_ := blk_frozen HX.out.b18 2; have hq3_ : w2.cell? ⟨w.heap.size + 1, 3, none⟩ = some (.int .i64 0) := (blk_cell HX.out.b18 3).trans rfl; have hf3_ := blk_frozen HX.out.b18 3; have hq4_ : w2.cell? ⟨w.heap.size + 1, 4, none⟩ = some (.int .i64 0) := (blk_cell HX.out.b18 4).trans rfl; have hf4_ := blk_frozen HX.out.b18 4; have hq5_ : w2.cell? ⟨w.heap.size + 1, 5, none⟩ = some (.int .i64 0) := (blk_cell HX.out.b18 5).trans rfl; have hf5_ := blk_frozen HX.out.b18 5; have hq6_ : w2.cell? ⟨w.heap.size + 1, 6, none⟩ = some (.int .i64 0) := (blk_cell HX.out.b18 6).trans rfl; have hf6_ := blk_frozen HX.out.b18 6; have hq7_ : w2.cell? ⟨w.heap.size + 1, 7, none⟩ = some (.int .i64 0) := (blk_cell HX.out.b18 7).trans rfl; have hf7_ := blk_frozen HX.out.b18 7; have hq8_ : w2.cell? ⟨w.heap.size + 1, 8, none⟩ = some (.int .i64 0) := (blk_cell HX.out.b18 8).trans rfl; have hf8_ := blk_frozen HX.out.b18 8; have hq9_ : w2.cell? ⟨w.heap.size + 1, 9, none⟩ = some (.int .i64 0) := (blk_cell HX.out.b18 9).trans rfl; have hf9_ := blk_frozen HX.out.b18 9; have hq10_ : w2.cell? ⟨w.heap.size + 1, 10, none⟩ = some (.int .i64 0) := (blk_cell HX.out.b18 10).trans rfl; have hf10_ := blk_frozen HX.out.b18 10))
      have HB := Aside0.mk HX.out.hb
      refine bodyPost_ret (results_ct rfl _ _ (w.heap.size + 1) 39 #[.int .i64 0, .int .i64 0, .int .i64 0, .int .i64 0, .int .i64 0, .int .i64 0, .int .i64 0, .int .i64 0, .int .i64 0, .int .i64 0, .int .i64 0] (0, 0) _ rfl (by (with_reducible exact put11 _ _ _ _ _ _ _ _ _ _ _ _ _ _ _ _ _ _ _ _ _ _ HX.out.b18)) Tryd.underlying39 rfl (by kernel_rfl)) rfl ?_
      exact ⟨rfl, by (repeat (with_reducible first | exact HB.out | exact Below.refl _ _ | apply below_alloc | apply pw_below_drewN | apply below_drew1 | refine below_set ?_ (Nat.le_succ _) | refine below_set ?_ HZ.out))⟩
     case pos =>
      obtain ⟨hr_, hre_⟩ : (⟨p0, dst, (l0.length : Int) + 1, dgl, tick, kind, a, b, c, d, mk_ p1 (bts ⟨p0, dst, (l0.length : Int) + 1, dgl, tick, kind, a, b, c, d, 0⟩)⟩ : S39) = r ∧ 0 = re := by have h := HF.out; unfold fin at h; rw [if_pos hv] at h; exact Prod.mk.inj h
      subst hr_
      subst hre_
      have HV : Hid (vldB p0 dst ((l0.length : Int) + 1) dgl tick kind a b c d (mk_ p1 (bts ⟨p0, dst, (l0.length : Int) + 1, dgl, tick, kind, a, b, c, d, 0⟩)) = true) := Lib.hid (vldS_mark hv _ (mk_range p1 _))
      clear hv
      go_wp2_with (first | (go_at_call 34; with_reducible refine (rvalid_x p0 dst ((l0.length : Int) + 1) dgl tick kind a b c d (mk_ p1 (bts ⟨p0, dst, (l0.length : Int) + 1, dgl, tick, kind, a, b, c, d, 0⟩)) _ HI9.out true HV.out).mono ?_; rintro e w2 ⟨rfl, hb⟩; have n1_ := Aside0.mk (HX.out.below hb); have n2_ := Aside0.mk (blk_below HS.out hb); clear HX HS; have HX := n1_; have HS := n2_; clear n1_ n2_ hb; have hv1_ : w2.cell? ⟨w.heap.size, 1, none⟩ = some (.int .i64 p1) := (blk_cell HX.out.b10 1).trans rfl; have hq0_ : w2.cell? ⟨w.heap.size + 1, 0, none⟩ = some (.int .i64 0) := (blk_cell HX.out.b18 0).trans rfl; have hf0_ := blk_frozen HX.out.b18 0; have hq1_ : w2.cell? ⟨w.heap.size + 1, 1, none⟩ = some (.int .i64 0) := (blk_cell HX.out.b18 1).trans rfl; have hf1_ := blk_frozen HX.out.b18 1; have hq2_ : w2.cell? ⟨w.heap.size + 1, 2, none⟩ = some (.int .i64 0) := (blk_cell HX.out.b18 2).trans rfl; have hf2_ := blk_frozen HX.out.b18 2; have hq3_ : w2.cell? ⟨w.heap.size + 1, 3, none⟩ = some (.int .i64 0) := (blk_cell HX.out.b18 3).trans rfl; have hf3_ := blk_frozen HX.out.b18 3; have hq4_ : w2.cell? ⟨w.heap.size + 1, 4, none⟩ = some (.int .i64 0) := (blk_cell HX.out.b18 4).trans rfl; have hf4_ := blk_frozen HX.out.b18 4; have hq5_ : w2.cell? ⟨w.heap.size + 1, 5, none⟩ = some (.int .i64 0) := (blk_cell HX.out.b18 5).trans rfl; have hf5_ := blk_frozen HX.out.b18 5; have hq6_ : w2.cell? ⟨w.heap.size + 1, 6, none⟩ = some (.int .i64 0) := (blk_cell HX.out.b18 6).trans rfl; have hf6_ := blk_frozen HX.out.b18 6; have hq7_ : w2.cell? ⟨w.heap.size + 1, 7, none⟩ = some (.int .i64 0) := (blk_cell HX.out.b18 7).trans rfl; have hf7_ := blk_frozen HX.out.b18 7; have hq8_ : w2.cell? ⟨w.heap.size + 1, 8, none⟩ = some (.int .i64 0) := (blk_cell HX.out.b18 8).trans rfl; have hf8_ := blk_frozen HX.out.b18 8; have hq9_ : w2.cell? ⟨w.heap.size + 1, 9, none⟩ = some (.int .i64 0) := (blk_cell HX.out.b18 9).trans rfl; have hf9_ := blk_frozen HX.out.b18 9; have hq10_ : w2.cell? ⟨w.heap.size + 1, 10, none⟩ = some (.int .i64 0) := (blk_cell HX.out.b18 10).trans rfl; have hf10_ := blk_frozen HX.out.b18 10; have hs0_ : w2.cell? ⟨wr.heap.size, 0, none⟩ = some _ := (blk_cell HS.out 0).trans rfl; have hs1_ : w2.cell? ⟨wr.heap.size, 1, none⟩ = some _ := (blk_cell HS.out 1).trans rfl; have hs2_ : w2.cell? ⟨wr.heap.size, 2, none⟩ = some _ := (blk_cell HS.out 2).trans rfl; have hs3_ : w2.cell? ⟨wr.heap.size, 3, none⟩ = some _ := (blk_cell HS.out 3).trans rfl; have hs4_ : w2.cell? ⟨wr.heap.size, 4, none⟩ = some _ := (blk_cell HS.out 4).trans rfl; have hs5_ : w2.cell? ⟨wr.heap.size, 5, none⟩ = some _ := (blk_cell HS.out 5).trans rfl; have hs6_ : w2.cell? ⟨wr.heap.size, 6, none⟩ = some _ := (blk_cell HS.out 6).trans rfl; have hs7_ : w2.cell? ⟨wr.heap.size, 7, none⟩ = some _ := (blk_cell HS.out 7).trans rfl; have hs8_ : w2.cell? ⟨wr.heap.size, 8, none⟩ = some _ := (blk_cell HS.out 8).trans rfl; have hs9_ : w2.cell? ⟨wr.heap.size, 9, none⟩ = some _ := (blk_cell HS.out 9).trans rfl; have hs10_ : w2.cell? ⟨wr.heap.size, 10, none⟩ = some _ := (blk_cell HS.out 10).trans rfl; have hzy2_ := blk_lt HX.out.b18))
      have HB := Aside0.mk HX.out.hb
      refine bodyPost_ret (results_ct rfl _ _ (w.heap.size + 1) 39 #[.int .i64 p0, .int .i64 dst, .int .i64 ((l0.length : Int) + 1), .int .i64 dgl, .int .i64 tick, .int .i64 kind, .int .i64 a, .int .i64 b, .int .i64 c, .int .i64 d, .int .i64 (mk_ p1 (bts ⟨p0, dst, (l0.length : Int) + 1, dgl, tick, kind, a, b, c, d, 0⟩))] (0, 0) _ rfl (by (with_reducible exact put11 _ _ _ _ _ _ _ _ _ _ _ _ _ _ _ _ _ _ _ _ _ _ HX.out.b18)) Tryd.underlying39 rfl (by kernel_rfl)) rfl ?_
      exact ⟨rfl, by (repeat (with_reducible first | exact HB.out | exact Below.refl _ _ | apply below_alloc | apply pw_below_drewN | apply below_drew1 | refine below_set ?_ (Nat.le_succ _) | refine below_set ?_ HZ.out))⟩
end Go.Proofs.YtcalkhlchjjalaaDoor.Grn

namespace Go.Proofs.YtcalkhlchjjalaaDoor.Grf
open Go Go.RowKit Go.Proofs Go.Proofs.YtcalkhlchjjalaaDoor.Gm Go.Proofs.YtcalkhlchjjalaaDoor.Gdm Go.Proofs.YtcalkhlchjjalaaDoor.Gmr Go.Proofs.YtcalkhlchjjalaaDoor.Gsy Go.Proofs.YtcalkhlchjjalaaDoor.Gnx Go.Proofs.YtcalkhlchjjalaaDoor.Ggd Go.Proofs.YtcalkhlchjjalaaDoor.Q Go.Proofs.YtcalkhlchjjalaaDoorW.PrintWords Go.Proofs.YtcalkhlchjjalaaDoorW.PrintLast Go.Proofs.YtcalkhlchjjalaaDoorW.PrintMore
set_option linter.unusedVariables false
def isB (i : Nat) : Bool := decide (i < 512 ∧ i % 8 = 7) || decide (512 ≤ i ∧ i < 576)
def okc (i : Nat) (v : Option Value) : Prop := if isB i = true then ∃ b, v = some (.bool b) else ∃ x, v = some (.int .i64 x) ∧ I64 x
structure St (cs : Array Value) : Prop where
 sz : cs.size = 640
 ok : ∀ i, i < 640 → okc i cs[i]?
theorem St.set {cs : Array Value} (h : St cs) (i : Nat) (v : Value) (hv : okc i (some v)) : St (cs.setIfInBounds i v) := by
 refine ⟨by rw [Array.size_setIfInBounds]; exact h.sz, fun j hj => ?_⟩
 rw [Array.getElem?_setIfInBounds]
 split
 ·rename_i e
  subst e
  rw [if_pos (by rw [h.sz]; exact hj)]
  exact hv
 ·exact h.ok j hj
theorem St.int {cs : Array Value} (h : St cs) (i : Nat) (hi : i < 640) (hb : isB i = false) : ∃ x, cs[i]? = some (.int .i64 x) ∧ I64 x := by
 have := h.ok i hi
 unfold okc at this
 rwa [if_neg (by rw [hb]; simp)] at this
theorem St.bool {cs : Array Value} (h : St cs) (i : Nat) (hi : i < 640) (hb : isB i = true) : ∃ b, cs[i]? = some (.bool b) := by
 have := h.ok i hi
 unfold okc at this
 rwa [if_pos hb] at this
theorem isB_l {n j : Nat} (hn : n < 64) (hj : j < 7) : isB (n * 8 + j) = false := by unfold isB; rw [decide_eq_false (by omega), decide_eq_false (by omega)]; rfl
theorem isB_r {n : Nat} (hn : n < 64) : isB (n * 8 + 7) = true := by unfold isB; rw [decide_eq_true (by omega)]; rfl
theorem isB_o {n : Nat} (hn : n < 64) : isB (512 + n) = true := by unfold isB; rw [decide_eq_false (by omega), decide_eq_true (by omega)]; rfl
theorem isB_u {n : Nat} (hn : n < 64) : isB (576 + n) = false := by unfold isB; rw [decide_eq_false (by omega), decide_eq_false (by omega)]; rfl
theorem okc_int {i : Nat} (h : isB i = false) {x : Int} (hx : I64 x) : okc i (some (.int .i64 x)) := by unfold okc; rw [if_neg (by rw [h]; simp)]; exact ⟨x, rfl, hx⟩
theorem okc_bool {i : Nat} (h : isB i = true) (b : Bool) : okc i (some (.bool b)) := by unfold okc; rw [if_pos h]; exact ⟨b, rfl⟩
structure SW (w w1 W : World) (gs : Nat) (cs : Array Value) : Prop where
 hb : Below w.heap.size w W
 l : w.heap.size ≤ gs
 b : W.heap[gs]? = some (.cells cs 108 (0, 0))
 kp : KeepBut w1 W gs none
 st : St cs
section
variable {w w1 W W' : World} {gs : Nat} {cs : Array Value}
theorem SW.below (h : SW w w1 W gs cs) (hb : Below W.heap.size W W') : SW w w1 W' gs cs := ⟨below_step h.hb hb, h.l, blk_below h.b hb, h.kp.trans (KeepBut.of_below hb gs none) (.inl rfl), h.st⟩
theorem SW.alloc (h : SW w w1 W gs cs) (o : Obj) : SW w w1 (W.alloc o) gs cs := h.below (below_alloc (Below.refl _ _) o)
theorem SW.drew (h : SW w w1 W gs cs) : SW w w1 W.drew gs cs := h.below (below_drew1 (Below.refl _ _))
theorem SW.set (h : SW w w1 W gs cs) (i : Nat) (v : Value) (hv : okc i (some v)) : SW w w1 (W.setCell ⟨gs, i, none⟩ v) gs (cs.setIfInBounds i v) :=
 ⟨below_set h.hb h.l, h.l, blk_put h.b i v rfl, h.kp.set_ i v, h.st.set i v hv⟩
end
set_option maxRecDepth 100000 in
set_option maxHeartbeats 8000000 in
theorem force_b (cs : Array Value) (hs : St cs) (n : Nat) (hn : n < 64) (tick : Int) : ∃ b, ∀ (w : World) (gs : Nat), w.heap[gs]? = some (.cells cs 108 (0, 0)) →
 Calls Tryd.prog 66 #[.pointer (some ⟨gs, 0, none⟩), .int .i64 (n : Int), .int .i64 tick] w fun e w' => e = .returned (.bool b) ∧ w' = w := by
 obtain ⟨b, hb1⟩ := hs.bool (512 + n) (by omega) (isB_o hn)
 obtain ⟨x, hx1, -⟩ := hs.int (n * 8 + 6) (by omega) (isB_l hn (by omega))
 have hn1 : (n : Int) < 64 := by omega
 refine ⟨b && decide (tick ≤ x), fun w gs hb => ?_⟩
 have hu1 := Tryd.underlying108
 have hc1 : w.cell? ⟨gs, 512 + n, none⟩ = some (.bool b) := (blk_cell hb _).trans hb1
 have hc2 : w.cell? ⟨gs, n * 8 + 6, none⟩ = some (.int .i64 x) := (blk_cell hb _).trans hx1
 clear hb hs hb1 hx1
 cases b
 ·go_enter Tryd.func66, Tryd.ntmps66
  go_wp2
  go_ret
  exact ⟨rfl, rfl⟩
 ·rw [Bool.true_and]
  go_enter Tryd.func66, Tryd.ntmps66
  go_wp2
  go_ret
  exact ⟨rfl, rfl⟩
structure SayOk (w w1 : World) (gs : Nat) (e : Ending) (w' : World) : Prop where
 out : ∃ b cs', e = .returned (.bool b) ∧ SW w w1 w' gs cs'
set_option maxRecDepth 100000 in
set_option maxHeartbeats 8000000 in
theorem say1_x (w w1 W : World) (gs : Nat) (cs : Array Value) (x0 x1 x2 x3 x4 x7 x8 x9 x10 : Int) (n : Nat) (h : SW w w1 W gs cs) (hI : W64 ⟨x0, x1, x2, x3, x4, 1, (n : Int), x7, x8, x9, x10⟩) (hn : n < 64) :
 Calls Tryd.prog 65 #[.pointer (some ⟨gs, 0, none⟩), .agg #[.int .i64 x0, .int .i64 x1, .int .i64 x2, .int .i64 x3, .int .i64 x4, .int .i64 1, .int .i64 (n : Int), .int .i64 x7, .int .i64 x8, .int .i64 x9, .int .i64 x10]] W (SayOk w w1 gs) := by
 have mixed : (Tryd.prog).follows .mixedOrders = true := by kernel_rfl
 have hu1 := Tryd.underlying108
 have hu2 := Tryd.underlying39
 have hu3 := Tryd.underlying82
 have H := Aside0.mk h
 have HI := Aside0.mk hI
 have hn1 : (n : Int) < 64 := by omega
 clear h hI
 go_enter Tryd.func65, Tryd.ntmps65
 go_upto_block 0 with fail
 have H0 := H.out.alloc (.cells #[.int .i64 x0, .int .i64 x1, .int .i64 x2, .int .i64 x3, .int .i64 x4, .int .i64 1, .int .i64 (n : Int), .int .i64 x7, .int .i64 x8, .int .i64 x9, .int .i64 x10] 39)
 have hz := heap_alloc_new W (.cells #[.int .i64 x0, .int .i64 x1, .int .i64 x2, .int .i64 x3, .int .i64 x4, .int .i64 1, .int .i64 (n : Int), .int .i64 x7, .int .i64 x8, .int .i64 x9, .int .i64 x10] 39)
 have hne : W.heap.size ≠ gs := Nat.ne_of_gt (blk_lt H.out.b)
 obtain ⟨gz, hgz⟩ : ∃ gz, gz = W.heap.size := ⟨_, rfl⟩
 obtain ⟨W0, hW0⟩ : ∃ W0, W0 = W.alloc (.cells #[.int .i64 x0, .int .i64 x1, .int .i64 x2, .int .i64 x3, .int .i64 x4, .int .i64 1, .int .i64 (n : Int), .int .i64 x7, .int .i64 x8, .int .i64 x9, .int .i64 x10] 39) := ⟨_, rfl⟩
 rw [← hW0] at H0 hz ⊢
 rw [← hgz] at hz hne ⊢
 clear hW0 hgz H
 have H := Aside0.mk H0
 have HZ := Aside0.mk hz
 clear H0 hz
 have H0 := H.out
 have hz := HZ.out
 have hz0_ : W0.cell? ⟨gz, 0, none⟩ = some _ := (blk_cell hz 0).trans rfl
 have hz1_ : W0.cell? ⟨gz, 1, none⟩ = some _ := (blk_cell hz 1).trans rfl
 have hz2_ : W0.cell? ⟨gz, 2, none⟩ = some _ := (blk_cell hz 2).trans rfl
 have hz3_ : W0.cell? ⟨gz, 3, none⟩ = some _ := (blk_cell hz 3).trans rfl
 have hz4_ : W0.cell? ⟨gz, 4, none⟩ = some _ := (blk_cell hz 4).trans rfl
 have hz5_ : W0.cell? ⟨gz, 5, none⟩ = some _ := (blk_cell hz 5).trans rfl
 have hz6_ : W0.cell? ⟨gz, 6, none⟩ = some _ := (blk_cell hz 6).trans rfl
 have hz7_ : W0.cell? ⟨gz, 7, none⟩ = some _ := (blk_cell hz 7).trans rfl
 have hz8_ : W0.cell? ⟨gz, 8, none⟩ = some _ := (blk_cell hz 8).trans rfl
 have hz9_ : W0.cell? ⟨gz, 9, none⟩ = some _ := (blk_cell hz 9).trans rfl
 have hz10_ : W0.cell? ⟨gz, 10, none⟩ = some _ := (blk_cell hz 10).trans rfl
 have hlz := blk_lt hz
 obtain ⟨u, hu, huI⟩ := H0.st.int (576 + n) (by omega) (isB_u hn)
 obtain ⟨bo, hbo⟩ := H0.st.bool (512 + n) (by omega) (isB_o hn)
 obtain ⟨br, hbr⟩ := H0.st.bool (n * 8 + 7) (by omega) (isB_r hn)
 obtain ⟨l0, hl0, hi0⟩ := H0.st.int (n * 8) (by omega) (isB_l hn (j := 0) (by omega))
 have hv0 : W0.cell? ⟨gs, n * 8, none⟩ = some (.int .i64 l0) := (blk_cell H0.b _).trans hl0
 obtain ⟨l1, hl1, hi1⟩ := H0.st.int (n * 8 + 1) (by omega) (isB_l hn (j := 1) (by omega))
 have hv1 : W0.cell? ⟨gs, n * 8 + 1, none⟩ = some (.int .i64 l1) := (blk_cell H0.b _).trans hl1
 obtain ⟨l2, hl2, hi2⟩ := H0.st.int (n * 8 + 2) (by omega) (isB_l hn (j := 2) (by omega))
 have hv2 : W0.cell? ⟨gs, n * 8 + 2, none⟩ = some (.int .i64 l2) := (blk_cell H0.b _).trans hl2
 obtain ⟨l3, hl3, hi3⟩ := H0.st.int (n * 8 + 3) (by omega) (isB_l hn (j := 3) (by omega))
 have hv3 : W0.cell? ⟨gs, n * 8 + 3, none⟩ = some (.int .i64 l3) := (blk_cell H0.b _).trans hl3
 obtain ⟨l4, hl4, hi4⟩ := H0.st.int (n * 8 + 4) (by omega) (isB_l hn (j := 4) (by omega))
 have hv4 : W0.cell? ⟨gs, n * 8 + 4, none⟩ = some (.int .i64 l4) := (blk_cell H0.b _).trans hl4
 obtain ⟨l5, hl5, hi5⟩ := H0.st.int (n * 8 + 5) (by omega) (isB_l hn (j := 5) (by omega))
 have hv5 : W0.cell? ⟨gs, n * 8 + 5, none⟩ = some (.int .i64 l5) := (blk_cell H0.b _).trans hl5
 obtain ⟨l6, hl6, hi6⟩ := H0.st.int (n * 8 + 6) (by omega) (isB_l hn (j := 6) (by omega))
 have hv6 : W0.cell? ⟨gs, n * 8 + 6, none⟩ = some (.int .i64 l6) := (blk_cell H0.b _).trans hl6
 have hc1 : W0.cell? ⟨gs, 576 + n, none⟩ = some (.int .i64 u) := (blk_cell H0.b _).trans hu
 have hc2 : W0.cell? ⟨gs, 512 + n, none⟩ = some (.bool bo) := (blk_cell H0.b _).trans hbo
 have hc3 : W0.cell? ⟨gs, n * 8 + 7, none⟩ = some (.bool br) := (blk_cell H0.b _).trans hbr
 have hfz : ∀ i, W0.frozen? ⟨gs, i, none⟩ = false := fun i => blk_frozen H0.b i
 have hf0_ := hfz (n * 8)
 have hf1_ := hfz (n * 8 + 1)
 have hf2_ := hfz (n * 8 + 2)
 have hf3_ := hfz (n * 8 + 3)
 have hf4_ := hfz (n * 8 + 4)
 have hf5_ := hfz (n * 8 + 5)
 have hf6_ := hfz (n * 8 + 6)
 have hf7_ := hfz (n * 8 + 7)
 have hf8_ := hfz (512 + n)
 have hf9_ := hfz (576 + n)
 have hgl := blk_lt H0.b
 have HU := Aside0.mk huI
 have HLI := Aside0.mk (And.intro hi0 (And.intro hi1 (And.intro hi2 (And.intro hi3 (And.intro hi4 (And.intro hi5 hi6))))))
 clear H0 hz hu hbo hbr huI hfz hl0 hi0 hl1 hi1 hl2 hi2 hl3 hi3 hl4 hi4 hl5 hi5 hl6 hi6
 go_upto_region 3 with fail
 by_cases ht : x4 ≤ u
 ·have ht1 : decide (x4 ≤ u) = true := decide_eq_true ht
  go_quiet (fail)
  go_wp2
  go_ret
  exact ⟨⟨_, _, rfl, H.out.below (pw_below_drewN (Below.refl _ _) _)⟩⟩
 ·have ht1 : decide (x4 ≤ u) = false := decide_eq_false ht
  go_quiet (fail)
  go_upto_region 5 with fail
  go_cut [] (fun wx => ∃ cs1, Aside0 (SW w w1 wx gs cs1) ∧ Aside0 (wx.heap[gz]? = some (.cells #[.int .i64 x0, .int .i64 x1, .int .i64 x2, .int .i64 x3, .int .i64 x4, .int .i64 1, .int .i64 (n : Int), .int .i64 x7, .int .i64 x8, .int .i64 x9, .int .i64 x10] 39 (0, 0))))
  case first =>
   refine wp_region_still_tail 21 (by kernel_rfl) (by kernel_rfl) ?_
   simp only [List.take_succ_cons, List.take_zero, List.drop_succ_cons, List.drop_zero]
   change wpStill _ _ (World.drew _) _ _ _
   iterate 21 (refine wpStill_step (fun K hK => ?_); go_simp; refine hK _ ?_; clear hK)
   refine wpStill_nil ?_
   change wpList _ _ _ _ _ (World.drew _)
   go_wp2_with fail
   go_meet
   exact ⟨_, ⟨((((((((H.out.below (pw_below_drewN (Below.refl _ _) _)).set (n * 8) _ (okc_int (isB_l hn (j := 0) (by omega)) (HI.out.h1))).set (n * 8 + 1) _ (okc_int (isB_l hn (j := 1) (by omega)) (HI.out.h0))).set (n * 8 + 2) _ (okc_int (isB_l hn (j := 2) (by omega)) (HI.out.h6))).set (n * 8 + 3) _ (okc_int (isB_l hn (j := 3) (by omega)) (HI.out.h7))).set (n * 8 + 4) _ (okc_int (isB_l hn (j := 4) (by omega)) (HI.out.h8))).set (n * 8 + 5) _ (okc_int (isB_l hn (j := 5) (by omega)) (HI.out.h4))).set (n * 8 + 6) _ (okc_int (isB_l hn (j := 6) (by omega)) (HI.out.h9))).set (n * 8 + 7) _ (okc_bool (isB_r hn) _)⟩, ⟨blk_far (p := ⟨gs, _, none⟩) (blk_far (p := ⟨gs, _, none⟩) (blk_far (p := ⟨gs, _, none⟩) (blk_far (p := ⟨gs, _, none⟩) (blk_far (p := ⟨gs, _, none⟩) (blk_far (p := ⟨gs, _, none⟩) (blk_far (p := ⟨gs, _, none⟩) (blk_far (p := ⟨gs, _, none⟩) (HZ.out) hne _) hne _) hne _) hne _) hne _) hne _) hne _) hne _⟩⟩
  case rest =>
   clear H HZ HU HLI hz0_ hz1_ hz2_ hz3_ hz4_ hz5_ hz6_ hz7_ hz8_ hz9_ hz10_ hv0 hv1 hv2 hv3 hv4 hv5 hv6 hf0_ hf1_ hf2_ hf3_ hf4_ hf5_ hf6_ hf7_ hf8_ hf9_ hc1 hc2 hc3 hgl hlz
   obtain ⟨cs1, H, HZ⟩ := hcut
   have H0 := H.out
   have hz := HZ.out
   have hz0_ : wc.cell? ⟨gz, 0, none⟩ = some _ := (blk_cell hz 0).trans rfl
   have hz1_ : wc.cell? ⟨gz, 1, none⟩ = some _ := (blk_cell hz 1).trans rfl
   have hz2_ : wc.cell? ⟨gz, 2, none⟩ = some _ := (blk_cell hz 2).trans rfl
   have hz3_ : wc.cell? ⟨gz, 3, none⟩ = some _ := (blk_cell hz 3).trans rfl
   have hz4_ : wc.cell? ⟨gz, 4, none⟩ = some _ := (blk_cell hz 4).trans rfl
   have hz5_ : wc.cell? ⟨gz, 5, none⟩ = some _ := (blk_cell hz 5).trans rfl
   have hz6_ : wc.cell? ⟨gz, 6, none⟩ = some _ := (blk_cell hz 6).trans rfl
   have hz7_ : wc.cell? ⟨gz, 7, none⟩ = some _ := (blk_cell hz 7).trans rfl
   have hz8_ : wc.cell? ⟨gz, 8, none⟩ = some _ := (blk_cell hz 8).trans rfl
   have hz9_ : wc.cell? ⟨gz, 9, none⟩ = some _ := (blk_cell hz 9).trans rfl
   have hz10_ : wc.cell? ⟨gz, 10, none⟩ = some _ := (blk_cell hz 10).trans rfl
   have hlz := blk_lt hz
   obtain ⟨u, hu, huI⟩ := H0.st.int (576 + n) (by omega) (isB_u hn)
   obtain ⟨bo, hbo⟩ := H0.st.bool (512 + n) (by omega) (isB_o hn)
   obtain ⟨br, hbr⟩ := H0.st.bool (n * 8 + 7) (by omega) (isB_r hn)
   obtain ⟨l0, hl0, hi0⟩ := H0.st.int (n * 8) (by omega) (isB_l hn (j := 0) (by omega))
   have hv0 : wc.cell? ⟨gs, n * 8, none⟩ = some (.int .i64 l0) := (blk_cell H0.b _).trans hl0
   obtain ⟨l1, hl1, hi1⟩ := H0.st.int (n * 8 + 1) (by omega) (isB_l hn (j := 1) (by omega))
   have hv1 : wc.cell? ⟨gs, n * 8 + 1, none⟩ = some (.int .i64 l1) := (blk_cell H0.b _).trans hl1
   obtain ⟨l2, hl2, hi2⟩ := H0.st.int (n * 8 + 2) (by omega) (isB_l hn (j := 2) (by omega))
   have hv2 : wc.cell? ⟨gs, n * 8 + 2, none⟩ = some (.int .i64 l2) := (blk_cell H0.b _).trans hl2
   obtain ⟨l3, hl3, hi3⟩ := H0.st.int (n * 8 + 3) (by omega) (isB_l hn (j := 3) (by omega))
   have hv3 : wc.cell? ⟨gs, n * 8 + 3, none⟩ = some (.int .i64 l3) := (blk_cell H0.b _).trans hl3
   obtain ⟨l4, hl4, hi4⟩ := H0.st.int (n * 8 + 4) (by omega) (isB_l hn (j := 4) (by omega))
   have hv4 : wc.cell? ⟨gs, n * 8 + 4, none⟩ = some (.int .i64 l4) := (blk_cell H0.b _).trans hl4
   obtain ⟨l5, hl5, hi5⟩ := H0.st.int (n * 8 + 5) (by omega) (isB_l hn (j := 5) (by omega))
   have hv5 : wc.cell? ⟨gs, n * 8 + 5, none⟩ = some (.int .i64 l5) := (blk_cell H0.b _).trans hl5
   obtain ⟨l6, hl6, hi6⟩ := H0.st.int (n * 8 + 6) (by omega) (isB_l hn (j := 6) (by omega))
   have hv6 : wc.cell? ⟨gs, n * 8 + 6, none⟩ = some (.int .i64 l6) := (blk_cell H0.b _).trans hl6
   have hc1 : wc.cell? ⟨gs, 576 + n, none⟩ = some (.int .i64 u) := (blk_cell H0.b _).trans hu
   have hc2 : wc.cell? ⟨gs, 512 + n, none⟩ = some (.bool bo) := (blk_cell H0.b _).trans hbo
   have hc3 : wc.cell? ⟨gs, n * 8 + 7, none⟩ = some (.bool br) := (blk_cell H0.b _).trans hbr
   have hfz : ∀ i, wc.frozen? ⟨gs, i, none⟩ = false := fun i => blk_frozen H0.b i
   have hf0_ := hfz (n * 8)
   have hf1_ := hfz (n * 8 + 1)
   have hf2_ := hfz (n * 8 + 2)
   have hf3_ := hfz (n * 8 + 3)
   have hf4_ := hfz (n * 8 + 4)
   have hf5_ := hfz (n * 8 + 5)
   have hf6_ := hfz (n * 8 + 6)
   have hf7_ := hfz (n * 8 + 7)
   have hf8_ := hfz (512 + n)
   have hf9_ := hfz (576 + n)
   have hgl := blk_lt H0.b
   have HU := Aside0.mk huI
   have HLI := Aside0.mk (And.intro hi0 (And.intro hi1 (And.intro hi2 (And.intro hi3 (And.intro hi4 (And.intro hi5 hi6))))))
   clear H0 hz hu hbo hbr huI hfz hl0 hi0 hl1 hi1 hl2 hi2 hl3 hi3 hl4 hi4 hl5 hi5 hl6 hi6
   go_upto_region 6 with fail
   go_region
   all_goals (go_wp2_with fail)
   all_goals go_ret
   all_goals (first | exact ⟨⟨_, _, rfl, ((H.out).set (512 + n) _ (okc_bool (isB_o hn) _)).set (576 + n) _ (okc_int (isB_u hn) (HI.out.h9))⟩⟩ | exact ⟨⟨_, _, rfl, (((H.out).set (512 + n) _ (okc_bool (isB_o hn) _)).set (576 + n) _ (okc_int (isB_u hn) (HI.out.h9))).drew⟩⟩ | trace_state)
set_option maxRecDepth 100000 in
set_option maxHeartbeats 8000000 in
theorem say2_x (w w1 W : World) (gs : Nat) (cs : Array Value) (x0 x1 x2 x3 x4 x7 x8 x9 x10 : Int) (n : Nat) (h : SW w w1 W gs cs) (hI : W64 ⟨x0, x1, x2, x3, x4, 2, (n : Int), x7, x8, x9, x10⟩) (hn : n < 64) :
 Calls Tryd.prog 65 #[.pointer (some ⟨gs, 0, none⟩), .agg #[.int .i64 x0, .int .i64 x1, .int .i64 x2, .int .i64 x3, .int .i64 x4, .int .i64 2, .int .i64 (n : Int), .int .i64 x7, .int .i64 x8, .int .i64 x9, .int .i64 x10]] W (SayOk w w1 gs) := by
 have mixed : (Tryd.prog).follows .mixedOrders = true := by kernel_rfl
 have hu1 := Tryd.underlying108
 have hu2 := Tryd.underlying39
 have hu3 := Tryd.underlying82
 have H := Aside0.mk h
 have HI := Aside0.mk hI
 have hn1 : (n : Int) < 64 := by omega
 clear h hI
 go_enter Tryd.func65, Tryd.ntmps65
 go_upto_block 0 with fail
 have H0 := H.out.alloc (.cells #[.int .i64 x0, .int .i64 x1, .int .i64 x2, .int .i64 x3, .int .i64 x4, .int .i64 2, .int .i64 (n : Int), .int .i64 x7, .int .i64 x8, .int .i64 x9, .int .i64 x10] 39)
 have hz := heap_alloc_new W (.cells #[.int .i64 x0, .int .i64 x1, .int .i64 x2, .int .i64 x3, .int .i64 x4, .int .i64 2, .int .i64 (n : Int), .int .i64 x7, .int .i64 x8, .int .i64 x9, .int .i64 x10] 39)
 have hne : W.heap.size ≠ gs := Nat.ne_of_gt (blk_lt H.out.b)
 obtain ⟨gz, hgz⟩ : ∃ gz, gz = W.heap.size := ⟨_, rfl⟩
 obtain ⟨W0, hW0⟩ : ∃ W0, W0 = W.alloc (.cells #[.int .i64 x0, .int .i64 x1, .int .i64 x2, .int .i64 x3, .int .i64 x4, .int .i64 2, .int .i64 (n : Int), .int .i64 x7, .int .i64 x8, .int .i64 x9, .int .i64 x10] 39) := ⟨_, rfl⟩
 rw [← hW0] at H0 hz ⊢
 rw [← hgz] at hz hne ⊢
 clear hW0 hgz H
 have H := Aside0.mk H0
 have HZ := Aside0.mk hz
 clear H0 hz
 have H0 := H.out
 have hz := HZ.out
 have hz0_ : W0.cell? ⟨gz, 0, none⟩ = some _ := (blk_cell hz 0).trans rfl
 have hz1_ : W0.cell? ⟨gz, 1, none⟩ = some _ := (blk_cell hz 1).trans rfl
 have hz2_ : W0.cell? ⟨gz, 2, none⟩ = some _ := (blk_cell hz 2).trans rfl
 have hz3_ : W0.cell? ⟨gz, 3, none⟩ = some _ := (blk_cell hz 3).trans rfl
 have hz4_ : W0.cell? ⟨gz, 4, none⟩ = some _ := (blk_cell hz 4).trans rfl
 have hz5_ : W0.cell? ⟨gz, 5, none⟩ = some _ := (blk_cell hz 5).trans rfl
 have hz6_ : W0.cell? ⟨gz, 6, none⟩ = some _ := (blk_cell hz 6).trans rfl
 have hz7_ : W0.cell? ⟨gz, 7, none⟩ = some _ := (blk_cell hz 7).trans rfl
 have hz8_ : W0.cell? ⟨gz, 8, none⟩ = some _ := (blk_cell hz 8).trans rfl
 have hz9_ : W0.cell? ⟨gz, 9, none⟩ = some _ := (blk_cell hz 9).trans rfl
 have hz10_ : W0.cell? ⟨gz, 10, none⟩ = some _ := (blk_cell hz 10).trans rfl
 have hlz := blk_lt hz
 obtain ⟨u, hu, huI⟩ := H0.st.int (576 + n) (by omega) (isB_u hn)
 obtain ⟨bo, hbo⟩ := H0.st.bool (512 + n) (by omega) (isB_o hn)
 obtain ⟨br, hbr⟩ := H0.st.bool (n * 8 + 7) (by omega) (isB_r hn)
 obtain ⟨l0, hl0, hi0⟩ := H0.st.int (n * 8) (by omega) (isB_l hn (j := 0) (by omega))
 have hv0 : W0.cell? ⟨gs, n * 8, none⟩ = some (.int .i64 l0) := (blk_cell H0.b _).trans hl0
 obtain ⟨l1, hl1, hi1⟩ := H0.st.int (n * 8 + 1) (by omega) (isB_l hn (j := 1) (by omega))
 have hv1 : W0.cell? ⟨gs, n * 8 + 1, none⟩ = some (.int .i64 l1) := (blk_cell H0.b _).trans hl1
 obtain ⟨l2, hl2, hi2⟩ := H0.st.int (n * 8 + 2) (by omega) (isB_l hn (j := 2) (by omega))
 have hv2 : W0.cell? ⟨gs, n * 8 + 2, none⟩ = some (.int .i64 l2) := (blk_cell H0.b _).trans hl2
 obtain ⟨l3, hl3, hi3⟩ := H0.st.int (n * 8 + 3) (by omega) (isB_l hn (j := 3) (by omega))
 have hv3 : W0.cell? ⟨gs, n * 8 + 3, none⟩ = some (.int .i64 l3) := (blk_cell H0.b _).trans hl3
 obtain ⟨l4, hl4, hi4⟩ := H0.st.int (n * 8 + 4) (by omega) (isB_l hn (j := 4) (by omega))
 have hv4 : W0.cell? ⟨gs, n * 8 + 4, none⟩ = some (.int .i64 l4) := (blk_cell H0.b _).trans hl4
 obtain ⟨l5, hl5, hi5⟩ := H0.st.int (n * 8 + 5) (by omega) (isB_l hn (j := 5) (by omega))
 have hv5 : W0.cell? ⟨gs, n * 8 + 5, none⟩ = some (.int .i64 l5) := (blk_cell H0.b _).trans hl5
 obtain ⟨l6, hl6, hi6⟩ := H0.st.int (n * 8 + 6) (by omega) (isB_l hn (j := 6) (by omega))
 have hv6 : W0.cell? ⟨gs, n * 8 + 6, none⟩ = some (.int .i64 l6) := (blk_cell H0.b _).trans hl6
 have hc1 : W0.cell? ⟨gs, 576 + n, none⟩ = some (.int .i64 u) := (blk_cell H0.b _).trans hu
 have hc2 : W0.cell? ⟨gs, 512 + n, none⟩ = some (.bool bo) := (blk_cell H0.b _).trans hbo
 have hc3 : W0.cell? ⟨gs, n * 8 + 7, none⟩ = some (.bool br) := (blk_cell H0.b _).trans hbr
 have hfz : ∀ i, W0.frozen? ⟨gs, i, none⟩ = false := fun i => blk_frozen H0.b i
 have hf0_ := hfz (n * 8)
 have hf1_ := hfz (n * 8 + 1)
 have hf2_ := hfz (n * 8 + 2)
 have hf3_ := hfz (n * 8 + 3)
 have hf4_ := hfz (n * 8 + 4)
 have hf5_ := hfz (n * 8 + 5)
 have hf6_ := hfz (n * 8 + 6)
 have hf7_ := hfz (n * 8 + 7)
 have hf8_ := hfz (512 + n)
 have hf9_ := hfz (576 + n)
 have hgl := blk_lt H0.b
 have HU := Aside0.mk huI
 have HLI := Aside0.mk (And.intro hi0 (And.intro hi1 (And.intro hi2 (And.intro hi3 (And.intro hi4 (And.intro hi5 hi6))))))
 clear H0 hz hu hbo hbr huI hfz hl0 hi0 hl1 hi1 hl2 hi2 hl3 hi3 hl4 hi4 hl5 hi5 hl6 hi6
 obtain ⟨b, hf0⟩ := force_b cs H.out.st n hn x4
 have hf := hf0
 clear hf0
 go_upto_region 8 with fail
 cases b
 ·go_quiet ((go_at_call 66; refine Calls.quiet_of_same (hf _ _ (by first | exact H.out.b | exact blk_drewN H.out.b _ | exact blk_drew H.out.b))))
  go_wp2
  go_ret
  exact ⟨⟨_, _, rfl, H.out.below (pw_below_drewN (Below.refl _ _) _)⟩⟩
 ·by_cases ht : x9 ≤ u
  ·have ht1 : decide (x9 ≤ u) = true := decide_eq_true ht
   go_quiet ((go_at_call 66; refine Calls.quiet_of_same (hf _ _ (by first | exact H.out.b | exact blk_drewN H.out.b _ | exact blk_drew H.out.b))))
   go_wp2
   go_ret
   exact ⟨⟨_, _, rfl, H.out.below (pw_below_drewN (Below.refl _ _) _)⟩⟩
  ·have ht1 : decide (x9 ≤ u) = false := decide_eq_false ht
   go_quiet ((go_at_call 66; refine Calls.quiet_of_same (hf _ _ (by first | exact H.out.b | exact blk_drewN H.out.b _ | exact blk_drew H.out.b))))
   go_upto_region 10 with fail
   go_region
   all_goals (go_wp2_with fail)
   all_goals go_ret
   all_goals (first | exact ⟨⟨_, _, rfl, ((H.out.below (pw_below_drewN (Below.refl _ _) _)).set (n * 8 + 6) _ (okc_int (isB_l hn (j := 6) (by omega)) (HI.out.h9))).set (576 + n) _ (okc_int (isB_u hn) (HI.out.h9))⟩⟩ | exact ⟨⟨_, _, rfl, (((H.out.below (pw_below_drewN (Below.refl _ _) _)).set (n * 8 + 6) _ (okc_int (isB_l hn (j := 6) (by omega)) (HI.out.h9))).set (576 + n) _ (okc_int (isB_u hn) (HI.out.h9))).drew⟩⟩ | trace_state)
set_option maxRecDepth 100000 in
set_option maxHeartbeats 8000000 in
theorem say3_x (w w1 W : World) (gs : Nat) (cs : Array Value) (x0 x1 x2 x3 x4 x7 x8 x9 x10 : Int) (n : Nat) (h : SW w w1 W gs cs) (hI : W64 ⟨x0, x1, x2, x3, x4, 3, (n : Int), x7, x8, x9, x10⟩) (hn : n < 64) :
 Calls Tryd.prog 65 #[.pointer (some ⟨gs, 0, none⟩), .agg #[.int .i64 x0, .int .i64 x1, .int .i64 x2, .int .i64 x3, .int .i64 x4, .int .i64 3, .int .i64 (n : Int), .int .i64 x7, .int .i64 x8, .int .i64 x9, .int .i64 x10]] W (SayOk w w1 gs) := by
 have mixed : (Tryd.prog).follows .mixedOrders = true := by kernel_rfl
 have hu1 := Tryd.underlying108
 have hu2 := Tryd.underlying39
 have hu3 := Tryd.underlying82
 have H := Aside0.mk h
 have HI := Aside0.mk hI
 have hn1 : (n : Int) < 64 := by omega
 clear h hI
 go_enter Tryd.func65, Tryd.ntmps65
 go_upto_block 0 with fail
 have H0 := H.out.alloc (.cells #[.int .i64 x0, .int .i64 x1, .int .i64 x2, .int .i64 x3, .int .i64 x4, .int .i64 3, .int .i64 (n : Int), .int .i64 x7, .int .i64 x8, .int .i64 x9, .int .i64 x10] 39)
 have hz := heap_alloc_new W (.cells #[.int .i64 x0, .int .i64 x1, .int .i64 x2, .int .i64 x3, .int .i64 x4, .int .i64 3, .int .i64 (n : Int), .int .i64 x7, .int .i64 x8, .int .i64 x9, .int .i64 x10] 39)
 have hne : W.heap.size ≠ gs := Nat.ne_of_gt (blk_lt H.out.b)
 obtain ⟨gz, hgz⟩ : ∃ gz, gz = W.heap.size := ⟨_, rfl⟩
 obtain ⟨W0, hW0⟩ : ∃ W0, W0 = W.alloc (.cells #[.int .i64 x0, .int .i64 x1, .int .i64 x2, .int .i64 x3, .int .i64 x4, .int .i64 3, .int .i64 (n : Int), .int .i64 x7, .int .i64 x8, .int .i64 x9, .int .i64 x10] 39) := ⟨_, rfl⟩
 rw [← hW0] at H0 hz ⊢
 rw [← hgz] at hz hne ⊢
 clear hW0 hgz H
 have H := Aside0.mk H0
 have HZ := Aside0.mk hz
 clear H0 hz
 have H0 := H.out
 have hz := HZ.out
 have hz0_ : W0.cell? ⟨gz, 0, none⟩ = some _ := (blk_cell hz 0).trans rfl
 have hz1_ : W0.cell? ⟨gz, 1, none⟩ = some _ := (blk_cell hz 1).trans rfl
 have hz2_ : W0.cell? ⟨gz, 2, none⟩ = some _ := (blk_cell hz 2).trans rfl
 have hz3_ : W0.cell? ⟨gz, 3, none⟩ = some _ := (blk_cell hz 3).trans rfl
 have hz4_ : W0.cell? ⟨gz, 4, none⟩ = some _ := (blk_cell hz 4).trans rfl
 have hz5_ : W0.cell? ⟨gz, 5, none⟩ = some _ := (blk_cell hz 5).trans rfl
 have hz6_ : W0.cell? ⟨gz, 6, none⟩ = some _ := (blk_cell hz 6).trans rfl
 have hz7_ : W0.cell? ⟨gz, 7, none⟩ = some _ := (blk_cell hz 7).trans rfl
 have hz8_ : W0.cell? ⟨gz, 8, none⟩ = some _ := (blk_cell hz 8).trans rfl
 have hz9_ : W0.cell? ⟨gz, 9, none⟩ = some _ := (blk_cell hz 9).trans rfl
 have hz10_ : W0.cell? ⟨gz, 10, none⟩ = some _ := (blk_cell hz 10).trans rfl
 have hlz := blk_lt hz
 obtain ⟨u, hu, huI⟩ := H0.st.int (576 + n) (by omega) (isB_u hn)
 obtain ⟨bo, hbo⟩ := H0.st.bool (512 + n) (by omega) (isB_o hn)
 obtain ⟨br, hbr⟩ := H0.st.bool (n * 8 + 7) (by omega) (isB_r hn)
 obtain ⟨l0, hl0, hi0⟩ := H0.st.int (n * 8) (by omega) (isB_l hn (j := 0) (by omega))
 have hv0 : W0.cell? ⟨gs, n * 8, none⟩ = some (.int .i64 l0) := (blk_cell H0.b _).trans hl0
 obtain ⟨l1, hl1, hi1⟩ := H0.st.int (n * 8 + 1) (by omega) (isB_l hn (j := 1) (by omega))
 have hv1 : W0.cell? ⟨gs, n * 8 + 1, none⟩ = some (.int .i64 l1) := (blk_cell H0.b _).trans hl1
 obtain ⟨l2, hl2, hi2⟩ := H0.st.int (n * 8 + 2) (by omega) (isB_l hn (j := 2) (by omega))
 have hv2 : W0.cell? ⟨gs, n * 8 + 2, none⟩ = some (.int .i64 l2) := (blk_cell H0.b _).trans hl2
 obtain ⟨l3, hl3, hi3⟩ := H0.st.int (n * 8 + 3) (by omega) (isB_l hn (j := 3) (by omega))
 have hv3 : W0.cell? ⟨gs, n * 8 + 3, none⟩ = some (.int .i64 l3) := (blk_cell H0.b _).trans hl3
 obtain ⟨l4, hl4, hi4⟩ := H0.st.int (n * 8 + 4) (by omega) (isB_l hn (j := 4) (by omega))
 have hv4 : W0.cell? ⟨gs, n * 8 + 4, none⟩ = some (.int .i64 l4) := (blk_cell H0.b _).trans hl4
 obtain ⟨l5, hl5, hi5⟩ := H0.st.int (n * 8 + 5) (by omega) (isB_l hn (j := 5) (by omega))
 have hv5 : W0.cell? ⟨gs, n * 8 + 5, none⟩ = some (.int .i64 l5) := (blk_cell H0.b _).trans hl5
 obtain ⟨l6, hl6, hi6⟩ := H0.st.int (n * 8 + 6) (by omega) (isB_l hn (j := 6) (by omega))
 have hv6 : W0.cell? ⟨gs, n * 8 + 6, none⟩ = some (.int .i64 l6) := (blk_cell H0.b _).trans hl6
 have hc1 : W0.cell? ⟨gs, 576 + n, none⟩ = some (.int .i64 u) := (blk_cell H0.b _).trans hu
 have hc2 : W0.cell? ⟨gs, 512 + n, none⟩ = some (.bool bo) := (blk_cell H0.b _).trans hbo
 have hc3 : W0.cell? ⟨gs, n * 8 + 7, none⟩ = some (.bool br) := (blk_cell H0.b _).trans hbr
 have hfz : ∀ i, W0.frozen? ⟨gs, i, none⟩ = false := fun i => blk_frozen H0.b i
 have hf0_ := hfz (n * 8)
 have hf1_ := hfz (n * 8 + 1)
 have hf2_ := hfz (n * 8 + 2)
 have hf3_ := hfz (n * 8 + 3)
 have hf4_ := hfz (n * 8 + 4)
 have hf5_ := hfz (n * 8 + 5)
 have hf6_ := hfz (n * 8 + 6)
 have hf7_ := hfz (n * 8 + 7)
 have hf8_ := hfz (512 + n)
 have hf9_ := hfz (576 + n)
 have hgl := blk_lt H0.b
 have HU := Aside0.mk huI
 have HLI := Aside0.mk (And.intro hi0 (And.intro hi1 (And.intro hi2 (And.intro hi3 (And.intro hi4 (And.intro hi5 hi6))))))
 clear H0 hz hu hbo hbr huI hfz hl0 hi0 hl1 hi1 hl2 hi2 hl3 hi3 hl4 hi4 hl5 hi5 hl6 hi6
 obtain ⟨b, hf0⟩ := force_b cs H.out.st n hn x4
 have hf := hf0
 clear hf0
 cases b
 ·go_wp2_with (first | (go_at_call 66; with_reducible refine (hf _ _ (by first | exact H.out.b | exact blk_drewN H.out.b _ | exact blk_alloc H.out.b _ | exact blk_alloc (blk_drewN H.out.b _) _ | exact blk_alloc (blk_drew H.out.b) _)).mono ?_; rintro e w' ⟨rfl, rfl⟩))
  go_ret
  exact ⟨⟨_, _, rfl, H.out⟩⟩
 ·go_upto_region 15 with (first | (go_at_call 66; with_reducible refine (hf _ _ (by first | exact H.out.b | exact blk_drewN H.out.b _ | exact blk_alloc H.out.b _ | exact blk_alloc (blk_drewN H.out.b _) _ | exact blk_alloc (blk_drew H.out.b) _)).mono ?_; rintro e w' ⟨rfl, rfl⟩))
  go_region
  all_goals (go_wp2_with fail)
  all_goals go_ret
  all_goals (first | exact ⟨⟨_, _, rfl, (H.out).set (512 + n) _ (okc_bool (isB_o hn) _)⟩⟩ | exact ⟨⟨_, _, rfl, ((H.out).set (512 + n) _ (okc_bool (isB_o hn) _)).drew⟩⟩ | trace_state)
set_option maxRecDepth 100000 in
set_option maxHeartbeats 8000000 in
theorem say5_x (w w1 W : World) (gs : Nat) (cs : Array Value) (x0 x1 x2 x3 x4 x7 x8 x9 x10 : Int) (n : Nat) (h : SW w w1 W gs cs) (hI : W64 ⟨x0, x1, x2, x3, x4, 5, (n : Int), x7, x8, x9, x10⟩) (hn : n < 64) :
 Calls Tryd.prog 65 #[.pointer (some ⟨gs, 0, none⟩), .agg #[.int .i64 x0, .int .i64 x1, .int .i64 x2, .int .i64 x3, .int .i64 x4, .int .i64 5, .int .i64 (n : Int), .int .i64 x7, .int .i64 x8, .int .i64 x9, .int .i64 x10]] W (SayOk w w1 gs) := by
 have mixed : (Tryd.prog).follows .mixedOrders = true := by kernel_rfl
 have hu1 := Tryd.underlying108
 have hu2 := Tryd.underlying39
 have hu3 := Tryd.underlying82
 have H := Aside0.mk h
 have HI := Aside0.mk hI
 have hn1 : (n : Int) < 64 := by omega
 clear h hI
 go_enter Tryd.func65, Tryd.ntmps65
 go_upto_block 0 with fail
 have H0 := H.out.alloc (.cells #[.int .i64 x0, .int .i64 x1, .int .i64 x2, .int .i64 x3, .int .i64 x4, .int .i64 5, .int .i64 (n : Int), .int .i64 x7, .int .i64 x8, .int .i64 x9, .int .i64 x10] 39)
 have hz := heap_alloc_new W (.cells #[.int .i64 x0, .int .i64 x1, .int .i64 x2, .int .i64 x3, .int .i64 x4, .int .i64 5, .int .i64 (n : Int), .int .i64 x7, .int .i64 x8, .int .i64 x9, .int .i64 x10] 39)
 have hne : W.heap.size ≠ gs := Nat.ne_of_gt (blk_lt H.out.b)
 obtain ⟨gz, hgz⟩ : ∃ gz, gz = W.heap.size := ⟨_, rfl⟩
 obtain ⟨W0, hW0⟩ : ∃ W0, W0 = W.alloc (.cells #[.int .i64 x0, .int .i64 x1, .int .i64 x2, .int .i64 x3, .int .i64 x4, .int .i64 5, .int .i64 (n : Int), .int .i64 x7, .int .i64 x8, .int .i64 x9, .int .i64 x10] 39) := ⟨_, rfl⟩
 rw [← hW0] at H0 hz ⊢
 rw [← hgz] at hz hne ⊢
 clear hW0 hgz H
 have H := Aside0.mk H0
 have HZ := Aside0.mk hz
 clear H0 hz
 have H0 := H.out
 have hz := HZ.out
 have hz0_ : W0.cell? ⟨gz, 0, none⟩ = some _ := (blk_cell hz 0).trans rfl
 have hz1_ : W0.cell? ⟨gz, 1, none⟩ = some _ := (blk_cell hz 1).trans rfl
 have hz2_ : W0.cell? ⟨gz, 2, none⟩ = some _ := (blk_cell hz 2).trans rfl
 have hz3_ : W0.cell? ⟨gz, 3, none⟩ = some _ := (blk_cell hz 3).trans rfl
 have hz4_ : W0.cell? ⟨gz, 4, none⟩ = some _ := (blk_cell hz 4).trans rfl
 have hz5_ : W0.cell? ⟨gz, 5, none⟩ = some _ := (blk_cell hz 5).trans rfl
 have hz6_ : W0.cell? ⟨gz, 6, none⟩ = some _ := (blk_cell hz 6).trans rfl
 have hz7_ : W0.cell? ⟨gz, 7, none⟩ = some _ := (blk_cell hz 7).trans rfl
 have hz8_ : W0.cell? ⟨gz, 8, none⟩ = some _ := (blk_cell hz 8).trans rfl
 have hz9_ : W0.cell? ⟨gz, 9, none⟩ = some _ := (blk_cell hz 9).trans rfl
 have hz10_ : W0.cell? ⟨gz, 10, none⟩ = some _ := (blk_cell hz 10).trans rfl
 have hlz := blk_lt hz
 obtain ⟨u, hu, huI⟩ := H0.st.int (576 + n) (by omega) (isB_u hn)
 obtain ⟨bo, hbo⟩ := H0.st.bool (512 + n) (by omega) (isB_o hn)
 obtain ⟨br, hbr⟩ := H0.st.bool (n * 8 + 7) (by omega) (isB_r hn)
 obtain ⟨l0, hl0, hi0⟩ := H0.st.int (n * 8) (by omega) (isB_l hn (j := 0) (by omega))
 have hv0 : W0.cell? ⟨gs, n * 8, none⟩ = some (.int .i64 l0) := (blk_cell H0.b _).trans hl0
 obtain ⟨l1, hl1, hi1⟩ := H0.st.int (n * 8 + 1) (by omega) (isB_l hn (j := 1) (by omega))
 have hv1 : W0.cell? ⟨gs, n * 8 + 1, none⟩ = some (.int .i64 l1) := (blk_cell H0.b _).trans hl1
 obtain ⟨l2, hl2, hi2⟩ := H0.st.int (n * 8 + 2) (by omega) (isB_l hn (j := 2) (by omega))
 have hv2 : W0.cell? ⟨gs, n * 8 + 2, none⟩ = some (.int .i64 l2) := (blk_cell H0.b _).trans hl2
 obtain ⟨l3, hl3, hi3⟩ := H0.st.int (n * 8 + 3) (by omega) (isB_l hn (j := 3) (by omega))
 have hv3 : W0.cell? ⟨gs, n * 8 + 3, none⟩ = some (.int .i64 l3) := (blk_cell H0.b _).trans hl3
 obtain ⟨l4, hl4, hi4⟩ := H0.st.int (n * 8 + 4) (by omega) (isB_l hn (j := 4) (by omega))
 have hv4 : W0.cell? ⟨gs, n * 8 + 4, none⟩ = some (.int .i64 l4) := (blk_cell H0.b _).trans hl4
 obtain ⟨l5, hl5, hi5⟩ := H0.st.int (n * 8 + 5) (by omega) (isB_l hn (j := 5) (by omega))
 have hv5 : W0.cell? ⟨gs, n * 8 + 5, none⟩ = some (.int .i64 l5) := (blk_cell H0.b _).trans hl5
 obtain ⟨l6, hl6, hi6⟩ := H0.st.int (n * 8 + 6) (by omega) (isB_l hn (j := 6) (by omega))
 have hv6 : W0.cell? ⟨gs, n * 8 + 6, none⟩ = some (.int .i64 l6) := (blk_cell H0.b _).trans hl6
 have hc1 : W0.cell? ⟨gs, 576 + n, none⟩ = some (.int .i64 u) := (blk_cell H0.b _).trans hu
 have hc2 : W0.cell? ⟨gs, 512 + n, none⟩ = some (.bool bo) := (blk_cell H0.b _).trans hbo
 have hc3 : W0.cell? ⟨gs, n * 8 + 7, none⟩ = some (.bool br) := (blk_cell H0.b _).trans hbr
 have hfz : ∀ i, W0.frozen? ⟨gs, i, none⟩ = false := fun i => blk_frozen H0.b i
 have hf0_ := hfz (n * 8)
 have hf1_ := hfz (n * 8 + 1)
 have hf2_ := hfz (n * 8 + 2)
 have hf3_ := hfz (n * 8 + 3)
 have hf4_ := hfz (n * 8 + 4)
 have hf5_ := hfz (n * 8 + 5)
 have hf6_ := hfz (n * 8 + 6)
 have hf7_ := hfz (n * 8 + 7)
 have hf8_ := hfz (512 + n)
 have hf9_ := hfz (576 + n)
 have hgl := blk_lt H0.b
 have HU := Aside0.mk huI
 have HLI := Aside0.mk (And.intro hi0 (And.intro hi1 (And.intro hi2 (And.intro hi3 (And.intro hi4 (And.intro hi5 hi6))))))
 clear H0 hz hu hbo hbr huI hfz hl0 hi0 hl1 hi1 hl2 hi2 hl3 hi3 hl4 hi4 hl5 hi5 hl6 hi6
 obtain ⟨b, hf0⟩ := force_b cs H.out.st n hn x4
 have hf := hf0
 clear hf0
 cases b
 ·go_wp2_with (first | (go_at_call 66; with_reducible refine (hf _ _ (by first | exact H.out.b | exact blk_drewN H.out.b _ | exact blk_alloc H.out.b _ | exact blk_alloc (blk_drewN H.out.b _) _ | exact blk_alloc (blk_drew H.out.b) _)).mono ?_; rintro e w' ⟨rfl, rfl⟩))
  go_ret
  exact ⟨⟨_, _, rfl, H.out⟩⟩
 ·go_upto_region 15 with (first | (go_at_call 66; with_reducible refine (hf _ _ (by first | exact H.out.b | exact blk_drewN H.out.b _ | exact blk_alloc H.out.b _ | exact blk_alloc (blk_drewN H.out.b _) _ | exact blk_alloc (blk_drew H.out.b) _)).mono ?_; rintro e w' ⟨rfl, rfl⟩))
  go_region
  all_goals (go_wp2_with fail)
  all_goals go_ret
  all_goals (first | exact ⟨⟨_, _, rfl, (H.out).set (512 + n) _ (okc_bool (isB_o hn) _)⟩⟩ | exact ⟨⟨_, _, rfl, ((H.out).set (512 + n) _ (okc_bool (isB_o hn) _)).drew⟩⟩ | trace_state)
set_option maxRecDepth 100000 in
set_option maxHeartbeats 8000000 in
theorem say4_x (w w1 W : World) (gs : Nat) (cs : Array Value) (x0 x1 x2 x3 x4 x7 x8 x9 x10 : Int) (n : Nat) (h : SW w w1 W gs cs) (hI : W64 ⟨x0, x1, x2, x3, x4, 4, (n : Int), x7, x8, x9, x10⟩) (hn : n < 64) :
 Calls Tryd.prog 65 #[.pointer (some ⟨gs, 0, none⟩), .agg #[.int .i64 x0, .int .i64 x1, .int .i64 x2, .int .i64 x3, .int .i64 x4, .int .i64 4, .int .i64 (n : Int), .int .i64 x7, .int .i64 x8, .int .i64 x9, .int .i64 x10]] W (SayOk w w1 gs) := by
 have mixed : (Tryd.prog).follows .mixedOrders = true := by kernel_rfl
 have hu1 := Tryd.underlying108
 have hu2 := Tryd.underlying39
 have hu3 := Tryd.underlying82
 have H := Aside0.mk h
 have HI := Aside0.mk hI
 have hn1 : (n : Int) < 64 := by omega
 clear h hI
 go_enter Tryd.func65, Tryd.ntmps65
 go_upto_block 0 with fail
 have H0 := H.out.alloc (.cells #[.int .i64 x0, .int .i64 x1, .int .i64 x2, .int .i64 x3, .int .i64 x4, .int .i64 4, .int .i64 (n : Int), .int .i64 x7, .int .i64 x8, .int .i64 x9, .int .i64 x10] 39)
 have hz := heap_alloc_new W (.cells #[.int .i64 x0, .int .i64 x1, .int .i64 x2, .int .i64 x3, .int .i64 x4, .int .i64 4, .int .i64 (n : Int), .int .i64 x7, .int .i64 x8, .int .i64 x9, .int .i64 x10] 39)
 have hne : W.heap.size ≠ gs := Nat.ne_of_gt (blk_lt H.out.b)
 obtain ⟨gz, hgz⟩ : ∃ gz, gz = W.heap.size := ⟨_, rfl⟩
 obtain ⟨W0, hW0⟩ : ∃ W0, W0 = W.alloc (.cells #[.int .i64 x0, .int .i64 x1, .int .i64 x2, .int .i64 x3, .int .i64 x4, .int .i64 4, .int .i64 (n : Int), .int .i64 x7, .int .i64 x8, .int .i64 x9, .int .i64 x10] 39) := ⟨_, rfl⟩
 rw [← hW0] at H0 hz ⊢
 rw [← hgz] at hz hne ⊢
 clear hW0 hgz H
 have H := Aside0.mk H0
 have HZ := Aside0.mk hz
 clear H0 hz
 have H0 := H.out
 have hz := HZ.out
 have hz0_ : W0.cell? ⟨gz, 0, none⟩ = some _ := (blk_cell hz 0).trans rfl
 have hz1_ : W0.cell? ⟨gz, 1, none⟩ = some _ := (blk_cell hz 1).trans rfl
 have hz2_ : W0.cell? ⟨gz, 2, none⟩ = some _ := (blk_cell hz 2).trans rfl
 have hz3_ : W0.cell? ⟨gz, 3, none⟩ = some _ := (blk_cell hz 3).trans rfl
 have hz4_ : W0.cell? ⟨gz, 4, none⟩ = some _ := (blk_cell hz 4).trans rfl
 have hz5_ : W0.cell? ⟨gz, 5, none⟩ = some _ := (blk_cell hz 5).trans rfl
 have hz6_ : W0.cell? ⟨gz, 6, none⟩ = some _ := (blk_cell hz 6).trans rfl
 have hz7_ : W0.cell? ⟨gz, 7, none⟩ = some _ := (blk_cell hz 7).trans rfl
 have hz8_ : W0.cell? ⟨gz, 8, none⟩ = some _ := (blk_cell hz 8).trans rfl
 have hz9_ : W0.cell? ⟨gz, 9, none⟩ = some _ := (blk_cell hz 9).trans rfl
 have hz10_ : W0.cell? ⟨gz, 10, none⟩ = some _ := (blk_cell hz 10).trans rfl
 have hlz := blk_lt hz
 obtain ⟨u, hu, huI⟩ := H0.st.int (576 + n) (by omega) (isB_u hn)
 obtain ⟨bo, hbo⟩ := H0.st.bool (512 + n) (by omega) (isB_o hn)
 obtain ⟨br, hbr⟩ := H0.st.bool (n * 8 + 7) (by omega) (isB_r hn)
 obtain ⟨l0, hl0, hi0⟩ := H0.st.int (n * 8) (by omega) (isB_l hn (j := 0) (by omega))
 have hv0 : W0.cell? ⟨gs, n * 8, none⟩ = some (.int .i64 l0) := (blk_cell H0.b _).trans hl0
 obtain ⟨l1, hl1, hi1⟩ := H0.st.int (n * 8 + 1) (by omega) (isB_l hn (j := 1) (by omega))
 have hv1 : W0.cell? ⟨gs, n * 8 + 1, none⟩ = some (.int .i64 l1) := (blk_cell H0.b _).trans hl1
 obtain ⟨l2, hl2, hi2⟩ := H0.st.int (n * 8 + 2) (by omega) (isB_l hn (j := 2) (by omega))
 have hv2 : W0.cell? ⟨gs, n * 8 + 2, none⟩ = some (.int .i64 l2) := (blk_cell H0.b _).trans hl2
 obtain ⟨l3, hl3, hi3⟩ := H0.st.int (n * 8 + 3) (by omega) (isB_l hn (j := 3) (by omega))
 have hv3 : W0.cell? ⟨gs, n * 8 + 3, none⟩ = some (.int .i64 l3) := (blk_cell H0.b _).trans hl3
 obtain ⟨l4, hl4, hi4⟩ := H0.st.int (n * 8 + 4) (by omega) (isB_l hn (j := 4) (by omega))
 have hv4 : W0.cell? ⟨gs, n * 8 + 4, none⟩ = some (.int .i64 l4) := (blk_cell H0.b _).trans hl4
 obtain ⟨l5, hl5, hi5⟩ := H0.st.int (n * 8 + 5) (by omega) (isB_l hn (j := 5) (by omega))
 have hv5 : W0.cell? ⟨gs, n * 8 + 5, none⟩ = some (.int .i64 l5) := (blk_cell H0.b _).trans hl5
 obtain ⟨l6, hl6, hi6⟩ := H0.st.int (n * 8 + 6) (by omega) (isB_l hn (j := 6) (by omega))
 have hv6 : W0.cell? ⟨gs, n * 8 + 6, none⟩ = some (.int .i64 l6) := (blk_cell H0.b _).trans hl6
 have hc1 : W0.cell? ⟨gs, 576 + n, none⟩ = some (.int .i64 u) := (blk_cell H0.b _).trans hu
 have hc2 : W0.cell? ⟨gs, 512 + n, none⟩ = some (.bool bo) := (blk_cell H0.b _).trans hbo
 have hc3 : W0.cell? ⟨gs, n * 8 + 7, none⟩ = some (.bool br) := (blk_cell H0.b _).trans hbr
 have hfz : ∀ i, W0.frozen? ⟨gs, i, none⟩ = false := fun i => blk_frozen H0.b i
 have hf0_ := hfz (n * 8)
 have hf1_ := hfz (n * 8 + 1)
 have hf2_ := hfz (n * 8 + 2)
 have hf3_ := hfz (n * 8 + 3)
 have hf4_ := hfz (n * 8 + 4)
 have hf5_ := hfz (n * 8 + 5)
 have hf6_ := hfz (n * 8 + 6)
 have hf7_ := hfz (n * 8 + 7)
 have hf8_ := hfz (512 + n)
 have hf9_ := hfz (576 + n)
 have hgl := blk_lt H0.b
 have HU := Aside0.mk huI
 have HLI := Aside0.mk (And.intro hi0 (And.intro hi1 (And.intro hi2 (And.intro hi3 (And.intro hi4 (And.intro hi5 hi6))))))
 clear H0 hz hu hbo hbr huI hfz hl0 hi0 hl1 hi1 hl2 hi2 hl3 hi3 hl4 hi4 hl5 hi5 hl6 hi6
 obtain ⟨b, hf0⟩ := force_b cs H.out.st n hn x4
 have hf := hf0
 clear hf0
 go_upto_region 17 with fail
 go_cut [5] (fun s5 wx => ∃ g5 : Nat, s5 = .pointer (some ⟨g5, 0, none⟩) ∧ Aside0 (SW w w1 wx gs cs) ∧ Aside0 (wx.heap[gz]? = some (.cells #[.int .i64 x0, .int .i64 x1, .int .i64 x2, .int .i64 x3, .int .i64 x4, .int .i64 4, .int .i64 (n : Int), .int .i64 x7, .int .i64 x8, .int .i64 x9, .int .i64 x10] 39 (0, 0))) ∧ Aside0 (wx.heap[g5]? = some (.cells #[.int .i64 l0, .int .i64 l1, .int .i64 l2, .int .i64 l3, .int .i64 l4, .int .i64 l5, .int .i64 l6, .bool br] 82 (0, 0))))
 case first =>
  go_region
  all_goals (go_wp2_with fail)
  all_goals go_meet
  all_goals (first | exact ⟨_, rfl, ⟨(H.out.drew).alloc _⟩, ⟨blk_alloc HZ.out _⟩, ⟨heap_alloc_new _ _⟩⟩ | exact ⟨_, rfl, ⟨H.out.alloc _⟩, ⟨blk_alloc HZ.out _⟩, ⟨heap_alloc_new _ _⟩⟩ | exact ⟨_, rfl, ⟨(H.out.alloc _).drew⟩, ⟨blk_alloc HZ.out _⟩, ⟨heap_alloc_new _ _⟩⟩ | trace_state)
 case rest =>
 clear H HZ HU HLI hz0_ hz1_ hz2_ hz3_ hz4_ hz5_ hz6_ hz7_ hz8_ hz9_ hz10_ hv0 hv1 hv2 hv3 hv4 hv5 hv6 hf0_ hf1_ hf2_ hf3_ hf4_ hf5_ hf6_ hf7_ hf8_ hf9_ hc1 hc2 hc3 hgl hlz
 obtain ⟨g5, rfl, H, HZ, H5⟩ := hcut
 have H0 := H.out
 have hz := HZ.out
 have hz0_ : wc.cell? ⟨gz, 0, none⟩ = some _ := (blk_cell hz 0).trans rfl
 have hz1_ : wc.cell? ⟨gz, 1, none⟩ = some _ := (blk_cell hz 1).trans rfl
 have hz2_ : wc.cell? ⟨gz, 2, none⟩ = some _ := (blk_cell hz 2).trans rfl
 have hz3_ : wc.cell? ⟨gz, 3, none⟩ = some _ := (blk_cell hz 3).trans rfl
 have hz4_ : wc.cell? ⟨gz, 4, none⟩ = some _ := (blk_cell hz 4).trans rfl
 have hz5_ : wc.cell? ⟨gz, 5, none⟩ = some _ := (blk_cell hz 5).trans rfl
 have hz6_ : wc.cell? ⟨gz, 6, none⟩ = some _ := (blk_cell hz 6).trans rfl
 have hz7_ : wc.cell? ⟨gz, 7, none⟩ = some _ := (blk_cell hz 7).trans rfl
 have hz8_ : wc.cell? ⟨gz, 8, none⟩ = some _ := (blk_cell hz 8).trans rfl
 have hz9_ : wc.cell? ⟨gz, 9, none⟩ = some _ := (blk_cell hz 9).trans rfl
 have hz10_ : wc.cell? ⟨gz, 10, none⟩ = some _ := (blk_cell hz 10).trans rfl
 have hlz := blk_lt hz
 obtain ⟨u, hu, huI⟩ := H0.st.int (576 + n) (by omega) (isB_u hn)
 obtain ⟨bo, hbo⟩ := H0.st.bool (512 + n) (by omega) (isB_o hn)
 obtain ⟨br, hbr⟩ := H0.st.bool (n * 8 + 7) (by omega) (isB_r hn)
 obtain ⟨l0, hl0, hi0⟩ := H0.st.int (n * 8) (by omega) (isB_l hn (j := 0) (by omega))
 have hv0 : wc.cell? ⟨gs, n * 8, none⟩ = some (.int .i64 l0) := (blk_cell H0.b _).trans hl0
 obtain ⟨l1, hl1, hi1⟩ := H0.st.int (n * 8 + 1) (by omega) (isB_l hn (j := 1) (by omega))
 have hv1 : wc.cell? ⟨gs, n * 8 + 1, none⟩ = some (.int .i64 l1) := (blk_cell H0.b _).trans hl1
 obtain ⟨l2, hl2, hi2⟩ := H0.st.int (n * 8 + 2) (by omega) (isB_l hn (j := 2) (by omega))
 have hv2 : wc.cell? ⟨gs, n * 8 + 2, none⟩ = some (.int .i64 l2) := (blk_cell H0.b _).trans hl2
 obtain ⟨m3, hl3, hi3⟩ := H0.st.int (n * 8 + 3) (by omega) (isB_l hn (j := 3) (by omega))
 have hv3 : wc.cell? ⟨gs, n * 8 + 3, none⟩ = some (.int .i64 m3) := (blk_cell H0.b _).trans hl3
 obtain ⟨m4, hl4, hi4⟩ := H0.st.int (n * 8 + 4) (by omega) (isB_l hn (j := 4) (by omega))
 have hv4 : wc.cell? ⟨gs, n * 8 + 4, none⟩ = some (.int .i64 m4) := (blk_cell H0.b _).trans hl4
 obtain ⟨l5, hl5, hi5⟩ := H0.st.int (n * 8 + 5) (by omega) (isB_l hn (j := 5) (by omega))
 have hv5 : wc.cell? ⟨gs, n * 8 + 5, none⟩ = some (.int .i64 l5) := (blk_cell H0.b _).trans hl5
 obtain ⟨l6, hl6, hi6⟩ := H0.st.int (n * 8 + 6) (by omega) (isB_l hn (j := 6) (by omega))
 have hv6 : wc.cell? ⟨gs, n * 8 + 6, none⟩ = some (.int .i64 l6) := (blk_cell H0.b _).trans hl6
 have hc1 : wc.cell? ⟨gs, 576 + n, none⟩ = some (.int .i64 u) := (blk_cell H0.b _).trans hu
 have hc2 : wc.cell? ⟨gs, 512 + n, none⟩ = some (.bool bo) := (blk_cell H0.b _).trans hbo
 have hc3 : wc.cell? ⟨gs, n * 8 + 7, none⟩ = some (.bool br) := (blk_cell H0.b _).trans hbr
 have hfz : ∀ i, wc.frozen? ⟨gs, i, none⟩ = false := fun i => blk_frozen H0.b i
 have hf0_ := hfz (n * 8)
 have hf1_ := hfz (n * 8 + 1)
 have hf2_ := hfz (n * 8 + 2)
 have hf3_ := hfz (n * 8 + 3)
 have hf4_ := hfz (n * 8 + 4)
 have hf5_ := hfz (n * 8 + 5)
 have hf6_ := hfz (n * 8 + 6)
 have hf7_ := hfz (n * 8 + 7)
 have hf8_ := hfz (512 + n)
 have hf9_ := hfz (576 + n)
 have hgl := blk_lt H0.b
 have HU := Aside0.mk huI
 have HLI := Aside0.mk (And.intro hi0 (And.intro hi1 (And.intro hi2 (And.intro hi3 (And.intro hi4 (And.intro hi5 hi6))))))
 clear H0 hz hu hbo hbr huI hfz hl0 hi0 hl1 hi1 hl2 hi2 hl3 hi3 hl4 hi4 hl5 hi5 hl6 hi6
 have hw3 : wc.cell? ⟨g5, 3, none⟩ = some (.int .i64 l3) := (blk_cell H5.out 3).trans rfl
 have hw4 : wc.cell? ⟨g5, 4, none⟩ = some (.int .i64 l4) := (blk_cell H5.out 4).trans rfl
 have hwl := blk_lt H5.out
 cases b
 ·go_wp2_with (first | (go_at_call 66; with_reducible refine (hf _ _ (by first | exact H.out.b | exact blk_drewN H.out.b _ | exact blk_alloc H.out.b _ | exact blk_alloc (blk_drewN H.out.b _) _ | exact blk_alloc (blk_drew H.out.b) _)).mono ?_; rintro e w' ⟨rfl, rfl⟩))
  go_ret
  exact ⟨⟨_, _, rfl, H.out⟩⟩
 ·by_cases e3 : l3 = x7
  ·have g3 : (l3 != x7) = false := bne_eq_false_iff_eq.2 e3
   have g3' : (l3 == x7) = true := beq_iff_eq.2 e3
   by_cases e4 : l4 = x8
   ·have g4 : (l4 != x8) = false := bne_eq_false_iff_eq.2 e4
    have g4' : (l4 == x8) = true := beq_iff_eq.2 e4
    clear e3 e4
    go_upto_region 20 with (first | (go_at_call 66; with_reducible refine (hf _ _ (by first | exact H.out.b | exact blk_drewN H.out.b _ | exact blk_alloc H.out.b _ | exact blk_alloc (blk_drewN H.out.b _) _ | exact blk_alloc (blk_drew H.out.b) _)).mono ?_; rintro e w' ⟨rfl, rfl⟩))
    go_region
    all_goals (go_wp2_with fail)
    all_goals go_ret
    all_goals (first | exact ⟨⟨_, _, rfl, (H.out).set (n * 8 + 7) _ (okc_bool (isB_r hn) _)⟩⟩ | exact ⟨⟨_, _, rfl, ((H.out).set (n * 8 + 7) _ (okc_bool (isB_r hn) _)).drew⟩⟩ | trace_state)
   ·have g4 : (l4 != x8) = true := bne_iff_ne.2 e4
    have g4' : (l4 == x8) = false := beq_eq_false_iff_ne.2 e4
    clear e3 e4
    go_wp2_with (first | (go_at_call 66; with_reducible refine (hf _ _ (by first | exact H.out.b | exact blk_drewN H.out.b _ | exact blk_alloc H.out.b _ | exact blk_alloc (blk_drewN H.out.b _) _ | exact blk_alloc (blk_drew H.out.b) _)).mono ?_; rintro e w' ⟨rfl, rfl⟩))
    go_ret
    exact ⟨⟨_, _, rfl, H.out⟩⟩
  ·have g3 : (l3 != x7) = true := bne_iff_ne.2 e3
   have g3' : (l3 == x7) = false := beq_eq_false_iff_ne.2 e3
   clear e3
   go_wp2_with (first | (go_at_call 66; with_reducible refine (hf _ _ (by first | exact H.out.b | exact blk_drewN H.out.b _ | exact blk_alloc H.out.b _ | exact blk_alloc (blk_drewN H.out.b _) _ | exact blk_alloc (blk_drew H.out.b) _)).mono ?_; rintro e w' ⟨rfl, rfl⟩))
   go_ret
   exact ⟨⟨_, _, rfl, H.out⟩⟩
set_option maxRecDepth 100000 in
set_option maxHeartbeats 8000000 in
theorem say0_x (w w1 W : World) (gs : Nat) (cs : Array Value) (x0 x1 x2 x3 x4 x5 x6 x7 x8 x9 x10 : Int) (h : SW w w1 W gs cs) (h5 : x5 < 1 ∨ 5 < x5) :
 Calls Tryd.prog 65 #[.pointer (some ⟨gs, 0, none⟩), .agg #[.int .i64 x0, .int .i64 x1, .int .i64 x2, .int .i64 x3, .int .i64 x4, .int .i64 x5, .int .i64 x6, .int .i64 x7, .int .i64 x8, .int .i64 x9, .int .i64 x10]] W (SayOk w w1 gs) := by
 have hu2 := Tryd.underlying39
 have k1 : (x5 == 1) = false := beq_eq_false_iff_ne.2 (by omega)
 have k2 : (x5 == 2) = false := beq_eq_false_iff_ne.2 (by omega)
 have k3 : (x5 == 3) = false := beq_eq_false_iff_ne.2 (by omega)
 have k4 : (x5 == 4) = false := beq_eq_false_iff_ne.2 (by omega)
 have k5 : (x5 == 5) = false := beq_eq_false_iff_ne.2 (by omega)
 have H := Aside0.mk h
 clear h h5
 go_enter Tryd.func65, Tryd.ntmps65
 go_wp2
 go_ret
 exact ⟨⟨_, _, rfl, H.out.alloc _⟩⟩
theorem say_x (w w1 W : World) (gs : Nat) (cs : Array Value) (x0 x1 x2 x3 x4 x5 x6 x7 x8 x9 x10 : Int) (h : SW w w1 W gs cs) (hI : W64 ⟨x0, x1, x2, x3, x4, x5, x6, x7, x8, x9, x10⟩) (hk : 1 ≤ x5 ∧ x5 ≤ 5 → 0 ≤ x6 ∧ x6 ≤ 63) :
 Calls Tryd.prog 65 #[.pointer (some ⟨gs, 0, none⟩), .agg #[.int .i64 x0, .int .i64 x1, .int .i64 x2, .int .i64 x3, .int .i64 x4, .int .i64 x5, .int .i64 x6, .int .i64 x7, .int .i64 x8, .int .i64 x9, .int .i64 x10]] W (SayOk w w1 gs) := by
 by_cases h5 : x5 < 1 ∨ 5 < x5
 ·exact say0_x w w1 W gs cs x0 x1 x2 x3 x4 x5 x6 x7 x8 x9 x10 h h5
 obtain ⟨n, rfl⟩ : ∃ n : Nat, x6 = (n : Int) := ⟨x6.toNat, by have := hk (by omega); omega⟩
 have hn : n < 64 := by have := hk (by omega); omega
 obtain rfl | rfl | rfl | rfl | rfl : x5 = 1 ∨ x5 = 2 ∨ x5 = 3 ∨ x5 = 4 ∨ x5 = 5 := by omega
 ·exact say1_x w w1 W gs cs x0 x1 x2 x3 x4 x7 x8 x9 x10 n h hI hn
 ·exact say2_x w w1 W gs cs x0 x1 x2 x3 x4 x7 x8 x9 x10 n h hI hn
 ·exact say3_x w w1 W gs cs x0 x1 x2 x3 x4 x7 x8 x9 x10 n h hI hn
 ·exact say4_x w w1 W gs cs x0 x1 x2 x3 x4 x7 x8 x9 x10 n h hI hn
 ·exact say5_x w w1 W gs cs x0 x1 x2 x3 x4 x7 x8 x9 x10 n h hI hn
end Go.Proofs.YtcalkhlchjjalaaDoor.Grf

namespace Go.Proofs.YtcalkhlchjjalaaDoor.Gre
open Go Go.RowKit Go.Proofs Go.Proofs.YtcalkhlchjjalaaDoor.Gm Go.Proofs.YtcalkhlchjjalaaDoor.Gdm Go.Proofs.YtcalkhlchjjalaaDoor.Gsy Go.Proofs.YtcalkhlchjjalaaDoor.Gnx Go.Proofs.YtcalkhlchjjalaaDoor.Grf Go.Proofs.YtcalkhlchjjalaaDoor.Q Go.Proofs.YtcalkhlchjjalaaDoorW.PrintWords Go.Proofs.YtcalkhlchjjalaaDoorW.PrintLast Go.Proofs.YtcalkhlchjjalaaDoorW.PrintMore
set_option linter.unusedVariables false
noncomputable def zst : Array Value := (((Tryd.prog.info? 108).bind (·.zero)).map (·.cells)).getD #[]
theorem zst_info : (Tryd.prog.info? 108).map (fun i => (i.zero.map (·.cells), i.size)) = some (some zst, 640) := by kernel_rfl
def zok (i : Nat) : Option Value → Bool
 | some (.int .i64 x) => !isB i && decide (x = 0)
 | some (.bool _) => isB i
 | _ => false
theorem zst_chk : (List.range 640).all (fun i => zok i zst[i]?) = true := by kernel_rfl
theorem zst_size : zst.size = 640 := by kernel_rfl
theorem zok_ok {i : Nat} {v : Option Value} (h : zok i v = true) : okc i v := by
 unfold zok at h
 split at h
 ·rename_i x
  rw [Bool.and_eq_true, decide_eq_true_eq] at h
  exact okc_int (by simpa using h.1) (by rw [h.2]; unfold I64; omega)
 ·exact okc_bool h _
 ·cases h
theorem zst_St : St zst := ⟨zst_size, fun i hi => zok_ok (List.all_eq_true.1 zst_chk i (List.mem_range.2 hi))⟩
theorem run_alloc_st (W : World) (o : Oper) (ρ : Operand → Value) (ho : o.op = .alloc 108) : (execOp ρ o).run Tryd.prog W = .ok (.value (.pointer (some ⟨W.heap.size, 0, none⟩))) (W.alloc (.cells zst 108 (0, 0))) := by
 have h := zst_info
 cases hi : Tryd.prog.info? 108 with
 | none => rw [hi] at h; cases h
 | some i =>
  rw [hi] at h
  simp only [Option.map_some, Option.some.injEq, Prod.mk.injEq] at h
  obtain ⟨h1, -⟩ := h
  cases hz : i.zero with
  | none => rw [hz] at h1; cases h1
  | some z =>
   rw [hz] at h1
   simp only [Option.map_some, Option.some.injEq] at h1
   unfold execOp
   simp [ho, Instr.alloc, zeroValue, typeInfo, hi, hz, newVar, newRow, h1]
theorem St.one {cs : Array Value} (h : St cs) : cs.all (·.oneCell') = true := by
 rw [Array.all_eq_true]
 intro i hi
 have hk := h.ok i (by rw [← h.sz]; exact hi)
 rw [Array.getElem?_eq_getElem hi] at hk
 unfold okc at hk
 split at hk
 ·obtain ⟨b, e⟩ := hk
  rw [Option.some.inj e]
  rfl
 ·obtain ⟨x, e, -⟩ := hk
  rw [Option.some.inj e]
  rfl
structure EW (w W : World) (g0 g1 : Nat) (cs : Array Value) : Prop where
 hb : Below w.heap.size w W
 b0 : W.heap[g0]? = some (.cells zst 108 (0, 0))
 b1 : W.heap[g1]? = some (.cells cs 108 (0, 0))
 l0 : w.heap.size ≤ g0
 l1 : w.heap.size ≤ g1
 ne : g0 ≠ g1
 st : St cs
theorem EW.set {w W : World} {g0 g1 : Nat} {cs : Array Value} (h : EW w W g0 g1 cs) (i : Nat) (v : Value) (hv : okc i (some v)) : EW w (W.setCell ⟨g1, i, none⟩ v) g0 g1 (cs.setIfInBounds i v) :=
 ⟨below_set h.hb h.l1, blk_far (p := ⟨g1, i, none⟩) h.b0 h.ne v, blk_put h.b1 i v rfl, h.l0, h.l1, h.ne, h.st.set i v hv⟩
structure EmpOk (w : World) (e : Ending) (w' : World) : Prop where
 out : ∃ cs, e = .returned (.agg cs) ∧ St cs ∧ Below w.heap.size w w'
set_option maxRecDepth 100000 in
set_option maxHeartbeats 8000000 in
theorem empty_x (w : World) : Calls Tryd.prog 64 #[] w (EmpOk w) := by
 have hu1 := Tryd.underlying108
 have hin : (Tryd.prog.info? 108).map (·.size) = some 640 := by
  have h := zst_info
  cases hi : Tryd.prog.info? 108 with
  | none => rw [hi] at h; cases h
  | some i => rw [hi] at h; simp only [Option.map_some, Option.some.injEq, Prod.mk.injEq] at h ⊢; exact h.2
 have HIN := Lib.hid hin
 clear hin
 go_enter Tryd.func64, Tryd.ntmps64
 go_wp2_with (first
  | ((with_reducible refine gate_dst (N := 0) rfl ?_); refine box_event (N := 0) rfl rfl (run_alloc_st _ _ _ rfl) ?_; intro g0 hg0 w1 hbx0 hb1; have HA := Aside0.mk (And.intro hbx0 (And.intro hb1 hg0)); clear hbx0 hb1 hg0)
  | ((with_reducible refine gate_dst (N := 1) rfl ?_); refine box_event (N := 1) rfl rfl (run_alloc_st _ _ _ rfl) ?_; intro g1 hg1 w2 hbx1 hb2; have HB := Aside0.mk (And.intro hbx1 (And.intro hb2 hg1)); clear hbx1 hb2 hg1))
 obtain ⟨ha1, ha2, ha3⟩ := HA.out
 obtain ⟨hb1, hb2, hb3⟩ := HB.out
 have HX0 : Aside0 (EW w w2 g0 g1 zst) := ⟨⟨below_step ha2 hb2, blk_below ha1 hb2, hb1, by omega, by rw [hb3]; exact ha2.size, by rw [hb3]; exact Nat.ne_of_lt (blk_lt ha1), zst_St⟩⟩
 clear ha1 ha2 ha3 hb1 hb2 hb3 HA HB
 go_loopw [2, 3] (fun s2 s3 wr => ∃ (k : Nat) (cs : Array Value), k ≤ 64 ∧ s3 = .int .i64 k ∧ Aside0 (EW w wr g0 g1 cs)) (fun s2 s3 _ => 64 - (intOf s3).toNat)
 case atStart => exact ⟨0, _, by omega, rfl, HX0⟩
 case round =>
  clear HX0
  obtain ⟨k, cs, hk, rfl, HX⟩ := hrel
  by_cases hlt : k < 64
  case pos =>
   obtain ⟨u, hu, -⟩ := HX.out.st.int (576 + k) (by omega) (isB_u hlt)
   have hc1 : wr.cell? ⟨g1, 576 + k, none⟩ = some (.int .i64 u) := (blk_cell HX.out.b1 _).trans hu
   have hf1 := blk_frozen HX.out.b1 (576 + k)
   have hgl := blk_lt HX.out.b1
   clear hu
   have hk1 : (k : Int) < 64 := by omega
   go_wp2
   go_roundw
   case rel => exact ⟨k + 1, _, by omega, by go_num, ⟨HX.out.set (576 + k) _ (okc_int (isB_u hlt) (by unfold I64; omega))⟩⟩
   case measure => simp only [intOf]; omega
  case neg =>
   obtain rfl : k = 64 := by omega
   go_wp2_with (first
    | ((with_reducible refine gate_dst (N := 10) rfl ?_); refine wpList_load_row rfl 108 (.tmp 1) rfl g1 rfl 108 cs (0, 0) _ HX.out.b1 hu1 rfl (by rw [HX.out.st.sz]; exact HIN.out) ?_)
    | ((with_reducible refine gate_store (t := 108 ) (p := 0) (v := .tmp 10) rfl ?_); go_loud (refine wpList_store_row rfl 108 (.tmp 0) (.tmp 10) rfl g0 cs rfl rfl 108 zst HX.out.b0 (by rw [HX.out.st.sz]; exact HIN.out) (by rw [HX.out.st.sz, zst_size]) (St.one HX.out.st) ?_)))
   trace_state
   refine bodyPost_ret (results_cell_row rfl _ _ g0 108 cs (0, 0) _ rfl (setRow_heap _ g0 zst cs 108 (0, 0) HX.out.b0) hu1 rfl (by rw [HX.out.st.sz]; exact HIN.out)) rfl ?_
   exact ⟨⟨cs, rfl, HX.out.st, below_setRow HX.out.hb HX.out.l0 cs⟩⟩
end Go.Proofs.YtcalkhlchjjalaaDoor.Gre

namespace Go.Proofs.YtcalkhlchjjalaaDoor.Gri
open Go Go.RowKit Go.Proofs Go.Proofs.YtcalkhlchjjalaaDoor.Gm Go.Proofs.YtcalkhlchjjalaaDoor.Gdm Go.Proofs.YtcalkhlchjjalaaDoor.Gsy Go.Proofs.YtcalkhlchjjalaaDoor.Gnx Go.Proofs.YtcalkhlchjjalaaDoor.Ggd Go.Proofs.YtcalkhlchjjalaaDoor.Grv Go.Proofs.YtcalkhlchjjalaaDoor.Grn Go.Proofs.YtcalkhlchjjalaaDoor.Grf Go.Proofs.YtcalkhlchjjalaaDoor.Gre Go.Proofs.YtcalkhlchjjalaaDoor.Q Go.Proofs.YtcalkhlchjjalaaDoorW.PrintWords Go.Proofs.YtcalkhlchjjalaaDoorW.PrintLast Go.Proofs.YtcalkhlchjjalaaDoorW.PrintMore
set_option linter.unusedVariables false
theorem vld_slot {s : S39} (h : vldS s = true) (h5 : 1 ≤ s.f5 ∧ s.f5 ≤ 5) : 0 ≤ s.f6 ∧ s.f6 ≤ 63 := by
 rw [vldS_iff] at h
 obtain ⟨h0, h1, h2, h3, h4, h6, h7, h8, h9, h10, hf⟩ := h
 clear h0 h1 h2 h3 h4 h6 h7 h8 h9 h10
 obtain h5 | h5 | h5 | h5 | h5 : s.f5 = 1 ∨ s.f5 = 2 ∨ s.f5 = 3 ∨ s.f5 = 4 ∨ s.f5 = 5 := by omega
 all_goals
  rw [h5] at hf
  unfold fitsB at hf
  rw [if_neg (by omega)] at hf
  simp only [show (1 : Int).toNat = 1 from rfl, show (2 : Int).toNat = 2 from rfl, show (3 : Int).toNat = 3 from rfl, show (4 : Int).toNat = 4 from rfl, show (5 : Int).toNat = 5 from rfl, fm, if_true, if_false, Bool.false_eq_true] at hf
  try (split at hf; (cases hf))
  unfold tailB at hf
  simp only [Bool.and_eq_true, hold_iff] at hf
  omega
structure RightOk (w : World) (l : List S39) (e : Ending) (w' : World) : Prop where
 out : ∃ c : Int, e = .returned (.int .i64 c) ∧ Below w.heap.size w w' ∧ (c = 0 → ∀ s ∈ l, vldS s = true)
theorem SW.make {w W W2 : World} {gs : Nat} {cs : Array Value} (hb : Below w.heap.size w W) (hg : gs = W.heap.size) (h1 : W2.heap[gs]? = some (.cells zst 108 (0, 0))) (h2 : Below W.heap.size W W2) (hs : St cs) : SW w (W2.setRow gs cs) (W2.setRow gs cs) gs cs :=
 ⟨below_setRow (below_step hb h2) (by rw [hg]; exact hb.size) cs, by rw [hg]; exact hb.size, setRow_heap _ gs zst cs 108 (0, 0) h1, KeepBut.refl _ _ _, hs⟩
set_option maxRecDepth 100000 in
set_option maxHeartbeats 8000000 in
theorem right_x (A0 : Option Addr) (c0 : Nat) (l0 : List S39) (w : World) (hr0 : Kd.C k39 w A0 l0.length l0) (hc0 : l0.length ≤ c0) (hl : l0.length ≤ 300) (hW : ∀ s ∈ l0, W64 s) :
 Calls Tryd.prog 63 #[.slice A0 l0.length c0] w (RightOk w l0) := by
 have mixed : (Tryd.prog).follows .mixedOrders = true := by kernel_rfl
 have hu39 := Tryd.underlying39
 have hu1 := Tryd.underlying108
 have hin : (Tryd.prog.info? 108).map (·.size) = some 640 := by
  have h := zst_info
  cases hi : Tryd.prog.info? 108 with
  | none => rw [hi] at h; cases h
  | some i => rw [hi] at h; simp only [Option.map_some, Option.some.injEq, Prod.mk.injEq] at h ⊢; exact h.2
 have HIN := Lib.hid hin
 have HR := Aside0.mk hr0
 have HW := Aside0.mk hW
 clear hin hr0 hW
 go_enter Tryd.func63, Tryd.ntmps63
 go_wp2_with (first | (go_at_call 64; with_reducible refine (empty_x _).mono ?_; rintro e w1 ⟨cs, rfl, hst, hb⟩; have HE := Aside0.mk (And.intro hst (And.intro hb trivial)); clear hst hb) | ((with_reducible refine gate_dst (N := 3) rfl ?_); refine box_event (N := 3) rfl rfl (run_alloc_st _ _ _ rfl) ?_; intro g3 hg3 w2 hbx hb; have HA := Aside0.mk (And.intro hbx (And.intro hb hg3)); clear hbx hb hg3) | ((with_reducible refine gate_store (t := 108 ) (p := 3) (v := .tmp 6) rfl ?_); go_loud (refine wpList_store_row rfl 108 (.tmp 3) (.tmp 6) rfl g3 cs rfl rfl 108 zst HA.out.1 (by rw [HE.out.1.sz]; exact HIN.out) (by rw [HE.out.1.sz, zst_size]) (St.one HE.out.1) ?_)))
 have HX0 := Aside0.mk (SW.make HE.out.2.1 HA.out.2.2 HA.out.1 HA.out.2.1 HE.out.1)
 obtain ⟨W3, hW3⟩ : ∃ W3, W3 = w2.setRow g3 cs := ⟨_, rfl⟩
 rw [← hW3] at HX0 ⊢
 clear hW3 HE HA
 go_loopw [4, 5, 9] (fun s4 s5 s9 wr => ∃ (k : Nat) (cs : Array Value), k ≤ l0.length ∧ s9 = .int .i64 k ∧ Aside0 (∀ j : Nat, j < k → vldS (rd_T39 l0 j) = true) ∧ Aside0 (SW w W3 wr g3 cs)) (fun s4 s5 s9 _ => l0.length - (intOf s9).toNat)
 case atStart => exact ⟨0, _, Nat.zero_le _, rfl, ⟨fun j hj => absurd hj (Nat.not_lt_zero _)⟩, HX0⟩
 case round =>
  clear HX0
  obtain ⟨k, cs2, hk, rfl, HJ, HX⟩ := hrel
  by_cases hlt : k < l0.length
  case neg =>
   obtain rfl : k = l0.length := by omega
   have HB := Aside0.mk HX.out.hb
   have HQ : Aside0 (∀ s ∈ l0, vldS s = true) := ⟨fun s hs => by obtain ⟨j, hj, rfl⟩ := List.getElem_of_mem hs; rw [← rd_get l0 j hj]; exact HJ.out j hj⟩
   clear HX HJ
   go_wp2
   go_ret
   exact ⟨⟨_, rfl, HB.out, fun _ => HQ.out⟩⟩
  case pos =>
   obtain ⟨ad, ead, hx0, hx1, hx2, hx3, hx4, hx5, hx6, hx7, hx8, hx9, hx10⟩ := at_T39 HR.out k (by omega) (by omega)
   cases ead
   obtain ⟨ad2, ead2, hz0, hz1, -⟩ := at_T39 HR.out ((0 : Nat) : Int) (by omega) (by omega)
   cases ead2
   obtain ⟨m, hm⟩ : ∃ m : Nat, m < l0.length ∧ (0 < k → (k : Int) - 1 = (m : Int)) := ⟨k - 1, by omega, fun _ => by omega⟩
   obtain ⟨hml, hm4⟩ := hm
   obtain ⟨ad3, ead3, -, -, -, -, hp4, -⟩ := at_T39 HR.out m (by omega) (by omega)
   cases ead3
   have ea0 : ad.add 0 = ad := by cases ad; simp [Addr.add]
   simp only [Int.toNat_natCast, Nat.zero_mul, ea0] at hx0 hx1 hx2 hx3 hx4 hx5 hx6 hx7 hx8 hx9 hx10 hz0 hz1 hp4
   have heW : W64 (rd_T39 l0 k) := by rw [rd_get l0 k hlt]; exact HW.out _ (List.getElem_mem hlt)
   obtain ⟨e, he⟩ : ∃ e, e = rd_T39 l0 k := ⟨_, rfl⟩
   rw [← he] at hx0 hx1 hx2 hx3 hx4 hx5 hx6 hx7 hx8 hx9 hx10 heW
   obtain ⟨z0, hz0e⟩ : ∃ z, z = (rd_T39 l0 ((0 : Nat) : Int)).f0 := ⟨_, rfl⟩
   obtain ⟨z1, hz1e⟩ : ∃ z, z = (rd_T39 l0 ((0 : Nat) : Int)).f1 := ⟨_, rfl⟩
   obtain ⟨p4, hp4e⟩ : ∃ z, z = (rd_T39 l0 (m : Int)).f4 := ⟨_, rfl⟩
   rw [← hz0e] at hz0
   rw [← hz1e] at hz1
   rw [← hp4e] at hp4
   have HE := Lib.hid he
   have HEW := Aside0.mk heW
   clear he heW hz0e hz1e hp4e ea0
   obtain ⟨y0, y1, y2, y3, y4, y5, y6, y7, y8, y9, y10⟩ := e
   simp only at hx0 hx1 hx2 hx3 hx4 hx5 hx6 hx7 hx8 hx9 hx10
   have HCH := Aside0.mk (And.intro hz0 (And.intro hz1 hp4))
   replace hx0 := (HX.out.hb.cell (World.block_lt_of_cell? w _ hx0)).trans hx0
   replace hx1 := (HX.out.hb.cell (World.block_lt_of_cell? w _ hx1)).trans hx1
   replace hx2 := (HX.out.hb.cell (World.block_lt_of_cell? w _ hx2)).trans hx2
   replace hx3 := (HX.out.hb.cell (World.block_lt_of_cell? w _ hx3)).trans hx3
   replace hx4 := (HX.out.hb.cell (World.block_lt_of_cell? w _ hx4)).trans hx4
   replace hx5 := (HX.out.hb.cell (World.block_lt_of_cell? w _ hx5)).trans hx5
   replace hx6 := (HX.out.hb.cell (World.block_lt_of_cell? w _ hx6)).trans hx6
   replace hx7 := (HX.out.hb.cell (World.block_lt_of_cell? w _ hx7)).trans hx7
   replace hx8 := (HX.out.hb.cell (World.block_lt_of_cell? w _ hx8)).trans hx8
   replace hx9 := (HX.out.hb.cell (World.block_lt_of_cell? w _ hx9)).trans hx9
   replace hx10 := (HX.out.hb.cell (World.block_lt_of_cell? w _ hx10)).trans hx10
   clear hz0 hz1 hp4
   obtain ⟨b, hb⟩ : ∃ b, vldB y0 y1 y2 y3 y4 y5 y6 y7 y8 y9 y10 = b := ⟨_, rfl⟩
   have HV := Aside0.mk hb
   clear hb
   cases b
   case false =>
    go_wp2_with (first | (go_at_call 34; with_reducible refine (rvalid_x y0 y1 y2 y3 y4 y5 y6 y7 y8 y9 y10 _ HEW.out.h9 false HV.out).mono ?_; rintro e w5 ⟨rfl, hb⟩; have n1_ := Aside0.mk ((HX.out.alloc _).below hb); have n2_ := Aside0.mk (blk_below (heap_alloc_new wr (.cells #[.int .i64 y0, .int .i64 y1, .int .i64 y2, .int .i64 y3, .int .i64 y4, .int .i64 y5, .int .i64 y6, .int .i64 y7, .int .i64 y8, .int .i64 y9, .int .i64 y10] 39)) hb); clear HX; have HX := n1_; have H5 := n2_; clear n1_ n2_ hb))
    go_ret
    exact ⟨⟨2, rfl, HX.out.hb, fun h => absurd h (by decide)⟩⟩
   case true =>
   have HJ1 : Aside0 (∀ j : Nat, j < k + 1 → vldS (rd_T39 l0 j) = true) := ⟨fun j hj => by
    by_cases z : j = k
    ·subst z; rw [← HE.out]; exact HV.out
    ·exact HJ.out j (by omega)⟩
   have HSL : Aside0 (1 ≤ y5 ∧ y5 ≤ 5 → 0 ≤ y6 ∧ y6 ≤ 63) := ⟨fun h => vld_slot (s := ⟨y0, y1, y2, y3, y4, y5, y6, y7, y8, y9, y10⟩) HV.out h⟩
   go_upto_region 7 with (first | (go_at_call 34; with_reducible refine (rvalid_x y0 y1 y2 y3 y4 y5 y6 y7 y8 y9 y10 _ HEW.out.h9 true HV.out).mono ?_; rintro e w5 ⟨rfl, hb⟩; have n1_ := Aside0.mk ((HX.out.alloc _).below hb); have n2_ := Aside0.mk (blk_below (heap_alloc_new wr (.cells #[.int .i64 y0, .int .i64 y1, .int .i64 y2, .int .i64 y3, .int .i64 y4, .int .i64 y5, .int .i64 y6, .int .i64 y7, .int .i64 y8, .int .i64 y9, .int .i64 y10] 39)) hb); clear HX; have HX := n1_; have H5 := n2_; clear n1_ n2_ hb; have hw0_ : w5.cell? ⟨wr.heap.size, 0, none⟩ = some _ := (blk_cell H5.out 0).trans rfl; have hw1_ : w5.cell? ⟨wr.heap.size, 1, none⟩ = some _ := (blk_cell H5.out 1).trans rfl; have hw2_ : w5.cell? ⟨wr.heap.size, 2, none⟩ = some _ := (blk_cell H5.out 2).trans rfl; have hw3_ : w5.cell? ⟨wr.heap.size, 3, none⟩ = some _ := (blk_cell H5.out 3).trans rfl; have hw4_ : w5.cell? ⟨wr.heap.size, 4, none⟩ = some _ := (blk_cell H5.out 4).trans rfl; have hw5_ : w5.cell? ⟨wr.heap.size, 5, none⟩ = some _ := (blk_cell H5.out 5).trans rfl; have hw6_ : w5.cell? ⟨wr.heap.size, 6, none⟩ = some _ := (blk_cell H5.out 6).trans rfl; have hw7_ : w5.cell? ⟨wr.heap.size, 7, none⟩ = some _ := (blk_cell H5.out 7).trans rfl; have hw8_ : w5.cell? ⟨wr.heap.size, 8, none⟩ = some _ := (blk_cell H5.out 8).trans rfl; have hw9_ : w5.cell? ⟨wr.heap.size, 9, none⟩ = some _ := (blk_cell H5.out 9).trans rfl; have hw10_ : w5.cell? ⟨wr.heap.size, 10, none⟩ = some _ := (blk_cell H5.out 10).trans rfl; have hwl_ := blk_lt H5.out; obtain ⟨q0, q1, q2⟩ := HCH.out; replace q0 := (HX.out.hb.cell (World.block_lt_of_cell? w _ q0)).trans q0; replace q1 := (HX.out.hb.cell (World.block_lt_of_cell? w _ q1)).trans q1; replace q2 := (HX.out.hb.cell (World.block_lt_of_cell? w _ q2)).trans q2))
   by_cases e0 : y0 = z0
   case neg =>
    have g0 : (y0 != z0) = true := bne_iff_ne.2 e0
    have g0' : (y0 == z0) = false := beq_eq_false_iff_ne.2 e0
    clear e0
    go_quiet (fail)
    go_wp2
    go_ret
    exact ⟨⟨20, rfl, (HX.out.below (pw_below_drewN (Below.refl _ _) _)).hb, fun h => absurd h (by decide)⟩⟩
   case pos =>
   have g0 : (y0 != z0) = false := bne_eq_false_iff_eq.2 e0
   have g0' : (y0 == z0) = true := beq_iff_eq.2 e0
   by_cases e1 : y1 = z1
   case neg =>
    have g1 : (y1 != z1) = true := bne_iff_ne.2 e1
    have g1' : (y1 == z1) = false := beq_eq_false_iff_ne.2 e1
    clear e0 e1
    go_quiet (fail)
    go_wp2
    go_ret
    exact ⟨⟨20, rfl, (HX.out.below (pw_below_drewN (Below.refl _ _) _)).hb, fun h => absurd h (by decide)⟩⟩
   case pos =>
   have g1 : (y1 != z1) = false := bne_eq_false_iff_eq.2 e1
   have g1' : (y1 == z1) = true := beq_iff_eq.2 e1
   clear e0 e1
   go_quiet (fail)
   go_upto_region 9 with fail
   go_cut [45] (fun s45 wx => ∃ r : Bool, s45 = .bool r ∧ Aside0 (SW w W3 wx g3 cs2) ∧ Aside0 (wx.heap[wr.heap.size]? = some (.cells #[.int .i64 y0, .int .i64 y1, .int .i64 y2, .int .i64 y3, .int .i64 y4, .int .i64 y5, .int .i64 y6, .int .i64 y7, .int .i64 y8, .int .i64 y9, .int .i64 y10] 39 (0, 0))))
   case first =>
    by_cases hk0 : 0 < k
    case neg =>
     have d1 : decide (0 < k) = false := decide_eq_false hk0
     have d2 : decide (0 < (k : Int)) = false := decide_eq_false (by omega)
     go_quiet (fail)
     go_wp2_with fail
     go_meet
     (first | exact ⟨_, rfl, ⟨HX.out.below (pw_below_drewN (pw_below_drewN (Below.refl _ _) _) _)⟩, ⟨blk_below H5.out (pw_below_drewN (pw_below_drewN (Below.refl _ _) _) _)⟩⟩ | exact ⟨_, rfl, ⟨HX.out.below (pw_below_drewN (Below.refl _ _) _)⟩, ⟨blk_below H5.out (pw_below_drewN (Below.refl _ _) _)⟩⟩)
    case pos =>
     have d1 : decide (0 < k) = true := decide_eq_true hk0
     have d2 : decide (0 < (k : Int)) = true := decide_eq_true (by omega)
     have hm5 := hm4 hk0
     have hm2 : IntKind.i64.wrap ((k : Int) - 1) = (m : Int) := by rw [hm5]; exact IntWalk.i64_in _ (by omega)
     have hm3 : wrap64 ((k : Int) - 1) = (m : Int) := by rw [hm5]; exact w64 (by omega)
     by_cases e4 : y4 < p4
     ·have g4 : decide (y4 < p4) = true := decide_eq_true e4
      go_quiet (fail)
      go_wp2_with fail
      go_meet
      (first | exact ⟨_, rfl, ⟨HX.out.below (pw_below_drewN (pw_below_drewN (Below.refl _ _) _) _)⟩, ⟨blk_below H5.out (pw_below_drewN (pw_below_drewN (Below.refl _ _) _) _)⟩⟩ | exact ⟨_, rfl, ⟨HX.out.below (pw_below_drewN (Below.refl _ _) _)⟩, ⟨blk_below H5.out (pw_below_drewN (Below.refl _ _) _)⟩⟩)
     ·have g4 : decide (y4 < p4) = false := decide_eq_false e4
      go_quiet (fail)
      go_wp2_with fail
      go_meet
      (first | exact ⟨_, rfl, ⟨HX.out.below (pw_below_drewN (pw_below_drewN (Below.refl _ _) _) _)⟩, ⟨blk_below H5.out (pw_below_drewN (pw_below_drewN (Below.refl _ _) _) _)⟩⟩ | exact ⟨_, rfl, ⟨HX.out.below (pw_below_drewN (Below.refl _ _) _)⟩, ⟨blk_below H5.out (pw_below_drewN (Below.refl _ _) _)⟩⟩)
   case rest =>
   clear HX H5 g0 g0' g1 g1' hm4
   obtain ⟨r, rfl, HX, H5⟩ := hcut
   cases r
   case true =>
    go_wp2
    go_ret
    exact ⟨⟨22, rfl, HX.out.hb, fun h => absurd h (by decide)⟩⟩
   case false =>
   have hwc0_ : wc.cell? ⟨wr.heap.size, 0, none⟩ = some _ := (blk_cell H5.out 0).trans rfl
   have hwc1_ : wc.cell? ⟨wr.heap.size, 1, none⟩ = some _ := (blk_cell H5.out 1).trans rfl
   have hwc2_ : wc.cell? ⟨wr.heap.size, 2, none⟩ = some _ := (blk_cell H5.out 2).trans rfl
   have hwc3_ : wc.cell? ⟨wr.heap.size, 3, none⟩ = some _ := (blk_cell H5.out 3).trans rfl
   have hwc4_ : wc.cell? ⟨wr.heap.size, 4, none⟩ = some _ := (blk_cell H5.out 4).trans rfl
   have hwc5_ : wc.cell? ⟨wr.heap.size, 5, none⟩ = some _ := (blk_cell H5.out 5).trans rfl
   have hwc6_ : wc.cell? ⟨wr.heap.size, 6, none⟩ = some _ := (blk_cell H5.out 6).trans rfl
   have hwc7_ : wc.cell? ⟨wr.heap.size, 7, none⟩ = some _ := (blk_cell H5.out 7).trans rfl
   have hwc8_ : wc.cell? ⟨wr.heap.size, 8, none⟩ = some _ := (blk_cell H5.out 8).trans rfl
   have hwc9_ : wc.cell? ⟨wr.heap.size, 9, none⟩ = some _ := (blk_cell H5.out 9).trans rfl
   have hwc10_ : wc.cell? ⟨wr.heap.size, 10, none⟩ = some _ := (blk_cell H5.out 10).trans rfl
   have hwl2_ := blk_lt H5.out
   go_upto_if 48 with (first | (go_at_call 65; with_reducible refine (say_x w W3 _ g3 cs2 y0 y1 y2 y3 y4 y5 y6 y7 y8 y9 y10 HX.out HEW.out HSL.out).mono ?_; rintro e w6 ⟨b2, cs3, rfl, hsw⟩; clear HX; have HX := Aside0.mk hsw; clear hsw))
   cases b2
   case false =>
    go_wp2
    go_ret
    exact ⟨⟨18, rfl, HX.out.hb, fun h => absurd h (by decide)⟩⟩
   case true =>
    go_wp2
    go_roundw
    case rel => exact ⟨k + 1, cs3, by omega, by go_num, HJ1, HX⟩
    case measure => simp only [intOf]; omega
end Go.Proofs.YtcalkhlchjjalaaDoor.Gri

namespace Go.Proofs.YtcalkhlchjjalaaDoor.Glz
open Go Go.RowKit Go.Proofs Go.Proofs.YtcalkhlchjjalaaDoor.Gm Go.Proofs.YtcalkhlchjjalaaDoor.Gdm Go.Proofs.YtcalkhlchjjalaaDoor.Gsy Go.Proofs.YtcalkhlchjjalaaDoor.Gnx Go.Proofs.YtcalkhlchjjalaaDoor.Ggd Go.Proofs.YtcalkhlchjjalaaDoor.Grf Go.Proofs.YtcalkhlchjjalaaDoor.Gre Go.Proofs.YtcalkhlchjjalaaDoor.Gri Go.Proofs.YtcalkhlchjjalaaDoor.Q Go.Proofs.YtcalkhlchjjalaaDoorW.PrintWords Go.Proofs.YtcalkhlchjjalaaDoorW.PrintLast Go.Proofs.YtcalkhlchjjalaaDoorW.PrintMore
set_option linter.unusedVariables false
theorem infoLE : (Tryd.prog.info? 82).map (fun i => (i.zero, i.size, i.bytes)) = some (some (.agg #[.int .i64 0, .int .i64 0, .int .i64 0, .int .i64 0, .int .i64 0, .int .i64 0, .int .i64 0, .bool false]), 8, 64) := by kernel_rfl
structure SL where
 f0 : Int
 f1 : Int
 f2 : Int
 f3 : Int
 f4 : Int
 f5 : Int
 f6 : Int
 f7 : Bool
def zL : SL := ⟨0, 0, 0, 0, 0, 0, 0, false⟩
def kL : Kd SL := Kd.iso (Kd.pair (Kd.int .i64) (Kd.pair (Kd.int .i64) (Kd.pair (Kd.int .i64) (Kd.pair (Kd.int .i64) (Kd.pair (Kd.int .i64) (Kd.pair (Kd.int .i64) (Kd.pair (Kd.int .i64) Kd.bool))))))) (fun x : SL => (x.f0, x.f1, x.f2, x.f3, x.f4, x.f5, x.f6, x.f7))
theorem kL_open {w : World} {x : SL} {cs : List Value} (h : kL.K w x cs) : cs = [.int .i64 x.f0, .int .i64 x.f1, .int .i64 x.f2, .int .i64 x.f3, .int .i64 x.f4, .int .i64 x.f5, .int .i64 x.f6, .bool x.f7] := by
 obtain ⟨_, _, rfl, rfl, ⟨_, _, rfl, rfl, ⟨_, _, rfl, rfl, ⟨_, _, rfl, rfl, ⟨_, _, rfl, rfl, ⟨_, _, rfl, rfl, ⟨_, _, rfl, rfl, rfl⟩⟩⟩⟩⟩⟩⟩ := h
 exact rfl
theorem kL_mkM (w : World) (base : Nat) (ok : Nat → Prop) (x : SL) : kL.M w base ok x [.int .i64 x.f0, .int .i64 x.f1, .int .i64 x.f2, .int .i64 x.f3, .int .i64 x.f4, .int .i64 x.f5, .int .i64 x.f6, .bool x.f7] :=
 ⟨_, _, rfl, rfl, ⟨_, _, rfl, rfl, ⟨_, _, rfl, rfl, ⟨_, _, rfl, rfl, ⟨_, _, rfl, rfl, ⟨_, _, rfl, rfl, ⟨_, _, rfl, rfl, rfl⟩⟩⟩⟩⟩⟩⟩
def rd_L (xs : List SL) (i : Int) : SL := xs.getD i.toNat zL
theorem at_L {w : World} {A : Option Addr} {n : Nat} {xs : List SL} (h : Kd.C kL w A n xs) (i : Int) (h0 : 0 ≤ i) (h1 : i < n) : ∃ ad, A = some ad ∧ w.cell? (ad.add (i.toNat * 8)) = some (.int .i64 (rd_L xs i).f0) ∧ w.cell? ⟨(ad.add (i.toNat * 8)).block, (ad.add (i.toNat * 8)).off + 1, none⟩ = some (.int .i64 (rd_L xs i).f1) ∧ w.cell? ⟨(ad.add (i.toNat * 8)).block, (ad.add (i.toNat * 8)).off + 2, none⟩ = some (.int .i64 (rd_L xs i).f2) ∧ w.cell? ⟨(ad.add (i.toNat * 8)).block, (ad.add (i.toNat * 8)).off + 3, none⟩ = some (.int .i64 (rd_L xs i).f3) ∧ w.cell? ⟨(ad.add (i.toNat * 8)).block, (ad.add (i.toNat * 8)).off + 4, none⟩ = some (.int .i64 (rd_L xs i).f4) ∧ w.cell? ⟨(ad.add (i.toNat * 8)).block, (ad.add (i.toNat * 8)).off + 5, none⟩ = some (.int .i64 (rd_L xs i).f5) ∧ w.cell? ⟨(ad.add (i.toNat * 8)).block, (ad.add (i.toNat * 8)).off + 6, none⟩ = some (.int .i64 (rd_L xs i).f6) ∧ w.cell? ⟨(ad.add (i.toNat * 8)).block, (ad.add (i.toNat * 8)).off + 7, none⟩ = some (.bool (rd_L xs i).f7) := by
 obtain ⟨ad, c, e, _, hK, hc0⟩ := Kd.C_get h zL i h0 h1
 have hc : ∀ j u, c[j]? = some u → w.cell? (ad.add (i.toNat * 8 + j)) = some u := hc0
 obtain rfl := kL_open hK
 exact ⟨ad, e, hc 0 _ rfl, by rw [← add_field _ _ 1 (by omega)]; exact hc 1 _ rfl, by rw [← add_field _ _ 2 (by omega)]; exact hc 2 _ rfl, by rw [← add_field _ _ 3 (by omega)]; exact hc 3 _ rfl, by rw [← add_field _ _ 4 (by omega)]; exact hc 4 _ rfl, by rw [← add_field _ _ 5 (by omega)]; exact hc 5 _ rfl, by rw [← add_field _ _ 6 (by omega)]; exact hc 6 _ rfl, by rw [← add_field _ _ 7 (by omega)]; exact hc 7 _ rfl⟩
structure LI (x : SL) : Prop where
 h0 : I64 x.f0
 h1 : I64 x.f1
 h2 : I64 x.f2
 h3 : I64 x.f3
 h4 : I64 x.f4
 h5 : I64 x.f5
 h6 : I64 x.f6
theorem LI.zero : LI zL := ⟨by show I64 0; unfold I64; omega, by show I64 0; unfold I64; omega, by show I64 0; unfold I64; omega, by show I64 0; unfold I64; omega, by show I64 0; unfold I64; omega, by show I64 0; unfold I64; omega, by show I64 0; unfold I64; omega⟩
structure LeasesOk (w : World) (e : Ending) (w' : World) : Prop where
 out : ∃ (v : Value) (ls : List SL) (c : Int), e = .returned (.tuple #[v, .int .i64 c]) ∧ Below w.heap.size w w' ∧ Kd.R kL 82 w' w.heap.size (fun _ => True) v ls ∧ (∀ x ∈ ls, LI x) ∧ ls.length ≤ 64
structure LW (w W3 W : World) (gs : Nat) (cs : Array Value) (v : Value) (ls : List SL) : Prop where
 s : SW w W3 W gs cs
 cr : Kd.R kL 82 W w.heap.size (fun _ => True) v ls
 li : ∀ x ∈ ls, LI x
theorem LW.below {w W3 W W' : World} {gs : Nat} {cs : Array Value} {v : Value} {ls : List SL} (h : LW w W3 W gs cs v ls) (hb : Below W.heap.size W W') : LW w W3 W' gs cs v ls := ⟨h.s.below hb, Kd.R_below h.cr hb, h.li⟩
theorem LW.app {w W3 W W' : World} {gs : Nat} {cs : Array Value} {v v1 : Value} {ls : List SL} {x : SL} (h : LW w W3 W gs cs v ls) (hr : Kd.R kL 82 W' w.heap.size (fun _ => True) v1 (ls ++ [x])) (hb : Below w.heap.size w W') (hg : W.grownBy W' v.ownBlock) (hx : LI x) : LW w W' W' gs cs v1 (ls ++ [x]) :=
 ⟨⟨hb, h.s.l, blk_grown h.s.b hg (Kd.R_ne h.cr h.s.b (by decide)), KeepBut.refl _ _ _, h.s.st⟩, hr, fun y hy => by
  rcases List.mem_append.1 hy with z | z
  ·exact h.li y z
  ·rw [List.mem_singleton.1 z]; exact hx⟩
set_option maxRecDepth 100000 in
set_option maxHeartbeats 8000000 in
theorem leases_x (A0 : Option Addr) (c0 : Nat) (l0 : List S39) (tick : Int) (w : World) (hr0 : Kd.C k39 w A0 l0.length l0) (hc0 : l0.length ≤ c0) (hl : l0.length ≤ 300) (hW : ∀ s ∈ l0, W64 s) :
 Calls Tryd.prog 60 #[.slice A0 l0.length c0, .int .i64 tick] w (LeasesOk w) := by
 have mixed : (Tryd.prog).follows .mixedOrders = true := by kernel_rfl
 have hu39 := Tryd.underlying39
 have hu1 := Tryd.underlying108
 have hu82 := Tryd.underlying82
 have hin : (Tryd.prog.info? 108).map (·.size) = some 640 := by
  have h := zst_info
  cases hi : Tryd.prog.info? 108 with
  | none => rw [hi] at h; cases h
  | some i => rw [hi] at h; simp only [Option.map_some, Option.some.injEq, Prod.mk.injEq] at h ⊢; exact h.2
 have HIN := Lib.hid hin
 have HR := Aside0.mk hr0
 have HW := Aside0.mk hW
 clear hin hr0 hW
 go_enter Tryd.func60, Tryd.ntmps60
 go_upto_region 2 with (first | (go_at_call 63; with_reducible refine (right_x A0 c0 l0 _ HR.out hc0 hl HW.out).mono ?_; rintro e w1 ⟨c, rfl, hb, hv⟩; have HB := Aside0.mk hb; have HV := Aside0.mk hv; clear hb hv))
 by_cases hc : c = 0
 case neg =>
  have g1 : (c != 0) = true := bne_iff_ne.2 hc
  have g2 : (c == 0) = false := beq_eq_false_iff_ne.2 hc
  clear hc
  go_wp2
  go_ret2
  exact ⟨⟨_, [], _, rfl, HB.out, Kd.R_nil _ _ _ _ _, by simp, by simp⟩⟩
 case pos =>
 have HQ : Aside0 (∀ s ∈ l0, vldS s = true) := ⟨HV.out hc⟩
 have g1 : (c != 0) = false := bne_eq_false_iff_eq.2 hc
 have g2 : (c == 0) = true := beq_iff_eq.2 hc
 clear hc HV
 go_upto_region 4 with fail
 by_cases ht0 : tick < 0
 case pos =>
  have d1 : decide (tick < 0) = true := decide_eq_true ht0
  go_wp2
  go_ret2
  exact ⟨⟨_, [], _, rfl, HB.out, Kd.R_nil _ _ _ _ _, by simp, by simp⟩⟩
 case neg =>
 have d1 : decide (tick < 0) = false := decide_eq_false ht0
 by_cases ht1 : 1048576 < tick
 case pos =>
  have d2 : decide (1048576 < tick) = true := decide_eq_true ht1
  go_wp2
  go_ret2
  exact ⟨⟨_, [], _, rfl, HB.out, Kd.R_nil _ _ _ _ _, by simp, by simp⟩⟩
 case neg =>
 have d2 : decide (1048576 < tick) = false := decide_eq_false ht1
 go_wp2_with (first | (go_at_call 64; with_reducible refine (empty_x _).mono ?_; rintro e w3 ⟨cs, rfl, hst, hb⟩; have HE := Aside0.mk (And.intro hst (And.intro hb trivial)); clear hst hb) | ((with_reducible refine gate_dst (N := 7) rfl ?_); refine box_event (N := 7) rfl rfl (run_alloc_st _ _ _ rfl) ?_; intro g7 hg7 w2 hbx hb; have HA := Aside0.mk (And.intro hbx (And.intro hb hg7)); clear hbx hb hg7) | ((with_reducible refine gate_store (t := 108 ) (p := 7) (v := .tmp 23) rfl ?_); go_loud (refine wpList_store_row rfl 108 (.tmp 7) (.tmp 23) rfl g7 cs rfl rfl 108 zst HA.out.1 (by rw [HE.out.1.sz]; exact HIN.out) (by rw [HE.out.1.sz, zst_size]) (St.one HE.out.1) ?_)))
 have HX0 := Aside0.mk (SW.make (below_step HB.out HE.out.2.1) HA.out.2.2 HA.out.1 HA.out.2.1 HE.out.1)
 obtain ⟨W3, hW3⟩ : ∃ W3, W3 = w2.setRow g7 cs := ⟨_, rfl⟩
 rw [← hW3] at HX0 ⊢
 clear hW3 HE HA HB d1 d2 g1 g2
 go_loopw [9, 26] (fun s9 s26 wr => ∃ (k : Nat) (cs : Array Value), k ≤ l0.length ∧ s26 = .int .i64 k ∧ Aside0 (SW w W3 wr g7 cs)) (fun s9 s26 _ => l0.length - (intOf s26).toNat)
 case atStart => exact ⟨0, _, Nat.zero_le _, rfl, HX0⟩
 case round =>
  clear HX0
  obtain ⟨k, cs2, hk, rfl, HX⟩ := hrel
  by_cases hlt : k < l0.length
  case pos =>
   obtain ⟨ad, ead, hx0, hx1, hx2, hx3, hx4, hx5, hx6, hx7, hx8, hx9, hx10⟩ := at_T39 HR.out k (by omega) (by omega)
   cases ead
   simp only [Int.toNat_natCast] at hx0 hx1 hx2 hx3 hx4 hx5 hx6 hx7 hx8 hx9 hx10
   have heW : W64 (rd_T39 l0 k) := by rw [rd_get l0 k hlt]; exact HW.out _ (List.getElem_mem hlt)
   have heV : vldS (rd_T39 l0 k) = true := by rw [rd_get l0 k hlt]; exact HQ.out _ (List.getElem_mem hlt)
   obtain ⟨e, he⟩ : ∃ e, e = rd_T39 l0 k := ⟨_, rfl⟩
   rw [← he] at hx0 hx1 hx2 hx3 hx4 hx5 hx6 hx7 hx8 hx9 hx10 heW heV
   have HEW := Aside0.mk heW
   have HEV := Aside0.mk heV
   clear he heW heV
   obtain ⟨y0, y1, y2, y3, y4, y5, y6, y7, y8, y9, y10⟩ := e
   simp only at hx0 hx1 hx2 hx3 hx4 hx5 hx6 hx7 hx8 hx9 hx10
   replace hx0 := (HX.out.hb.cell (World.block_lt_of_cell? w _ hx0)).trans hx0
   replace hx1 := (HX.out.hb.cell (World.block_lt_of_cell? w _ hx1)).trans hx1
   replace hx2 := (HX.out.hb.cell (World.block_lt_of_cell? w _ hx2)).trans hx2
   replace hx3 := (HX.out.hb.cell (World.block_lt_of_cell? w _ hx3)).trans hx3
   replace hx4 := (HX.out.hb.cell (World.block_lt_of_cell? w _ hx4)).trans hx4
   replace hx5 := (HX.out.hb.cell (World.block_lt_of_cell? w _ hx5)).trans hx5
   replace hx6 := (HX.out.hb.cell (World.block_lt_of_cell? w _ hx6)).trans hx6
   replace hx7 := (HX.out.hb.cell (World.block_lt_of_cell? w _ hx7)).trans hx7
   replace hx8 := (HX.out.hb.cell (World.block_lt_of_cell? w _ hx8)).trans hx8
   replace hx9 := (HX.out.hb.cell (World.block_lt_of_cell? w _ hx9)).trans hx9
   replace hx10 := (HX.out.hb.cell (World.block_lt_of_cell? w _ hx10)).trans hx10
   have HSL : Aside0 (1 ≤ y5 ∧ y5 ≤ 5 → 0 ≤ y6 ∧ y6 ≤ 63) := ⟨fun h => vld_slot (s := ⟨y0, y1, y2, y3, y4, y5, y6, y7, y8, y9, y10⟩) HEV.out h⟩
   by_cases ht : y4 ≤ tick
   ·have g4 : decide (y4 ≤ tick) = true := decide_eq_true ht
    go_wp2_with (first | (go_at_call 65; with_reducible refine (say_x w W3 _ g7 cs2 y0 y1 y2 y3 y4 y5 y6 y7 y8 y9 y10 (HX.out.alloc _) HEW.out HSL.out).mono ?_; rintro e w6 ⟨b2, cs3, rfl, hsw⟩; clear HX; have HX := Aside0.mk hsw; clear hsw))
    go_roundw
    case rel => exact ⟨k + 1, cs3, by omega, by go_num, HX⟩
    case measure => simp only [intOf]; omega
   ·have g4 : decide (y4 ≤ tick) = false := decide_eq_false ht
    go_wp2
    go_roundw
    case rel => exact ⟨k + 1, cs2, by omega, by go_num, ⟨HX.out.alloc _⟩⟩
    case measure => simp only [intOf]; omega
  case neg =>
   obtain rfl : k = l0.length := by omega
   go_wp2
   go_loopw [10, 11, 37] (fun s10 s11 s37 wr => ∃ (n : Nat) (W5 : World) (v : Value) (ls : List SL), n ≤ 64 ∧ ls.length ≤ n ∧ s37 = .int .i64 n ∧ s10 = v ∧ Aside0 (LW w W5 wr g7 cs2 v ls)) (fun s10 s11 s37 _ => 64 - (intOf s37).toNat)
   case atStart => exact ⟨0, W3, .slice none 0 0, [], by omega, by simp, rfl, rfl, ⟨⟨HX.out, Kd.R_nil _ _ _ _ _, by simp⟩⟩⟩
   case round =>
    clear HX
    obtain ⟨n, W5, v, ls, hn, hls, rfl, rfl, HX⟩ := hrel
    by_cases hn64 : n < 64
    case neg =>
     obtain rfl : n = 64 := by omega
     go_wp2
     go_ret2
     exact ⟨⟨_, ls, 0, rfl, HX.out.s.hb, HX.out.cr, HX.out.li, hls⟩⟩
    case pos =>
     obtain ⟨Ao, co, eo⟩ := Kd.R_slice HX.out.cr
     subst eo
     obtain ⟨b, hf⟩ := force_b cs2 HX.out.s.st n hn64 tick
     obtain ⟨l0_, hl0, hi0⟩ := HX.out.s.st.int (n * 8) (by omega) (isB_l hn64 (j := 0) (by omega))
     have hv0 : wr.cell? ⟨g7, n * 8, none⟩ = some (.int .i64 l0_) := (blk_cell HX.out.s.b _).trans hl0
     obtain ⟨l1, hl1, hi1⟩ := HX.out.s.st.int (n * 8 + 1) (by omega) (isB_l hn64 (j := 1) (by omega))
     have hv1 : wr.cell? ⟨g7, n * 8 + 1, none⟩ = some (.int .i64 l1) := (blk_cell HX.out.s.b _).trans hl1
     obtain ⟨l2, hl2, hi2⟩ := HX.out.s.st.int (n * 8 + 2) (by omega) (isB_l hn64 (j := 2) (by omega))
     have hv2 : wr.cell? ⟨g7, n * 8 + 2, none⟩ = some (.int .i64 l2) := (blk_cell HX.out.s.b _).trans hl2
     obtain ⟨l3, hl3, hi3⟩ := HX.out.s.st.int (n * 8 + 3) (by omega) (isB_l hn64 (j := 3) (by omega))
     have hv3 : wr.cell? ⟨g7, n * 8 + 3, none⟩ = some (.int .i64 l3) := (blk_cell HX.out.s.b _).trans hl3
     obtain ⟨l4, hl4, hi4⟩ := HX.out.s.st.int (n * 8 + 4) (by omega) (isB_l hn64 (j := 4) (by omega))
     have hv4 : wr.cell? ⟨g7, n * 8 + 4, none⟩ = some (.int .i64 l4) := (blk_cell HX.out.s.b _).trans hl4
     obtain ⟨l5, hl5, hi5⟩ := HX.out.s.st.int (n * 8 + 5) (by omega) (isB_l hn64 (j := 5) (by omega))
     have hv5 : wr.cell? ⟨g7, n * 8 + 5, none⟩ = some (.int .i64 l5) := (blk_cell HX.out.s.b _).trans hl5
     obtain ⟨l6, hl6, hi6⟩ := HX.out.s.st.int (n * 8 + 6) (by omega) (isB_l hn64 (j := 6) (by omega))
     have hv6 : wr.cell? ⟨g7, n * 8 + 6, none⟩ = some (.int .i64 l6) := (blk_cell HX.out.s.b _).trans hl6
     obtain ⟨br, hbr⟩ := HX.out.s.st.bool (n * 8 + 7) (by omega) (isB_r hn64)
     have hc3 : wr.cell? ⟨g7, n * 8 + 7, none⟩ = some (.bool br) := (blk_cell HX.out.s.b _).trans hbr
     have hn1 : (n : Int) < 64 := by omega
     have HLX : Aside0 (LI ⟨l0_, l1, l2, l3, l4, l5, l6, br⟩) := ⟨⟨hi0, hi1, hi2, hi3, hi4, hi5, hi6⟩⟩
     have hle : (ls.length + 1) * 64 ≤ 140737488355328 := by omega
     clear hbr hl0 hl1 hl2 hl3 hl4 hl5 hl6
     cases b
     case false =>
      go_wp2_with (first | (go_at_call 66; with_reducible refine (hf _ _ HX.out.s.b).mono ?_; rintro e w7 ⟨rfl, rfl⟩))
      go_roundw
      case rel => exact ⟨n + 1, W5, _, ls, by omega, by omega, by go_num, rfl, HX⟩
      case measure => simp only [intOf]; omega
     case true =>
      go_wp2_with (first | (go_at_call 66; with_reducible refine (hf _ _ HX.out.s.b).mono ?_; rintro e w7 ⟨rfl, rfl⟩) | (at_builtin; go_loud (refine Kd.R_append kL (w0 := w) w.heap.size rfl (.tmp 43) (.tmp 48) 98 82 (.agg #[.int .i64 0, .int .i64 0, .int .i64 0, .int .i64 0, .int .i64 0, .int .i64 0, .int .i64 0, .bool false]) 64 rfl Tryd.underlying98 infoLE rfl (by decide) (by omega) (.slice Ao ls.length co) ls (⟨l0_, l1, l2, l3, l4, l5, l6, br⟩ : SL) [.int .i64 l0_, .int .i64 l1, .int .i64 l2, .int .i64 l3, .int .i64 l4, .int .i64 l5, .int .i64 l6, .bool br] (fun _ => True) (fun _ => False) rfl rfl (kL_mkM _ _ _ _) (fun _ hk => hk.elim) (fun _ _ => trivial) HX.out.cr HX.out.s.hb HX.out.s.hb.size hle ?_); intro v1 w9 ho hb hg hat; have n_ := Aside0.mk (LW.app HX.out ho hb hg HLX.out); clear HX; have HX := n_; clear n_ ho hb hg hat))
      go_roundw
      case rel => exact ⟨n + 1, _, _, _, by omega, by rw [List.length_append, List.length_singleton]; omega, by go_num, rfl, HX⟩
      case measure => simp only [intOf]; omega
end Go.Proofs.YtcalkhlchjjalaaDoor.Glz

namespace Go.Proofs.YtcalkhlchjjalaaDoor.Gat
open Go Go.RowKit Go.Proofs Go.Proofs.YtcalkhlchjjalaaDoor.Gm Go.Proofs.YtcalkhlchjjalaaDoor.Gdm Go.Proofs.YtcalkhlchjjalaaDoor.Gsy Go.Proofs.YtcalkhlchjjalaaDoor.Gnx Go.Proofs.YtcalkhlchjjalaaDoor.Ggd Go.Proofs.YtcalkhlchjjalaaDoor.Grf Go.Proofs.YtcalkhlchjjalaaDoor.Gre Go.Proofs.YtcalkhlchjjalaaDoor.Gri Go.Proofs.YtcalkhlchjjalaaDoor.Glz Go.Proofs.YtcalkhlchjjalaaDoor.Q Go.Proofs.YtcalkhlchjjalaaDoorW.PrintWords Go.Proofs.YtcalkhlchjjalaaDoorW.PrintLast Go.Proofs.YtcalkhlchjjalaaDoorW.PrintMore
set_option linter.unusedVariables false
structure AtOk (w : World) (e : Ending) (w' : World) : Prop where
 out : ∃ (x : SL) (b : Bool), e = .returned (.tuple #[.agg #[.int .i64 x.f0, .int .i64 x.f1, .int .i64 x.f2, .int .i64 x.f3, .int .i64 x.f4, .int .i64 x.f5, .int .i64 x.f6, .bool x.f7], .bool b]) ∧ LI x ∧ Below w.heap.size w w'
structure AW (w W : World) (g6 : Nat) (v : Value) (ls : List SL) : Prop where
 hb : Below w.heap.size w W
 b6 : W.heap[g6]? = some (.cells #[.int .i64 0, .int .i64 0, .int .i64 0, .int .i64 0, .int .i64 0, .int .i64 0, .int .i64 0, .bool false] 82 (0, 0))
 l6 : w.heap.size ≤ g6
 cr : ∃ base, Kd.R kL 82 W base (fun _ => True) v ls
 li : ∀ x ∈ ls, LI x
theorem AW.below {w W W' : World} {g6 : Nat} {v : Value} {ls : List SL} (h : AW w W g6 v ls) (hb : Below W.heap.size W W') : AW w W' g6 v ls := ⟨below_step h.hb hb, blk_below h.b6 hb, h.l6, by obtain ⟨base, hr⟩ := h.cr; exact ⟨base, Kd.R_below hr hb⟩, h.li⟩
theorem AW.alloc {w W : World} {g6 : Nat} {v : Value} {ls : List SL} (h : AW w W g6 v ls) (o : Obj) : AW w (W.alloc o) g6 v ls := h.below (below_alloc (Below.refl _ _) o)
theorem put8 {W : World} {g : Nat} {t : TypeId} (x0 x1 x2 x3 x4 x5 x6 x7 v0 v1 v2 v3 v4 v5 v6 v7 : Value) (h : W.heap[g]? = some (.cells #[x0, x1, x2, x3, x4, x5, x6, x7] t (0, 0))) :
 ((((((((W.setCell ⟨g, 0, none⟩ v0).setCell ⟨g, 1, none⟩ v1).setCell ⟨g, 2, none⟩ v2).setCell ⟨g, 3, none⟩ v3).setCell ⟨g, 4, none⟩ v4).setCell ⟨g, 5, none⟩ v5).setCell ⟨g, 6, none⟩ v6).setCell ⟨g, 7, none⟩ v7).heap[g]? = some (.cells #[v0, v1, v2, v3, v4, v5, v6, v7] t (0, 0)) := by
 have h0_ : (W.setCell ⟨g, 0, none⟩ v0).heap[g]? = some (.cells #[v0, x1, x2, x3, x4, x5, x6, x7] t (0, 0)) := blk_put h 0 v0 rfl
 have h1_ : ((W.setCell ⟨g, 0, none⟩ v0).setCell ⟨g, 1, none⟩ v1).heap[g]? = some (.cells #[v0, v1, x2, x3, x4, x5, x6, x7] t (0, 0)) := blk_put h0_ 1 v1 rfl
 have h2_ : (((W.setCell ⟨g, 0, none⟩ v0).setCell ⟨g, 1, none⟩ v1).setCell ⟨g, 2, none⟩ v2).heap[g]? = some (.cells #[v0, v1, v2, x3, x4, x5, x6, x7] t (0, 0)) := blk_put h1_ 2 v2 rfl
 have h3_ : ((((W.setCell ⟨g, 0, none⟩ v0).setCell ⟨g, 1, none⟩ v1).setCell ⟨g, 2, none⟩ v2).setCell ⟨g, 3, none⟩ v3).heap[g]? = some (.cells #[v0, v1, v2, v3, x4, x5, x6, x7] t (0, 0)) := blk_put h2_ 3 v3 rfl
 have h4_ : (((((W.setCell ⟨g, 0, none⟩ v0).setCell ⟨g, 1, none⟩ v1).setCell ⟨g, 2, none⟩ v2).setCell ⟨g, 3, none⟩ v3).setCell ⟨g, 4, none⟩ v4).heap[g]? = some (.cells #[v0, v1, v2, v3, v4, x5, x6, x7] t (0, 0)) := blk_put h3_ 4 v4 rfl
 have h5_ : ((((((W.setCell ⟨g, 0, none⟩ v0).setCell ⟨g, 1, none⟩ v1).setCell ⟨g, 2, none⟩ v2).setCell ⟨g, 3, none⟩ v3).setCell ⟨g, 4, none⟩ v4).setCell ⟨g, 5, none⟩ v5).heap[g]? = some (.cells #[v0, v1, v2, v3, v4, v5, x6, x7] t (0, 0)) := blk_put h4_ 5 v5 rfl
 have h6_ : (((((((W.setCell ⟨g, 0, none⟩ v0).setCell ⟨g, 1, none⟩ v1).setCell ⟨g, 2, none⟩ v2).setCell ⟨g, 3, none⟩ v3).setCell ⟨g, 4, none⟩ v4).setCell ⟨g, 5, none⟩ v5).setCell ⟨g, 6, none⟩ v6).heap[g]? = some (.cells #[v0, v1, v2, v3, v4, v5, v6, x7] t (0, 0)) := blk_put h5_ 6 v6 rfl
 have h7_ : ((((((((W.setCell ⟨g, 0, none⟩ v0).setCell ⟨g, 1, none⟩ v1).setCell ⟨g, 2, none⟩ v2).setCell ⟨g, 3, none⟩ v3).setCell ⟨g, 4, none⟩ v4).setCell ⟨g, 5, none⟩ v5).setCell ⟨g, 6, none⟩ v6).setCell ⟨g, 7, none⟩ v7).heap[g]? = some (.cells #[v0, v1, v2, v3, v4, v5, v6, v7] t (0, 0)) := blk_put h6_ 7 v7 rfl
 exact h7_
theorem below8 {w W : World} {g : Nat} (h : Below w.heap.size w W) (hg : w.heap.size ≤ g) (v0 v1 v2 v3 v4 v5 v6 v7 : Value) :
 Below w.heap.size w ((((((((W.setCell ⟨g, 0, none⟩ v0).setCell ⟨g, 1, none⟩ v1).setCell ⟨g, 2, none⟩ v2).setCell ⟨g, 3, none⟩ v3).setCell ⟨g, 4, none⟩ v4).setCell ⟨g, 5, none⟩ v5).setCell ⟨g, 6, none⟩ v6).setCell ⟨g, 7, none⟩ v7) :=
 below_set (below_set (below_set (below_set (below_set (below_set (below_set (below_set h hg) hg) hg) hg) hg) hg) hg) hg
set_option maxRecDepth 100000 in
set_option maxHeartbeats 8000000 in
theorem at_x (A0 : Option Addr) (c0 : Nat) (l0 : List S39) (slot tick : Int) (w : World) (hr0 : Kd.C k39 w A0 l0.length l0) (hc0 : l0.length ≤ c0) (hl : l0.length ≤ 300) (hW : ∀ s ∈ l0, W64 s) :
 Calls Tryd.prog 51 #[.slice A0 l0.length c0, .int .i64 slot, .int .i64 tick] w (AtOk w) := by
 have hu82 := Tryd.underlying82
 have HR := Aside0.mk hr0
 have HW := Aside0.mk hW
 clear hr0 hW
 go_enter Tryd.func51, Tryd.ntmps51
 go_wp2_with (first | (go_at_call 60; with_reducible refine (leases_x A0 c0 l0 tick _ (Kd.C_below HR.out (below_alloc (Below.refl _ _) _)) hc0 hl HW.out).mono ?_; rintro e w1 ⟨v, ls, c, rfl, hb, hR, hli, hlen⟩; obtain ⟨Ao, co, eo⟩ := Kd.R_slice hR; subst eo; have HB := Aside0.mk (And.intro hb (And.intro (below_step (below_alloc (Below.refl _ w) _) hb) trivial)); have HC := Aside0.mk (And.intro hR hli); clear hb hR hli))
 obtain ⟨g6, hg6⟩ : ∃ g6, w.heap.size = g6 := ⟨_, rfl⟩
 have HX0 : Aside0 (AW w w1 g6 (.slice Ao ls.length co) ls) := ⟨⟨HB.out.2.1, by rw [← hg6]; exact blk_below (heap_alloc_new w _) HB.out.1, by omega, ⟨_, HC.out.1⟩, HC.out.2⟩⟩
 rw [hg6]
 clear hg6 HB HC
 go_loopw [11, 20] (fun s11 s20 wr => ∃ (k : Nat), k ≤ ls.length ∧ s20 = .int .i64 k ∧ Aside0 (AW w wr g6 (.slice Ao ls.length co) ls)) (fun s11 s20 _ => ls.length - (intOf s20).toNat)
 case atStart => exact ⟨0, Nat.zero_le _, rfl, HX0⟩
 case round =>
  clear HX0
  obtain ⟨k, hk, rfl, HX⟩ := hrel
  have hq0_ : wr.cell? ⟨g6, 0, none⟩ = some (.int .i64 0) := (blk_cell HX.out.b6 0).trans rfl
  have hf0_ := blk_frozen HX.out.b6 0
  have hq1_ : wr.cell? ⟨g6, 1, none⟩ = some (.int .i64 0) := (blk_cell HX.out.b6 1).trans rfl
  have hf1_ := blk_frozen HX.out.b6 1
  have hq2_ : wr.cell? ⟨g6, 2, none⟩ = some (.int .i64 0) := (blk_cell HX.out.b6 2).trans rfl
  have hf2_ := blk_frozen HX.out.b6 2
  have hq3_ : wr.cell? ⟨g6, 3, none⟩ = some (.int .i64 0) := (blk_cell HX.out.b6 3).trans rfl
  have hf3_ := blk_frozen HX.out.b6 3
  have hq4_ : wr.cell? ⟨g6, 4, none⟩ = some (.int .i64 0) := (blk_cell HX.out.b6 4).trans rfl
  have hf4_ := blk_frozen HX.out.b6 4
  have hq5_ : wr.cell? ⟨g6, 5, none⟩ = some (.int .i64 0) := (blk_cell HX.out.b6 5).trans rfl
  have hf5_ := blk_frozen HX.out.b6 5
  have hq6_ : wr.cell? ⟨g6, 6, none⟩ = some (.int .i64 0) := (blk_cell HX.out.b6 6).trans rfl
  have hf6_ := blk_frozen HX.out.b6 6
  have hq7_ : wr.cell? ⟨g6, 7, none⟩ = some (.bool false) := (blk_cell HX.out.b6 7).trans rfl
  have hf7_ := blk_frozen HX.out.b6 7
  have hgl6 := blk_lt HX.out.b6
  by_cases hlt : k < ls.length
  case neg =>
   obtain rfl : k = ls.length := by omega
   go_wp2
   refine bodyPost_ret (results_ct rfl _ _ g6 82 #[.int .i64 0, .int .i64 0, .int .i64 0, .int .i64 0, .int .i64 0, .int .i64 0, .int .i64 0, .bool false] (0, 0) _ rfl (by (with_reducible exact put8 _ _ _ _ _ _ _ _ _ _ _ _ _ _ _ _ HX.out.b6)) Tryd.underlying82 rfl (by kernel_rfl)) rfl ?_
   refine ⟨⟨zL, false, rfl, LI.zero, ?_⟩⟩
   with_reducible exact below8 HX.out.hb HX.out.l6 _ _ _ _ _ _ _ _
  case pos =>
   obtain ⟨bs, hrr⟩ := HX.out.cr
   obtain ⟨ad, ead, hx0, hx1, hx2, hx3, hx4, hx5, hx6, hx7⟩ := at_L (Kd.R_reads' hrr).2.2 k (by omega) (by omega)
   clear hrr
   simp only [Int.toNat_natCast] at hx0 hx1 hx2 hx3 hx4 hx5 hx6 hx7
   have heL : LI (rd_L ls k) := by
    have : rd_L ls k = ls[k] := by simp [rd_L, List.getD, hlt]
    rw [this]
    exact HX.out.li _ (List.getElem_mem hlt)
   obtain ⟨e, he⟩ : ∃ e, e = rd_L ls k := ⟨_, rfl⟩
   rw [← he] at hx0 hx1 hx2 hx3 hx4 hx5 hx6 hx7 heL
   have HEL := Aside0.mk heL
   clear he heL
   obtain ⟨y0, y1, y2, y3, y4, y5, y6, y7⟩ := e
   simp only at hx0 hx1 hx2 hx3 hx4 hx5 hx6 hx7
   cases ead
   by_cases hs : y2 = slot
   ·have g1 : (y2 == slot) = true := beq_iff_eq.2 hs
    clear hs
    go_wp2
    refine bodyPost_ret (results_ct rfl _ _ g6 82 #[.int .i64 y0, .int .i64 y1, .int .i64 y2, .int .i64 y3, .int .i64 y4, .int .i64 y5, .int .i64 y6, .bool y7] (0, 0) _ rfl (by (with_reducible exact blk_alloc (put8 _ _ _ _ _ _ _ _ _ _ _ _ _ _ _ _ HX.out.b6) _)) Tryd.underlying82 rfl (by kernel_rfl)) rfl ?_
    refine ⟨⟨⟨y0, y1, y2, y3, y4, y5, y6, y7⟩, true, rfl, HEL.out, ?_⟩⟩
    with_reducible exact below_alloc (below8 HX.out.hb HX.out.l6 _ _ _ _ _ _ _ _) _
   ·have g1 : (y2 == slot) = false := beq_eq_false_iff_ne.2 hs
    clear hs
    go_wp2
    go_roundw
    case rel => exact ⟨k + 1, by omega, by go_num, ⟨HX.out.alloc _⟩⟩
    case measure => simp only [intOf]; omega
structure KeptOk (w : World) (e : Ending) (w' : World) : Prop where
 out : ∃ n c : Int, e = .returned (.tuple #[.int .i64 n, .int .i64 c]) ∧ I64 n ∧ Below w.heap.size w w'
theorem I64_wrap (x : Int) : I64 (wrap64 x) := by unfold I64 wrap64; omega
structure KW (w W : World) (v : Value) (ls : List SL) : Prop where
 hb : Below w.heap.size w W
 cr : Kd.R kL 82 W w.heap.size (fun _ => True) v ls
 li : ∀ x ∈ ls, LI x
theorem KW.alloc {w W : World} {v : Value} {ls : List SL} (h : KW w W v ls) (o : Obj) : KW w (W.alloc o) v ls := ⟨below_step h.hb (below_alloc (Below.refl _ _) o), Kd.R_below h.cr (below_alloc (Below.refl _ _) o), h.li⟩
set_option maxRecDepth 100000 in
set_option maxHeartbeats 8000000 in
theorem kept_x (A0 : Option Addr) (c0 : Nat) (l0 : List S39) (tick : Int) (w : World) (hr0 : Kd.C k39 w A0 l0.length l0) (hc0 : l0.length ≤ c0) (hl : l0.length ≤ 300) (hW : ∀ s ∈ l0, W64 s) :
 Calls Tryd.prog 53 #[.slice A0 l0.length c0, .int .i64 tick] w (KeptOk w) := by
 have hu82 := Tryd.underlying82
 have HR := Aside0.mk hr0
 have HW := Aside0.mk hW
 clear hr0 hW
 go_enter Tryd.func53, Tryd.ntmps53
 go_upto_region 2 with (first | (go_at_call 60; with_reducible refine (leases_x A0 c0 l0 tick _ HR.out hc0 hl HW.out).mono ?_; rintro e w1 ⟨v, ls, c, rfl, hb, hR, hli, hlen⟩; have HX0 := Aside0.mk (KW.mk hb hR hli); clear hb hR hli))
 by_cases hc : c = 0
 case neg =>
  have g1 : (c != 0) = true := bne_iff_ne.2 hc
  have g2 : (c == 0) = false := beq_eq_false_iff_ne.2 hc
  clear hc
  go_wp2
  go_ret2
  exact ⟨⟨0, c, rfl, by unfold I64; omega, HX0.out.hb⟩⟩
 case pos =>
 have g1 : (c != 0) = false := bne_eq_false_iff_eq.2 hc
 have g2 : (c == 0) = true := beq_iff_eq.2 hc
 clear hc
 obtain ⟨Ao, co, eo⟩ := Kd.R_slice HX0.out.cr
 subst eo
 go_wp2
 go_loopw [8, 10, 22] (fun s8 s10 s22 wr => ∃ (k : Nat) (n : Int), k ≤ ls.length ∧ s22 = .int .i64 k ∧ s8 = .int .i64 n ∧ I64 n ∧ Aside0 (KW w wr (.slice Ao ls.length co) ls)) (fun s8 s10 s22 _ => ls.length - (intOf s22).toNat)
 case atStart => exact ⟨0, 0, Nat.zero_le _, rfl, rfl, by unfold I64; omega, HX0⟩
 case round =>
  clear HX0 g1 g2
  obtain ⟨k, n, hk, rfl, rfl, hn, HX⟩ := hrel
  have HN := Aside0.mk hn
  clear hn
  by_cases hlt : k < ls.length
  case neg =>
   obtain rfl : k = ls.length := by omega
   go_wp2
   go_ret2
   exact ⟨⟨n, 0, rfl, HN.out, HX.out.hb⟩⟩
  case pos =>
   obtain ⟨ad, ead, hx0, hx1, hx2, hx3, hx4, hx5, hx6, hx7⟩ := at_L (Kd.R_reads' HX.out.cr).2.2 k (by omega) (by omega)
   simp only [Int.toNat_natCast] at hx0 hx1 hx2 hx3 hx4 hx5 hx6 hx7
   obtain ⟨e, he⟩ : ∃ e, e = rd_L ls k := ⟨_, rfl⟩
   rw [← he] at hx0 hx1 hx2 hx3 hx4 hx5 hx6 hx7
   clear he
   obtain ⟨y0, y1, y2, y3, y4, y5, y6, y7⟩ := e
   simp only at hx0 hx1 hx2 hx3 hx4 hx5 hx6 hx7
   cases ead
   go_wp2
   go_roundw
   case rel => exact ⟨k + 1, _, by omega, by go_num, rfl, by first | exact I64_wrap _ | trace_state, ⟨HX.out.alloc _⟩⟩
   case measure => simp only [intOf]; omega
end Go.Proofs.YtcalkhlchjjalaaDoor.Gat

namespace Go.Proofs.YtcalkhlchjjalaaDoor.Q
open Go.RowKit Go.Proofs.YtcalkhlchjjalaaDoorW.PrintWords Go.Proofs.YtcalkhlchjjalaaDoorW.PrintLast Go.Proofs.YtcalkhlchjjalaaDoorW.PrintMore Go.Proofs.YtcalkhlchjjalaaDoor.Gput
attribute [local go_sem] max2_int min2_int max_two min_two max_three min_three max_four min_four   -- for this text's walks alone
set_option linter.unusedVariables false
set_option linter.unusedSimpArgs false
def storagebarterref16_term.f (k : Nat) (a0_0 : Int) (a0_1 : Int) (a0_2 : Int) (a0_3 : Int) (a0_4 : Int) (a0_5 : Int) (a0_6 : Int) (a0_7 : Int) (a0_8 : Int) (a0_9 : Int) (a0_10 : Int) : Option (Bool) := (storagebarterref15_Valid.f k a0_0 a0_1 a0_2 a0_3 a0_4 a0_5 a0_6 a0_7 a0_8 a0_9 a0_10).bind fun t192 => (if t192 = true then (if a0_5 = 1 then (some true) else (some (a0_5 == 2))) else (some false))
theorem storagebarterref16_term.mono : ∀ a0 a1 a2 a3 a4 a5 a6 a7 a8 a9 a10 k, LeO (storagebarterref16_term.f k a0 a1 a2 a3 a4 a5 a6 a7 a8 a9 a10) (storagebarterref16_term.f (k + 1) a0 a1 a2 a3 a4 a5 a6 a7 a8 a9 a10) := by
 intro a0 a1 a2 a3 a4 a5 a6 a7 a8 a9 a10 k
 unfold storagebarterref16_term.f
 repeat' first
  | (with_reducible exact storagebarterref15_Valid.mono _ _ _ _ _ _ _ _ _ _ _ _)
  | (with_reducible exact LeO.refl _)
  | (with_reducible exact LeO.none _)
  | (with_reducible refine LeO.ite ?_ ?_)
  | (with_reducible refine LeO.bind ?_ (fun _ => ?_))
  | exact storagebarterref15_Valid.mono _ _ _ _ _ _ _ _ _ _ _ _
  | exact LeO.none _
  | refine LeO.ite ?_ ?_
  | refine LeO.bind ?_ (fun _ => ?_)
set_option maxHeartbeats 8000000 in
set_option maxRecDepth 100000 in
theorem storagebarterref16_term.calls (k : Nat) (a0_0 : Int) (a0_1 : Int) (a0_2 : Int) (a0_3 : Int) (a0_4 : Int) (a0_5 : Int) (a0_6 : Int) (a0_7 : Int) (a0_8 : Int) (a0_9 : Int) (a0_10 : Int) (r : Bool) (w : World) (h : storagebarterref16_term.f k a0_0 a0_1 a0_2 a0_3 a0_4 a0_5 a0_6 a0_7 a0_8 a0_9 a0_10 = some r) :
 Calls Tryd.prog 67 #[.agg #[.int .i64 a0_0, .int .i64 a0_1, .int .i64 a0_2, .int .i64 a0_3, .int .i64 a0_4, .int .i64 a0_5, .int .i64 a0_6, .int .i64 a0_7, .int .i64 a0_8, .int .i64 a0_9, .int .i64 a0_10]] w fun e w' => e = .returned (.bool r) ∧ Below w.heap.size w w' := by
 have hu39 := Tryd.underlying39
 have HB := Aside0.mk (Below.refl w.heap.size w)
 have H : ((storagebarterref15_Valid.f k a0_0 a0_1 a0_2 a0_3 a0_4 a0_5 a0_6 a0_7 a0_8 a0_9 a0_10).bind fun t192 => (if t192 = true then (if a0_5 = 1 then (some true) else (some (a0_5 == 2))) else (some false))) = some r := h
 clear h
 replace H := Option.bind_eq_some_iff.mp H
 obtain ⟨t192, A20, H⟩ := H
 replace H : (if t192 = true then (if a0_5 = 1 then (some true) else (some (a0_5 == 2))) else (some false)) = some r := H
 have A2 := Aside0.mk A20
 clear A20
 by_cases c3 : t192 = true
 ·subst c3
  have H1 : (if a0_5 = 1 then (some true) else (some (a0_5 == 2))) = some r := by rw [if_pos rfl] at H; exact H
  clear H
  have H := H1
  clear H1
  by_cases c4 : a0_5 = 1
  ·rw [if_pos c4] at H
   have c4b0 : (a0_5 == 1) = true := beq_iff_eq.mpr c4
   have c4b1 : (a0_5 != 1) = false := bne_eq_false_iff_eq.mpr c4
   clear c4
   obtain rfl := Option.some.inj H
   go_enter Tryd.func67, Tryd.ntmps67
   go_wp2_with (first | ((with_reducible refine gate_dst (N := 1) rfl ?_); refine box_event ?hg (N := 1) ?hd (cs := #[.int .i64 a0_0, .int .i64 a0_1, .int .i64 a0_2, .int .i64 a0_3, .int .i64 a0_4, .int .i64 a0_5, .int .i64 a0_6, .int .i64 a0_7, .int .i64 a0_8, .int .i64 a0_9, .int .i64 a0_10]) (t := 39) ?hr ?_; (case hd => rfl); (case hg => rfl); (case hr => first | (go_simp; done) | (go_simp; rfl)); intro gb191 hg w5 hbox hb; have n0_ := Aside0.mk (below_step (by repeat (first | (with_reducible first | exact HB.out | apply below_alloc | apply pw_below_drewN | apply below_drew1) | exact HB.out)) hb); have n1_ := Aside0.mk (hbox); have n2_ := Aside0.mk ((by rw [hg]; exact (below_size (by repeat (first | (with_reducible first | exact HB.out | apply below_alloc | apply pw_below_drewN | apply below_drew1) | exact HB.out))) : w.heap.size ≤ gb191)); have n3_ := Aside0.mk ((by rw [hg]; exact (below_size (by repeat (first | (with_reducible first | exact HB.out | apply below_alloc | apply pw_below_drewN | apply below_drew1) | exact HB.out))) : w.heap.size ≤ gb191)); clear HB; have HB := n0_; have BK191 := n1_; have GW191 := n2_; have GE191 := n3_; clear n0_ n1_ n2_ n3_; clear hb hbox hg; have hcz6_0 : w5.cell? ⟨gb191, 0, none⟩ = some (.int .i64 a0_0) := (blk_cell BK191.out 0).trans rfl; have hcz6_1 : w5.cell? ⟨gb191, 1, none⟩ = some (.int .i64 a0_1) := (blk_cell BK191.out 1).trans rfl; have hcz6_2 : w5.cell? ⟨gb191, 2, none⟩ = some (.int .i64 a0_2) := (blk_cell BK191.out 2).trans rfl; have hcz6_3 : w5.cell? ⟨gb191, 3, none⟩ = some (.int .i64 a0_3) := (blk_cell BK191.out 3).trans rfl; have hcz6_4 : w5.cell? ⟨gb191, 4, none⟩ = some (.int .i64 a0_4) := (blk_cell BK191.out 4).trans rfl; have hcz6_5 : w5.cell? ⟨gb191, 5, none⟩ = some (.int .i64 a0_5) := (blk_cell BK191.out 5).trans rfl; have hcz6_6 : w5.cell? ⟨gb191, 6, none⟩ = some (.int .i64 a0_6) := (blk_cell BK191.out 6).trans rfl; have hcz6_7 : w5.cell? ⟨gb191, 7, none⟩ = some (.int .i64 a0_7) := (blk_cell BK191.out 7).trans rfl; have hcz6_8 : w5.cell? ⟨gb191, 8, none⟩ = some (.int .i64 a0_8) := (blk_cell BK191.out 8).trans rfl; have hcz6_9 : w5.cell? ⟨gb191, 9, none⟩ = some (.int .i64 a0_9) := (blk_cell BK191.out 9).trans rfl; have hcz6_10 : w5.cell? ⟨gb191, 10, none⟩ = some (.int .i64 a0_10) := (blk_cell BK191.out 10).trans rfl; have hfz6_0 := blk_frozen BK191.out 0; have hfz6_1 := blk_frozen BK191.out 1; have hfz6_2 := blk_frozen BK191.out 2; have hfz6_3 := blk_frozen BK191.out 3; have hfz6_4 := blk_frozen BK191.out 4; have hfz6_5 := blk_frozen BK191.out 5; have hfz6_6 := blk_frozen BK191.out 6; have hfz6_7 := blk_frozen BK191.out 7; have hfz6_8 := blk_frozen BK191.out 8; have hfz6_9 := blk_frozen BK191.out 9; have hfz6_10 := blk_frozen BK191.out 10) | ((with_reducible refine gate_callee (f := 34) rfl ?_); refine goesL_ (some 4) rfl rfl Tryd.func34 (by kernel_rfl) rfl #[.agg #[.int .i64 a0_0, .int .i64 a0_1, .int .i64 a0_2, .int .i64 a0_3, .int .i64 a0_4, .int .i64 a0_5, .int .i64 a0_6, .int .i64 a0_7, .int .i64 a0_8, .int .i64 a0_9, .int .i64 a0_10]] rfl (by (try simp only [List.map_toArray, List.map_cons, List.map_nil]); first | done | rfl | (simp only [List.length_drop, List.length_take]; rfl)) ?_; (with_reducible refine (storagebarterref15_Valid.calls k a0_0 a0_1 a0_2 a0_3 a0_4 a0_5 a0_6 a0_7 a0_8 a0_9 a0_10 true _ A2.out).mono ?_); rintro e w7 ⟨rfl, hb⟩; refine ⟨_, rfl, ?_⟩; have n0_ := Aside0.mk (blk_below (g := gb191) (o := .cells #[.int .i64 a0_0, .int .i64 a0_1, .int .i64 a0_2, .int .i64 a0_3, .int .i64 a0_4, .int .i64 a0_5, .int .i64 a0_6, .int .i64 a0_7, .int .i64 a0_8, .int .i64 a0_9, .int .i64 a0_10] 39 (0, 0)) (by (with_reducible repeat (first | refine blk_drewN ?_ _ | refine blk_drew ?_ | refine blk_alloc ?_ _)); exact BK191.out) hb); have n1_ := Aside0.mk (below_step (by repeat (first | (with_reducible first | exact HB.out | apply below_alloc | apply pw_below_drewN | apply below_drew1 | refine below_set ?_ GE191.out) | exact HB.out)) hb); clear BK191; clear HB; have BK191 := n0_; have HB := n1_; clear n0_ n1_; (try clear hb); (try clear hb2); (try clear hk); (try clear hi); have hcz8_0 : w7.cell? ⟨gb191, 0, none⟩ = some (.int .i64 a0_0) := (blk_cell BK191.out 0).trans rfl; have hcz8_1 : w7.cell? ⟨gb191, 1, none⟩ = some (.int .i64 a0_1) := (blk_cell BK191.out 1).trans rfl; have hcz8_2 : w7.cell? ⟨gb191, 2, none⟩ = some (.int .i64 a0_2) := (blk_cell BK191.out 2).trans rfl; have hcz8_3 : w7.cell? ⟨gb191, 3, none⟩ = some (.int .i64 a0_3) := (blk_cell BK191.out 3).trans rfl; have hcz8_4 : w7.cell? ⟨gb191, 4, none⟩ = some (.int .i64 a0_4) := (blk_cell BK191.out 4).trans rfl; have hcz8_5 : w7.cell? ⟨gb191, 5, none⟩ = some (.int .i64 a0_5) := (blk_cell BK191.out 5).trans rfl; have hcz8_6 : w7.cell? ⟨gb191, 6, none⟩ = some (.int .i64 a0_6) := (blk_cell BK191.out 6).trans rfl; have hcz8_7 : w7.cell? ⟨gb191, 7, none⟩ = some (.int .i64 a0_7) := (blk_cell BK191.out 7).trans rfl; have hcz8_8 : w7.cell? ⟨gb191, 8, none⟩ = some (.int .i64 a0_8) := (blk_cell BK191.out 8).trans rfl; have hcz8_9 : w7.cell? ⟨gb191, 9, none⟩ = some (.int .i64 a0_9) := (blk_cell BK191.out 9).trans rfl; have hcz8_10 : w7.cell? ⟨gb191, 10, none⟩ = some (.int .i64 a0_10) := (blk_cell BK191.out 10).trans rfl; have hfz8_0 := blk_frozen BK191.out 0; have hfz8_1 := blk_frozen BK191.out 1; have hfz8_2 := blk_frozen BK191.out 2; have hfz8_3 := blk_frozen BK191.out 3; have hfz8_4 := blk_frozen BK191.out 4; have hfz8_5 := blk_frozen BK191.out 5; have hfz8_6 := blk_frozen BK191.out 6; have hfz8_7 := blk_frozen BK191.out 7; have hfz8_8 := blk_frozen BK191.out 8; have hfz8_9 := blk_frozen BK191.out 9; have hfz8_10 := blk_frozen BK191.out 10))
   go_ret
   exact ⟨by first | rfl | (simp [errW_none, errW_some] <;> rfl) | (simp [*, errW_none, errW_some] <;> rfl), by repeat (first | (with_reducible first | exact HB.out | apply below_alloc | apply pw_below_drewN | apply below_drew1 | refine below_set ?_ GE191.out) | exact HB.out)⟩
  ·rw [if_neg c4] at H
   have c4b0 : (a0_5 == 1) = false := beq_eq_false_iff_ne.mpr c4
   have c4b1 : (a0_5 != 1) = true := bne_iff_ne.mpr c4
   obtain rfl := Option.some.inj H
   go_enter Tryd.func67, Tryd.ntmps67
   go_wp2_with (first | ((with_reducible refine gate_dst (N := 1) rfl ?_); refine box_event ?hg (N := 1) ?hd (cs := #[.int .i64 a0_0, .int .i64 a0_1, .int .i64 a0_2, .int .i64 a0_3, .int .i64 a0_4, .int .i64 a0_5, .int .i64 a0_6, .int .i64 a0_7, .int .i64 a0_8, .int .i64 a0_9, .int .i64 a0_10]) (t := 39) ?hr ?_; (case hd => rfl); (case hg => rfl); (case hr => first | (go_simp; done) | (go_simp; rfl)); intro gb191 hg w9 hbox hb; have n0_ := Aside0.mk (below_step (by repeat (first | (with_reducible first | exact HB.out | apply below_alloc | apply pw_below_drewN | apply below_drew1) | exact HB.out)) hb); have n1_ := Aside0.mk (hbox); have n2_ := Aside0.mk ((by rw [hg]; exact (below_size (by repeat (first | (with_reducible first | exact HB.out | apply below_alloc | apply pw_below_drewN | apply below_drew1) | exact HB.out))) : w.heap.size ≤ gb191)); have n3_ := Aside0.mk ((by rw [hg]; exact (below_size (by repeat (first | (with_reducible first | exact HB.out | apply below_alloc | apply pw_below_drewN | apply below_drew1) | exact HB.out))) : w.heap.size ≤ gb191)); clear HB; have HB := n0_; have BK191 := n1_; have GW191 := n2_; have GE191 := n3_; clear n0_ n1_ n2_ n3_; clear hb hbox hg; have hcz10_0 : w9.cell? ⟨gb191, 0, none⟩ = some (.int .i64 a0_0) := (blk_cell BK191.out 0).trans rfl; have hcz10_1 : w9.cell? ⟨gb191, 1, none⟩ = some (.int .i64 a0_1) := (blk_cell BK191.out 1).trans rfl; have hcz10_2 : w9.cell? ⟨gb191, 2, none⟩ = some (.int .i64 a0_2) := (blk_cell BK191.out 2).trans rfl; have hcz10_3 : w9.cell? ⟨gb191, 3, none⟩ = some (.int .i64 a0_3) := (blk_cell BK191.out 3).trans rfl; have hcz10_4 : w9.cell? ⟨gb191, 4, none⟩ = some (.int .i64 a0_4) := (blk_cell BK191.out 4).trans rfl; have hcz10_5 : w9.cell? ⟨gb191, 5, none⟩ = some (.int .i64 a0_5) := (blk_cell BK191.out 5).trans rfl; have hcz10_6 : w9.cell? ⟨gb191, 6, none⟩ = some (.int .i64 a0_6) := (blk_cell BK191.out 6).trans rfl; have hcz10_7 : w9.cell? ⟨gb191, 7, none⟩ = some (.int .i64 a0_7) := (blk_cell BK191.out 7).trans rfl; have hcz10_8 : w9.cell? ⟨gb191, 8, none⟩ = some (.int .i64 a0_8) := (blk_cell BK191.out 8).trans rfl; have hcz10_9 : w9.cell? ⟨gb191, 9, none⟩ = some (.int .i64 a0_9) := (blk_cell BK191.out 9).trans rfl; have hcz10_10 : w9.cell? ⟨gb191, 10, none⟩ = some (.int .i64 a0_10) := (blk_cell BK191.out 10).trans rfl; have hfz10_0 := blk_frozen BK191.out 0; have hfz10_1 := blk_frozen BK191.out 1; have hfz10_2 := blk_frozen BK191.out 2; have hfz10_3 := blk_frozen BK191.out 3; have hfz10_4 := blk_frozen BK191.out 4; have hfz10_5 := blk_frozen BK191.out 5; have hfz10_6 := blk_frozen BK191.out 6; have hfz10_7 := blk_frozen BK191.out 7; have hfz10_8 := blk_frozen BK191.out 8; have hfz10_9 := blk_frozen BK191.out 9; have hfz10_10 := blk_frozen BK191.out 10) | ((with_reducible refine gate_callee (f := 34) rfl ?_); refine goesL_ (some 4) rfl rfl Tryd.func34 (by kernel_rfl) rfl #[.agg #[.int .i64 a0_0, .int .i64 a0_1, .int .i64 a0_2, .int .i64 a0_3, .int .i64 a0_4, .int .i64 a0_5, .int .i64 a0_6, .int .i64 a0_7, .int .i64 a0_8, .int .i64 a0_9, .int .i64 a0_10]] rfl (by (try simp only [List.map_toArray, List.map_cons, List.map_nil]); first | done | rfl | (simp only [List.length_drop, List.length_take]; rfl)) ?_; (with_reducible refine (storagebarterref15_Valid.calls k a0_0 a0_1 a0_2 a0_3 a0_4 a0_5 a0_6 a0_7 a0_8 a0_9 a0_10 true _ A2.out).mono ?_); rintro e w11 ⟨rfl, hb⟩; refine ⟨_, rfl, ?_⟩; have n0_ := Aside0.mk (blk_below (g := gb191) (o := .cells #[.int .i64 a0_0, .int .i64 a0_1, .int .i64 a0_2, .int .i64 a0_3, .int .i64 a0_4, .int .i64 a0_5, .int .i64 a0_6, .int .i64 a0_7, .int .i64 a0_8, .int .i64 a0_9, .int .i64 a0_10] 39 (0, 0)) (by (with_reducible repeat (first | refine blk_drewN ?_ _ | refine blk_drew ?_ | refine blk_alloc ?_ _)); exact BK191.out) hb); have n1_ := Aside0.mk (below_step (by repeat (first | (with_reducible first | exact HB.out | apply below_alloc | apply pw_below_drewN | apply below_drew1 | refine below_set ?_ GE191.out) | exact HB.out)) hb); clear BK191; clear HB; have BK191 := n0_; have HB := n1_; clear n0_ n1_; (try clear hb); (try clear hb2); (try clear hk); (try clear hi); have hcz12_0 : w11.cell? ⟨gb191, 0, none⟩ = some (.int .i64 a0_0) := (blk_cell BK191.out 0).trans rfl; have hcz12_1 : w11.cell? ⟨gb191, 1, none⟩ = some (.int .i64 a0_1) := (blk_cell BK191.out 1).trans rfl; have hcz12_2 : w11.cell? ⟨gb191, 2, none⟩ = some (.int .i64 a0_2) := (blk_cell BK191.out 2).trans rfl; have hcz12_3 : w11.cell? ⟨gb191, 3, none⟩ = some (.int .i64 a0_3) := (blk_cell BK191.out 3).trans rfl; have hcz12_4 : w11.cell? ⟨gb191, 4, none⟩ = some (.int .i64 a0_4) := (blk_cell BK191.out 4).trans rfl; have hcz12_5 : w11.cell? ⟨gb191, 5, none⟩ = some (.int .i64 a0_5) := (blk_cell BK191.out 5).trans rfl; have hcz12_6 : w11.cell? ⟨gb191, 6, none⟩ = some (.int .i64 a0_6) := (blk_cell BK191.out 6).trans rfl; have hcz12_7 : w11.cell? ⟨gb191, 7, none⟩ = some (.int .i64 a0_7) := (blk_cell BK191.out 7).trans rfl; have hcz12_8 : w11.cell? ⟨gb191, 8, none⟩ = some (.int .i64 a0_8) := (blk_cell BK191.out 8).trans rfl; have hcz12_9 : w11.cell? ⟨gb191, 9, none⟩ = some (.int .i64 a0_9) := (blk_cell BK191.out 9).trans rfl; have hcz12_10 : w11.cell? ⟨gb191, 10, none⟩ = some (.int .i64 a0_10) := (blk_cell BK191.out 10).trans rfl; have hfz12_0 := blk_frozen BK191.out 0; have hfz12_1 := blk_frozen BK191.out 1; have hfz12_2 := blk_frozen BK191.out 2; have hfz12_3 := blk_frozen BK191.out 3; have hfz12_4 := blk_frozen BK191.out 4; have hfz12_5 := blk_frozen BK191.out 5; have hfz12_6 := blk_frozen BK191.out 6; have hfz12_7 := blk_frozen BK191.out 7; have hfz12_8 := blk_frozen BK191.out 8; have hfz12_9 := blk_frozen BK191.out 9; have hfz12_10 := blk_frozen BK191.out 10))
   go_ret
   exact ⟨by first | rfl | (simp [errW_none, errW_some] <;> rfl) | (simp [*, errW_none, errW_some] <;> rfl), by repeat (first | (with_reducible first | exact HB.out | apply below_alloc | apply pw_below_drewN | apply below_drew1 | refine below_set ?_ GE191.out) | exact HB.out)⟩
 ·replace c3 := Bool.eq_false_iff.mpr c3
  subst c3
  have H1 : (some false) = some r := by rw [if_neg (show ¬ (false = true) by decide)] at H; exact H
  clear H
  have H := H1
  clear H1
  obtain rfl := Option.some.inj H
  go_enter Tryd.func67, Tryd.ntmps67
  go_wp2_with (first | ((with_reducible refine gate_dst (N := 1) rfl ?_); refine box_event ?hg (N := 1) ?hd (cs := #[.int .i64 a0_0, .int .i64 a0_1, .int .i64 a0_2, .int .i64 a0_3, .int .i64 a0_4, .int .i64 a0_5, .int .i64 a0_6, .int .i64 a0_7, .int .i64 a0_8, .int .i64 a0_9, .int .i64 a0_10]) (t := 39) ?hr ?_; (case hd => rfl); (case hg => rfl); (case hr => first | (go_simp; done) | (go_simp; rfl)); intro gb191 hg w13 hbox hb; have n0_ := Aside0.mk (below_step (by repeat (first | (with_reducible first | exact HB.out | apply below_alloc | apply pw_below_drewN | apply below_drew1) | exact HB.out)) hb); have n1_ := Aside0.mk (hbox); have n2_ := Aside0.mk ((by rw [hg]; exact (below_size (by repeat (first | (with_reducible first | exact HB.out | apply below_alloc | apply pw_below_drewN | apply below_drew1) | exact HB.out))) : w.heap.size ≤ gb191)); have n3_ := Aside0.mk ((by rw [hg]; exact (below_size (by repeat (first | (with_reducible first | exact HB.out | apply below_alloc | apply pw_below_drewN | apply below_drew1) | exact HB.out))) : w.heap.size ≤ gb191)); clear HB; have HB := n0_; have BK191 := n1_; have GW191 := n2_; have GE191 := n3_; clear n0_ n1_ n2_ n3_; clear hb hbox hg; have hcz14_0 : w13.cell? ⟨gb191, 0, none⟩ = some (.int .i64 a0_0) := (blk_cell BK191.out 0).trans rfl; have hcz14_1 : w13.cell? ⟨gb191, 1, none⟩ = some (.int .i64 a0_1) := (blk_cell BK191.out 1).trans rfl; have hcz14_2 : w13.cell? ⟨gb191, 2, none⟩ = some (.int .i64 a0_2) := (blk_cell BK191.out 2).trans rfl; have hcz14_3 : w13.cell? ⟨gb191, 3, none⟩ = some (.int .i64 a0_3) := (blk_cell BK191.out 3).trans rfl; have hcz14_4 : w13.cell? ⟨gb191, 4, none⟩ = some (.int .i64 a0_4) := (blk_cell BK191.out 4).trans rfl; have hcz14_5 : w13.cell? ⟨gb191, 5, none⟩ = some (.int .i64 a0_5) := (blk_cell BK191.out 5).trans rfl; have hcz14_6 : w13.cell? ⟨gb191, 6, none⟩ = some (.int .i64 a0_6) := (blk_cell BK191.out 6).trans rfl; have hcz14_7 : w13.cell? ⟨gb191, 7, none⟩ = some (.int .i64 a0_7) := (blk_cell BK191.out 7).trans rfl; have hcz14_8 : w13.cell? ⟨gb191, 8, none⟩ = some (.int .i64 a0_8) := (blk_cell BK191.out 8).trans rfl; have hcz14_9 : w13.cell? ⟨gb191, 9, none⟩ = some (.int .i64 a0_9) := (blk_cell BK191.out 9).trans rfl; have hcz14_10 : w13.cell? ⟨gb191, 10, none⟩ = some (.int .i64 a0_10) := (blk_cell BK191.out 10).trans rfl; have hfz14_0 := blk_frozen BK191.out 0; have hfz14_1 := blk_frozen BK191.out 1; have hfz14_2 := blk_frozen BK191.out 2; have hfz14_3 := blk_frozen BK191.out 3; have hfz14_4 := blk_frozen BK191.out 4; have hfz14_5 := blk_frozen BK191.out 5; have hfz14_6 := blk_frozen BK191.out 6; have hfz14_7 := blk_frozen BK191.out 7; have hfz14_8 := blk_frozen BK191.out 8; have hfz14_9 := blk_frozen BK191.out 9; have hfz14_10 := blk_frozen BK191.out 10) | ((with_reducible refine gate_callee (f := 34) rfl ?_); refine goesL_ (some 4) rfl rfl Tryd.func34 (by kernel_rfl) rfl #[.agg #[.int .i64 a0_0, .int .i64 a0_1, .int .i64 a0_2, .int .i64 a0_3, .int .i64 a0_4, .int .i64 a0_5, .int .i64 a0_6, .int .i64 a0_7, .int .i64 a0_8, .int .i64 a0_9, .int .i64 a0_10]] rfl (by (try simp only [List.map_toArray, List.map_cons, List.map_nil]); first | done | rfl | (simp only [List.length_drop, List.length_take]; rfl)) ?_; (with_reducible refine (storagebarterref15_Valid.calls k a0_0 a0_1 a0_2 a0_3 a0_4 a0_5 a0_6 a0_7 a0_8 a0_9 a0_10 false _ A2.out).mono ?_); rintro e w15 ⟨rfl, hb⟩; refine ⟨_, rfl, ?_⟩; have n0_ := Aside0.mk (blk_below (g := gb191) (o := .cells #[.int .i64 a0_0, .int .i64 a0_1, .int .i64 a0_2, .int .i64 a0_3, .int .i64 a0_4, .int .i64 a0_5, .int .i64 a0_6, .int .i64 a0_7, .int .i64 a0_8, .int .i64 a0_9, .int .i64 a0_10] 39 (0, 0)) (by (with_reducible repeat (first | refine blk_drewN ?_ _ | refine blk_drew ?_ | refine blk_alloc ?_ _)); exact BK191.out) hb); have n1_ := Aside0.mk (below_step (by repeat (first | (with_reducible first | exact HB.out | apply below_alloc | apply pw_below_drewN | apply below_drew1 | refine below_set ?_ GE191.out) | exact HB.out)) hb); clear BK191; clear HB; have BK191 := n0_; have HB := n1_; clear n0_ n1_; (try clear hb); (try clear hb2); (try clear hk); (try clear hi)))
  go_ret
  exact ⟨by first | rfl | (simp [errW_none, errW_some] <;> rfl) | (simp [*, errW_none, errW_some] <;> rfl), by repeat (first | (with_reducible first | exact HB.out | apply below_alloc | apply pw_below_drewN | apply below_drew1 | refine below_set ?_ GE191.out) | exact HB.out)⟩
end Go.Proofs.YtcalkhlchjjalaaDoor.Q

namespace Go.Proofs.YtcalkhlchjjalaaDoor.Q
open Go.RowKit Go.Proofs.YtcalkhlchjjalaaDoorW.PrintWords Go.Proofs.YtcalkhlchjjalaaDoorW.PrintLast Go.Proofs.YtcalkhlchjjalaaDoorW.PrintMore Go.Proofs.YtcalkhlchjjalaaDoor.Gput
attribute [local go_sem] max2_int min2_int max_two min_two max_three min_three max_four min_four   -- for this text's walks alone
set_option linter.unusedVariables false
set_option linter.unusedSimpArgs false
mutual
def storagebarterref16_Until.l0 : Nat → Int → Int → List (List (S39)) → Int → Int → Option (Int)
 | 0, _, _, _, _, _ => none
 | k + 1, x1, x5, x10, x11, x12 => if x12 < x11 then (if 0 ≤ x12 then (if x12 < (x10.length : Int) then (storagebarterref16_Until.l1 k x1 x5 x10 x11 x12 (rd_L4 x10 x12) ((rd_L4 x10 x12).length : Int) 0) else (none)) else (none)) else (some x5)
def storagebarterref16_Until.l1 : Nat → Int → Int → List (List (S39)) → Int → Int → List (S39) → Int → Int → Option (Int)
 | 0, _, _, _, _, _, _, _, _ => none
 | k + 1, x1, x5, x10, x11, x12, x16, x17, x18 => if x18 < x17 then (if 0 ≤ x18 then (if x18 < (x16.length : Int) then ((storagebarterref16_term.f k ((rd_T39 x16 x18).f0) ((rd_T39 x16 x18).f1) ((rd_T39 x16 x18).f2) ((rd_T39 x16 x18).f3) ((rd_T39 x16 x18).f4) ((rd_T39 x16 x18).f5) ((rd_T39 x16 x18).f6) ((rd_T39 x16 x18).f7) ((rd_T39 x16 x18).f8) ((rd_T39 x16 x18).f9) ((rd_T39 x16 x18).f10)).bind fun t196 => (if t196 = true then (if ((rd_T39 x16 x18).f6) = x1 then (storagebarterref16_Until.l1 k x1 (mx x5 ((rd_T39 x16 x18).f9)) x10 x11 x12 x16 x17 (wrap64 (x18 + 1))) else (storagebarterref16_Until.l1 k x1 x5 x10 x11 x12 x16 x17 (wrap64 (x18 + 1)))) else (storagebarterref16_Until.l1 k x1 x5 x10 x11 x12 x16 x17 (wrap64 (x18 + 1))))) else (none)) else (none)) else (storagebarterref16_Until.l0 k x1 x5 x10 x11 (wrap64 (x12 + 1)))
end
def storagebarterref16_Until.f (k : Nat) (l0 : List (List (S39))) (a1 : Int) : Option (Int) := storagebarterref16_Until.l0 k a1 (-1) l0 (l0.length : Int) 0
theorem storagebarterref16_Until.mono_l : ∀ k, (∀ y0 y1 y2 y3 y4, LeO (storagebarterref16_Until.l0 k y0 y1 y2 y3 y4) (storagebarterref16_Until.l0 (k + 1) y0 y1 y2 y3 y4)) ∧ (∀ y0 y1 y2 y3 y4 y5 y6 y7, LeO (storagebarterref16_Until.l1 k y0 y1 y2 y3 y4 y5 y6 y7) (storagebarterref16_Until.l1 (k + 1) y0 y1 y2 y3 y4 y5 y6 y7))
 | 0 => ⟨fun _ _ _ _ _ r h => by simp [storagebarterref16_Until.l0] at h, fun _ _ _ _ _ _ _ _ r h => by simp [storagebarterref16_Until.l1] at h⟩
 | k + 1 => by
  obtain ⟨ih0, ih1⟩ := storagebarterref16_Until.mono_l k
  refine ⟨?_, ?_⟩
  ·intro y0 y1 y2 y3 y4
   unfold storagebarterref16_Until.l0
   repeat' first
   | (with_reducible exact ih0 _ _ _ _ _)
   | (with_reducible exact ih1 _ _ _ _ _ _ _ _)
   | (with_reducible exact storagebarterref16_term.mono _ _ _ _ _ _ _ _ _ _ _ _)
   | (with_reducible exact LeO.refl _)
   | (with_reducible exact LeO.none _)
   | (with_reducible refine LeO.ite ?_ ?_)
   | (with_reducible refine LeO.bind ?_ (fun _ => ?_))
   | exact ih0 _ _ _ _ _
   | exact ih1 _ _ _ _ _ _ _ _
   | exact storagebarterref16_term.mono _ _ _ _ _ _ _ _ _ _ _ _
   | exact LeO.none _
   | refine LeO.ite ?_ ?_
   | refine LeO.bind ?_ (fun _ => ?_)
  ·intro y0 y1 y2 y3 y4 y5 y6 y7
   unfold storagebarterref16_Until.l1
   repeat' first
   | (with_reducible exact ih0 _ _ _ _ _)
   | (with_reducible exact ih1 _ _ _ _ _ _ _ _)
   | (with_reducible exact storagebarterref16_term.mono _ _ _ _ _ _ _ _ _ _ _ _)
   | (with_reducible exact LeO.refl _)
   | (with_reducible exact LeO.none _)
   | (with_reducible refine LeO.ite ?_ ?_)
   | (with_reducible refine LeO.bind ?_ (fun _ => ?_))
   | exact ih0 _ _ _ _ _
   | exact ih1 _ _ _ _ _ _ _ _
   | exact storagebarterref16_term.mono _ _ _ _ _ _ _ _ _ _ _ _
   | exact LeO.none _
   | refine LeO.ite ?_ ?_
   | refine LeO.bind ?_ (fun _ => ?_)
theorem storagebarterref16_Until.mono : ∀ a0 a1 k, LeO (storagebarterref16_Until.f k a0 a1) (storagebarterref16_Until.f (k + 1) a0 a1) := by
 intro a0 a1 k
 obtain ⟨ih0, ih1⟩ := storagebarterref16_Until.mono_l k
 unfold storagebarterref16_Until.f
 repeat' first
  | (with_reducible exact ih0 _ _ _ _ _)
  | (with_reducible exact ih1 _ _ _ _ _ _ _ _)
  | (with_reducible exact storagebarterref16_term.mono _ _ _ _ _ _ _ _ _ _ _ _)
  | (with_reducible exact LeO.refl _)
  | (with_reducible exact LeO.none _)
  | (with_reducible refine LeO.ite ?_ ?_)
  | (with_reducible refine LeO.bind ?_ (fun _ => ?_))
  | exact ih0 _ _ _ _ _
  | exact ih1 _ _ _ _ _ _ _ _
  | exact storagebarterref16_term.mono _ _ _ _ _ _ _ _ _ _ _ _
  | exact LeO.none _
  | refine LeO.ite ?_ ?_
  | refine LeO.bind ?_ (fun _ => ?_)
set_option maxHeartbeats 8000000 in
set_option maxRecDepth 100000 in
theorem storagebarterref16_Until.calls (k : Nat) (A0 : Option Addr) (c0 : Nat) (l0 : List (List (S39))) (a1 : Int) (r : Int) (w : World) (hr0 : Kd.C (Kd.slice 39 k39) w A0 l0.length l0) (hc0 : l0.length ≤ c0) (h : storagebarterref16_Until.f k l0 a1 = some r) :
 Calls Tryd.prog 61 #[.slice A0 l0.length c0, .int .i64 a1] w fun e w' => e = .returned (.int .i64 r) ∧ Below w.heap.size w w' := by
 have hu39 := Tryd.underlying39
 have HR0 := Aside0.mk hr0
 have HC0 := Aside0.mk hc0
 clear hr0 hc0
 have HB := Aside0.mk (Below.refl w.heap.size w)
 have H : (storagebarterref16_Until.l0 k a1 (-1) l0 (l0.length : Int) 0) = some r := h
 clear h
 have H' := Aside0.mk H
 clear H
 go_enter Tryd.func61, Tryd.ntmps61
 go_wp2
 go_loopg [5, 12] k (fun kq v5 v12 w' => ∃ (x5_1 : Int) (x12_1 : Int), v5 = .int .i64 x5_1 ∧ v12 = .int .i64 x12_1 ∧ Aside0 (storagebarterref16_Until.l0 kq a1 x5_1 l0 (l0.length : Int) x12_1 = some r) ∧ Aside0 (kq ≤ k) ∧ Aside0 (Below w.heap.size w w'))
 case atStart => exact ⟨((-1)), (0), (by first | rfl | (simp; done) | (simp [*]; done)), (by first | rfl | (simp; done) | (simp [*]; done)), H', ⟨Nat.le_refl _⟩, ⟨by repeat (first | (with_reducible first | exact HB.out | apply below_alloc | apply pw_below_drewN | apply below_drew1) | exact HB.out)⟩⟩
 case round =>
  clear H'
  try clear p2
  obtain ⟨x5_1, x12_1, rfl, rfl, HA, HK1, HB⟩ := hrel
  cases gk with
  | zero => exact absurd HA.out (by simp [storagebarterref16_Until.l0])
  | succ k1 =>
   have H := HA.out
   clear HA
   simp only [storagebarterref16_Until.l0] at H
   by_cases c3 : x12_1 < (l0.length : Int)
   ·rw [if_pos c3] at H
    have c3b0 : decide (x12_1 < (l0.length : Int)) = true := decide_eq_true c3
    clear c3
    by_cases c4 : 0 ≤ x12_1
    ·rw [if_pos c4] at H
     have c4b0 : decide (0 ≤ x12_1) = true := decide_eq_true c4
     clear c4
     by_cases c5 : x12_1 < (l0.length : Int)
     ·rw [if_pos c5] at H
      have c5b0 : decide (x12_1 < (l0.length : Int)) = true := decide_eq_true c5
      clear c5
      have H' := Aside0.mk H
      clear H
      have p193 : 0 ≤ (x12_1 : Int) := of_decide_eq_true (by first | (with_reducible assumption) | assumption)
      have q193 : x12_1 < (l0.length : Int) := of_decide_eq_true (by first | (with_reducible assumption) | assumption)
      obtain ⟨ad193, A193_0, c193_0, e193, hx193_0, hl193_0, hi193_0⟩ := at_L4 HR0.out x12_1 p193 q193
      cases e193
      replace hx193_0 := (HB.out.cell (World.block_lt_of_cell? w _ hx193_0)).trans hx193_0
      have HR193_0 := Aside0.mk hi193_0
      have HC193_0 := Aside0.mk hl193_0
      clear hi193_0 hl193_0
      replace p193 := eq_true p193
      replace q193 := eq_true q193
      go_wp2
      go_loopg [5, 18] k1 (fun kq v5 v18 w' => ∃ (x5_2 : Int) (x18_2 : Int), v5 = .int .i64 x5_2 ∧ v18 = .int .i64 x18_2 ∧ Aside0 (storagebarterref16_Until.l1 kq a1 x5_2 l0 (l0.length : Int) x12_1 (rd_L4 l0 x12_1) ((rd_L4 l0 x12_1).length : Int) x18_2 = some r) ∧ Aside0 (kq ≤ k1) ∧ Aside0 (Below w.heap.size w w'))
      case atStart => exact ⟨(x5_1), (0), (by first | rfl | (simp; done) | (simp [*]; done)), (by first | rfl | (simp; done) | (simp [*]; done)), H', ⟨Nat.le_refl _⟩, ⟨by repeat (first | (with_reducible first | exact HB.out | apply below_alloc | apply pw_below_drewN | apply below_drew1) | exact HB.out)⟩⟩
      case round =>
       clear H'
       try clear c1
       try clear p1
       try clear q1
       try clear hx1
       try clear p2
       try clear c3
       try clear c3b0
       try clear c4
       try clear c4b0
       try clear c5
       try clear c5b0
       try clear hx193_0
       try clear p193
       try clear p2
       try clear q193
       obtain ⟨x5_2, x18_2, rfl, rfl, HA, HK2, HB⟩ := hrel
       cases gk with
       | zero => exact absurd HA.out (by simp [storagebarterref16_Until.l1])
       | succ k2 =>
        have H := HA.out
        clear HA
        simp only [storagebarterref16_Until.l1] at H
        by_cases c6 : x18_2 < ((rd_L4 l0 x12_1).length : Int)
        ·rw [if_pos c6] at H
         have c6b0 : decide (x18_2 < ((rd_L4 l0 x12_1).length : Int)) = true := decide_eq_true c6
         clear c6
         by_cases c7 : 0 ≤ x18_2
         ·rw [if_pos c7] at H
          have c7b0 : decide (0 ≤ x18_2) = true := decide_eq_true c7
          clear c7
          by_cases c8 : x18_2 < ((rd_L4 l0 x12_1).length : Int)
          ·rw [if_pos c8] at H
           have c8b0 : decide (x18_2 < ((rd_L4 l0 x12_1).length : Int)) = true := decide_eq_true c8
           clear c8
           replace H := Option.bind_eq_some_iff.mp H
           obtain ⟨t196, A90, H⟩ := H
           replace H : (if t196 = true then (if ((rd_T39 (rd_L4 l0 x12_1) x18_2).f6) = a1 then (storagebarterref16_Until.l1 k2 a1 (mx x5_2 ((rd_T39 (rd_L4 l0 x12_1) x18_2).f9)) l0 (l0.length : Int) x12_1 (rd_L4 l0 x12_1) ((rd_L4 l0 x12_1).length : Int) (wrap64 (x18_2 + 1))) else (storagebarterref16_Until.l1 k2 a1 x5_2 l0 (l0.length : Int) x12_1 (rd_L4 l0 x12_1) ((rd_L4 l0 x12_1).length : Int) (wrap64 (x18_2 + 1)))) else (storagebarterref16_Until.l1 k2 a1 x5_2 l0 (l0.length : Int) x12_1 (rd_L4 l0 x12_1) ((rd_L4 l0 x12_1).length : Int) (wrap64 (x18_2 + 1)))) = some r := H
           have A9 := Aside0.mk A90
           clear A90
           by_cases c10 : t196 = true
           ·subst c10
            have H1 : (if ((rd_T39 (rd_L4 l0 x12_1) x18_2).f6) = a1 then (storagebarterref16_Until.l1 k2 a1 (mx x5_2 ((rd_T39 (rd_L4 l0 x12_1) x18_2).f9)) l0 (l0.length : Int) x12_1 (rd_L4 l0 x12_1) ((rd_L4 l0 x12_1).length : Int) (wrap64 (x18_2 + 1))) else (storagebarterref16_Until.l1 k2 a1 x5_2 l0 (l0.length : Int) x12_1 (rd_L4 l0 x12_1) ((rd_L4 l0 x12_1).length : Int) (wrap64 (x18_2 + 1)))) = some r := by rw [if_pos rfl] at H; exact H
            clear H
            have H := H1
            clear H1
            by_cases c11 : ((rd_T39 (rd_L4 l0 x12_1) x18_2).f6) = a1
            ·rw [if_pos c11] at H
             have c11b0 : (((rd_T39 (rd_L4 l0 x12_1) x18_2).f6) == a1) = true := beq_iff_eq.mpr c11
             have c11b1 : (((rd_T39 (rd_L4 l0 x12_1) x18_2).f6) != a1) = false := bne_eq_false_iff_eq.mpr c11
             clear c11
             obtain ⟨ji12, hji12⟩ : ∃ j_ : Int, (mx x5_2 ((rd_T39 (rd_L4 l0 x12_1) x18_2).f9)) = j_ := ⟨_, rfl⟩
             replace H : (storagebarterref16_Until.l1 k2 a1 ji12 l0 (l0.length : Int) x12_1 (rd_L4 l0 x12_1) ((rd_L4 l0 x12_1).length : Int) (wrap64 (x18_2 + 1))) = some r := by first | (rw [hji12] at H; exact H) | (simp only [hji12] at H ⊢; exact H)
             (try rw [hji12] at A9)
             have hji12_ : (if x5_2 < ((rd_T39 (rd_L4 l0 x12_1) x18_2).f9) then ((rd_T39 (rd_L4 l0 x12_1) x18_2).f9) else x5_2) = ji12 := hji12
             have H' := Aside0.mk H
             clear H
             have p194 : 0 ≤ (x18_2 : Int) := of_decide_eq_true (by first | (with_reducible assumption) | assumption)
             have q194 : x18_2 < ((rd_L4 l0 x12_1).length : Int) := of_decide_eq_true (by first | (with_reducible assumption) | assumption)
             obtain ⟨ad194, e194, hx194_0, hx194_1, hx194_2, hx194_3, hx194_4, hx194_5, hx194_6, hx194_7, hx194_8, hx194_9, hx194_10⟩ := at_T39 HR193_0.out x18_2 p194 q194
             cases e194
             replace hx194_0 := (HB.out.cell (World.block_lt_of_cell? w _ hx194_0)).trans hx194_0
             replace hx194_1 := (HB.out.cell (World.block_lt_of_cell? w _ hx194_1)).trans hx194_1
             replace hx194_2 := (HB.out.cell (World.block_lt_of_cell? w _ hx194_2)).trans hx194_2
             replace hx194_3 := (HB.out.cell (World.block_lt_of_cell? w _ hx194_3)).trans hx194_3
             replace hx194_4 := (HB.out.cell (World.block_lt_of_cell? w _ hx194_4)).trans hx194_4
             replace hx194_5 := (HB.out.cell (World.block_lt_of_cell? w _ hx194_5)).trans hx194_5
             replace hx194_6 := (HB.out.cell (World.block_lt_of_cell? w _ hx194_6)).trans hx194_6
             replace hx194_7 := (HB.out.cell (World.block_lt_of_cell? w _ hx194_7)).trans hx194_7
             replace hx194_8 := (HB.out.cell (World.block_lt_of_cell? w _ hx194_8)).trans hx194_8
             replace hx194_9 := (HB.out.cell (World.block_lt_of_cell? w _ hx194_9)).trans hx194_9
             replace hx194_10 := (HB.out.cell (World.block_lt_of_cell? w _ hx194_10)).trans hx194_10
             replace p194 := eq_true p194
             replace q194 := eq_true q194
             go_wp2_with (first | ((with_reducible refine gate_dst (N := 9) rfl ?_); refine box_event ?hg (N := 9) ?hd (cs := #[.int .i64 0, .int .i64 0, .int .i64 0, .int .i64 0, .int .i64 0, .int .i64 0, .int .i64 0, .int .i64 0, .int .i64 0, .int .i64 0, .int .i64 0]) (t := 39) ?hr ?_; (case hd => rfl); (case hg => rfl); (case hr => first | (go_simp; done) | (go_simp; rfl)); intro gb195 hg w13 hbox hb; have n0_ := Aside0.mk (below_step (by repeat (first | (with_reducible first | exact HB.out | apply below_alloc | apply pw_below_drewN | apply below_drew1) | exact HB.out)) hb); have n1_ := Aside0.mk (hbox); have n2_ := Aside0.mk ((by rw [hg]; exact (below_size (by repeat (first | (with_reducible first | exact HB.out | apply below_alloc | apply pw_below_drewN | apply below_drew1) | exact HB.out))) : w.heap.size ≤ gb195)); have n3_ := Aside0.mk ((by rw [hg]; exact (below_size (by repeat (first | (with_reducible first | exact HB.out | apply below_alloc | apply pw_below_drewN | apply below_drew1) | exact HB.out))) : w.heap.size ≤ gb195)); clear HB; have HB := n0_; have BK195 := n1_; have GW195 := n2_; have GE195 := n3_; clear n0_ n1_ n2_ n3_; clear hb hbox hg; have hcz14_0 : w13.cell? ⟨gb195, 0, none⟩ = some (.int .i64 0) := (blk_cell BK195.out 0).trans rfl; have hcz14_1 : w13.cell? ⟨gb195, 1, none⟩ = some (.int .i64 0) := (blk_cell BK195.out 1).trans rfl; have hcz14_2 : w13.cell? ⟨gb195, 2, none⟩ = some (.int .i64 0) := (blk_cell BK195.out 2).trans rfl; have hcz14_3 : w13.cell? ⟨gb195, 3, none⟩ = some (.int .i64 0) := (blk_cell BK195.out 3).trans rfl; have hcz14_4 : w13.cell? ⟨gb195, 4, none⟩ = some (.int .i64 0) := (blk_cell BK195.out 4).trans rfl; have hcz14_5 : w13.cell? ⟨gb195, 5, none⟩ = some (.int .i64 0) := (blk_cell BK195.out 5).trans rfl; have hcz14_6 : w13.cell? ⟨gb195, 6, none⟩ = some (.int .i64 0) := (blk_cell BK195.out 6).trans rfl; have hcz14_7 : w13.cell? ⟨gb195, 7, none⟩ = some (.int .i64 0) := (blk_cell BK195.out 7).trans rfl; have hcz14_8 : w13.cell? ⟨gb195, 8, none⟩ = some (.int .i64 0) := (blk_cell BK195.out 8).trans rfl; have hcz14_9 : w13.cell? ⟨gb195, 9, none⟩ = some (.int .i64 0) := (blk_cell BK195.out 9).trans rfl; have hcz14_10 : w13.cell? ⟨gb195, 10, none⟩ = some (.int .i64 0) := (blk_cell BK195.out 10).trans rfl; have hfz14_0 := blk_frozen BK195.out 0; have hfz14_1 := blk_frozen BK195.out 1; have hfz14_2 := blk_frozen BK195.out 2; have hfz14_3 := blk_frozen BK195.out 3; have hfz14_4 := blk_frozen BK195.out 4; have hfz14_5 := blk_frozen BK195.out 5; have hfz14_6 := blk_frozen BK195.out 6; have hfz14_7 := blk_frozen BK195.out 7; have hfz14_8 := blk_frozen BK195.out 8; have hfz14_9 := blk_frozen BK195.out 9; have hfz14_10 := blk_frozen BK195.out 10) | ((with_reducible refine gate_callee (f := 67) rfl ?_); refine goesL_ (some 23) rfl rfl Tryd.func67 (by kernel_rfl) rfl #[.agg #[.int .i64 ((rd_T39 (rd_L4 l0 x12_1) x18_2).f0), .int .i64 ((rd_T39 (rd_L4 l0 x12_1) x18_2).f1), .int .i64 ((rd_T39 (rd_L4 l0 x12_1) x18_2).f2), .int .i64 ((rd_T39 (rd_L4 l0 x12_1) x18_2).f3), .int .i64 ((rd_T39 (rd_L4 l0 x12_1) x18_2).f4), .int .i64 ((rd_T39 (rd_L4 l0 x12_1) x18_2).f5), .int .i64 ((rd_T39 (rd_L4 l0 x12_1) x18_2).f6), .int .i64 ((rd_T39 (rd_L4 l0 x12_1) x18_2).f7), .int .i64 ((rd_T39 (rd_L4 l0 x12_1) x18_2).f8), .int .i64 ((rd_T39 (rd_L4 l0 x12_1) x18_2).f9), .int .i64 ((rd_T39 (rd_L4 l0 x12_1) x18_2).f10)]] rfl (by (try simp only [List.map_toArray, List.map_cons, List.map_nil]); first | done | rfl | (simp only [List.length_drop, List.length_take]; rfl)) ?_; (with_reducible refine (storagebarterref16_term.calls k2 ((rd_T39 (rd_L4 l0 x12_1) x18_2).f0) ((rd_T39 (rd_L4 l0 x12_1) x18_2).f1) ((rd_T39 (rd_L4 l0 x12_1) x18_2).f2) ((rd_T39 (rd_L4 l0 x12_1) x18_2).f3) ((rd_T39 (rd_L4 l0 x12_1) x18_2).f4) ((rd_T39 (rd_L4 l0 x12_1) x18_2).f5) ((rd_T39 (rd_L4 l0 x12_1) x18_2).f6) ((rd_T39 (rd_L4 l0 x12_1) x18_2).f7) ((rd_T39 (rd_L4 l0 x12_1) x18_2).f8) ((rd_T39 (rd_L4 l0 x12_1) x18_2).f9) ((rd_T39 (rd_L4 l0 x12_1) x18_2).f10) true _ A9.out).mono ?_); rintro e w15 ⟨rfl, hb⟩; refine ⟨_, rfl, ?_⟩; have n0_ := Aside0.mk (blk_below (g := gb195) (o := .cells #[.int .i64 ((rd_T39 (rd_L4 l0 x12_1) x18_2).f0), .int .i64 ((rd_T39 (rd_L4 l0 x12_1) x18_2).f1), .int .i64 ((rd_T39 (rd_L4 l0 x12_1) x18_2).f2), .int .i64 ((rd_T39 (rd_L4 l0 x12_1) x18_2).f3), .int .i64 ((rd_T39 (rd_L4 l0 x12_1) x18_2).f4), .int .i64 ((rd_T39 (rd_L4 l0 x12_1) x18_2).f5), .int .i64 ((rd_T39 (rd_L4 l0 x12_1) x18_2).f6), .int .i64 ((rd_T39 (rd_L4 l0 x12_1) x18_2).f7), .int .i64 ((rd_T39 (rd_L4 l0 x12_1) x18_2).f8), .int .i64 ((rd_T39 (rd_L4 l0 x12_1) x18_2).f9), .int .i64 ((rd_T39 (rd_L4 l0 x12_1) x18_2).f10)] 39 (0, 0)) (by (with_reducible repeat (first | refine blk_drewN ?_ _ | refine blk_drew ?_ | refine blk_alloc ?_ _)); refine blk_put (cs := #[.int .i64 ((rd_T39 (rd_L4 l0 x12_1) x18_2).f0), .int .i64 ((rd_T39 (rd_L4 l0 x12_1) x18_2).f1), .int .i64 ((rd_T39 (rd_L4 l0 x12_1) x18_2).f2), .int .i64 ((rd_T39 (rd_L4 l0 x12_1) x18_2).f3), .int .i64 ((rd_T39 (rd_L4 l0 x12_1) x18_2).f4), .int .i64 ((rd_T39 (rd_L4 l0 x12_1) x18_2).f5), .int .i64 ((rd_T39 (rd_L4 l0 x12_1) x18_2).f6), .int .i64 ((rd_T39 (rd_L4 l0 x12_1) x18_2).f7), .int .i64 ((rd_T39 (rd_L4 l0 x12_1) x18_2).f8), .int .i64 ((rd_T39 (rd_L4 l0 x12_1) x18_2).f9), .int .i64 0]) ?_ 10 _ rfl; (with_reducible repeat (first | refine blk_drewN ?_ _ | refine blk_drew ?_ | refine blk_alloc ?_ _)); refine blk_put (cs := #[.int .i64 ((rd_T39 (rd_L4 l0 x12_1) x18_2).f0), .int .i64 ((rd_T39 (rd_L4 l0 x12_1) x18_2).f1), .int .i64 ((rd_T39 (rd_L4 l0 x12_1) x18_2).f2), .int .i64 ((rd_T39 (rd_L4 l0 x12_1) x18_2).f3), .int .i64 ((rd_T39 (rd_L4 l0 x12_1) x18_2).f4), .int .i64 ((rd_T39 (rd_L4 l0 x12_1) x18_2).f5), .int .i64 ((rd_T39 (rd_L4 l0 x12_1) x18_2).f6), .int .i64 ((rd_T39 (rd_L4 l0 x12_1) x18_2).f7), .int .i64 ((rd_T39 (rd_L4 l0 x12_1) x18_2).f8), .int .i64 0, .int .i64 0]) ?_ 9 _ rfl; (with_reducible repeat (first | refine blk_drewN ?_ _ | refine blk_drew ?_ | refine blk_alloc ?_ _)); refine blk_put (cs := #[.int .i64 ((rd_T39 (rd_L4 l0 x12_1) x18_2).f0), .int .i64 ((rd_T39 (rd_L4 l0 x12_1) x18_2).f1), .int .i64 ((rd_T39 (rd_L4 l0 x12_1) x18_2).f2), .int .i64 ((rd_T39 (rd_L4 l0 x12_1) x18_2).f3), .int .i64 ((rd_T39 (rd_L4 l0 x12_1) x18_2).f4), .int .i64 ((rd_T39 (rd_L4 l0 x12_1) x18_2).f5), .int .i64 ((rd_T39 (rd_L4 l0 x12_1) x18_2).f6), .int .i64 ((rd_T39 (rd_L4 l0 x12_1) x18_2).f7), .int .i64 0, .int .i64 0, .int .i64 0]) ?_ 8 _ rfl; (with_reducible repeat (first | refine blk_drewN ?_ _ | refine blk_drew ?_ | refine blk_alloc ?_ _)); refine blk_put (cs := #[.int .i64 ((rd_T39 (rd_L4 l0 x12_1) x18_2).f0), .int .i64 ((rd_T39 (rd_L4 l0 x12_1) x18_2).f1), .int .i64 ((rd_T39 (rd_L4 l0 x12_1) x18_2).f2), .int .i64 ((rd_T39 (rd_L4 l0 x12_1) x18_2).f3), .int .i64 ((rd_T39 (rd_L4 l0 x12_1) x18_2).f4), .int .i64 ((rd_T39 (rd_L4 l0 x12_1) x18_2).f5), .int .i64 ((rd_T39 (rd_L4 l0 x12_1) x18_2).f6), .int .i64 0, .int .i64 0, .int .i64 0, .int .i64 0]) ?_ 7 _ rfl; (with_reducible repeat (first | refine blk_drewN ?_ _ | refine blk_drew ?_ | refine blk_alloc ?_ _)); refine blk_put (cs := #[.int .i64 ((rd_T39 (rd_L4 l0 x12_1) x18_2).f0), .int .i64 ((rd_T39 (rd_L4 l0 x12_1) x18_2).f1), .int .i64 ((rd_T39 (rd_L4 l0 x12_1) x18_2).f2), .int .i64 ((rd_T39 (rd_L4 l0 x12_1) x18_2).f3), .int .i64 ((rd_T39 (rd_L4 l0 x12_1) x18_2).f4), .int .i64 ((rd_T39 (rd_L4 l0 x12_1) x18_2).f5), .int .i64 0, .int .i64 0, .int .i64 0, .int .i64 0, .int .i64 0]) ?_ 6 _ rfl; (with_reducible repeat (first | refine blk_drewN ?_ _ | refine blk_drew ?_ | refine blk_alloc ?_ _)); refine blk_put (cs := #[.int .i64 ((rd_T39 (rd_L4 l0 x12_1) x18_2).f0), .int .i64 ((rd_T39 (rd_L4 l0 x12_1) x18_2).f1), .int .i64 ((rd_T39 (rd_L4 l0 x12_1) x18_2).f2), .int .i64 ((rd_T39 (rd_L4 l0 x12_1) x18_2).f3), .int .i64 ((rd_T39 (rd_L4 l0 x12_1) x18_2).f4), .int .i64 0, .int .i64 0, .int .i64 0, .int .i64 0, .int .i64 0, .int .i64 0]) ?_ 5 _ rfl; (with_reducible repeat (first | refine blk_drewN ?_ _ | refine blk_drew ?_ | refine blk_alloc ?_ _)); refine blk_put (cs := #[.int .i64 ((rd_T39 (rd_L4 l0 x12_1) x18_2).f0), .int .i64 ((rd_T39 (rd_L4 l0 x12_1) x18_2).f1), .int .i64 ((rd_T39 (rd_L4 l0 x12_1) x18_2).f2), .int .i64 ((rd_T39 (rd_L4 l0 x12_1) x18_2).f3), .int .i64 0, .int .i64 0, .int .i64 0, .int .i64 0, .int .i64 0, .int .i64 0, .int .i64 0]) ?_ 4 _ rfl; (with_reducible repeat (first | refine blk_drewN ?_ _ | refine blk_drew ?_ | refine blk_alloc ?_ _)); refine blk_put (cs := #[.int .i64 ((rd_T39 (rd_L4 l0 x12_1) x18_2).f0), .int .i64 ((rd_T39 (rd_L4 l0 x12_1) x18_2).f1), .int .i64 ((rd_T39 (rd_L4 l0 x12_1) x18_2).f2), .int .i64 0, .int .i64 0, .int .i64 0, .int .i64 0, .int .i64 0, .int .i64 0, .int .i64 0, .int .i64 0]) ?_ 3 _ rfl; (with_reducible repeat (first | refine blk_drewN ?_ _ | refine blk_drew ?_ | refine blk_alloc ?_ _)); refine blk_put (cs := #[.int .i64 ((rd_T39 (rd_L4 l0 x12_1) x18_2).f0), .int .i64 ((rd_T39 (rd_L4 l0 x12_1) x18_2).f1), .int .i64 0, .int .i64 0, .int .i64 0, .int .i64 0, .int .i64 0, .int .i64 0, .int .i64 0, .int .i64 0, .int .i64 0]) ?_ 2 _ rfl; (with_reducible repeat (first | refine blk_drewN ?_ _ | refine blk_drew ?_ | refine blk_alloc ?_ _)); refine blk_put (cs := #[.int .i64 ((rd_T39 (rd_L4 l0 x12_1) x18_2).f0), .int .i64 0, .int .i64 0, .int .i64 0, .int .i64 0, .int .i64 0, .int .i64 0, .int .i64 0, .int .i64 0, .int .i64 0, .int .i64 0]) ?_ 1 _ rfl; (with_reducible repeat (first | refine blk_drewN ?_ _ | refine blk_drew ?_ | refine blk_alloc ?_ _)); refine blk_put (cs := #[.int .i64 0, .int .i64 0, .int .i64 0, .int .i64 0, .int .i64 0, .int .i64 0, .int .i64 0, .int .i64 0, .int .i64 0, .int .i64 0, .int .i64 0]) ?_ 0 _ rfl; (with_reducible repeat (first | refine blk_drewN ?_ _ | refine blk_drew ?_ | refine blk_alloc ?_ _)); exact BK195.out) hb); have n1_ := Aside0.mk (below_step (by repeat (first | (with_reducible first | exact HB.out | apply below_alloc | apply pw_below_drewN | apply below_drew1 | refine below_set ?_ GE195.out) | exact HB.out)) hb); clear BK195; clear HB; have BK195 := n0_; have HB := n1_; clear n0_ n1_; (try clear hb); (try clear hb2); (try clear hk); (try clear hi); have hcz16_0 : w15.cell? ⟨gb195, 0, none⟩ = some (.int .i64 ((rd_T39 (rd_L4 l0 x12_1) x18_2).f0)) := (blk_cell BK195.out 0).trans rfl; have hcz16_1 : w15.cell? ⟨gb195, 1, none⟩ = some (.int .i64 ((rd_T39 (rd_L4 l0 x12_1) x18_2).f1)) := (blk_cell BK195.out 1).trans rfl; have hcz16_2 : w15.cell? ⟨gb195, 2, none⟩ = some (.int .i64 ((rd_T39 (rd_L4 l0 x12_1) x18_2).f2)) := (blk_cell BK195.out 2).trans rfl; have hcz16_3 : w15.cell? ⟨gb195, 3, none⟩ = some (.int .i64 ((rd_T39 (rd_L4 l0 x12_1) x18_2).f3)) := (blk_cell BK195.out 3).trans rfl; have hcz16_4 : w15.cell? ⟨gb195, 4, none⟩ = some (.int .i64 ((rd_T39 (rd_L4 l0 x12_1) x18_2).f4)) := (blk_cell BK195.out 4).trans rfl; have hcz16_5 : w15.cell? ⟨gb195, 5, none⟩ = some (.int .i64 ((rd_T39 (rd_L4 l0 x12_1) x18_2).f5)) := (blk_cell BK195.out 5).trans rfl; have hcz16_6 : w15.cell? ⟨gb195, 6, none⟩ = some (.int .i64 ((rd_T39 (rd_L4 l0 x12_1) x18_2).f6)) := (blk_cell BK195.out 6).trans rfl; have hcz16_7 : w15.cell? ⟨gb195, 7, none⟩ = some (.int .i64 ((rd_T39 (rd_L4 l0 x12_1) x18_2).f7)) := (blk_cell BK195.out 7).trans rfl; have hcz16_8 : w15.cell? ⟨gb195, 8, none⟩ = some (.int .i64 ((rd_T39 (rd_L4 l0 x12_1) x18_2).f8)) := (blk_cell BK195.out 8).trans rfl; have hcz16_9 : w15.cell? ⟨gb195, 9, none⟩ = some (.int .i64 ((rd_T39 (rd_L4 l0 x12_1) x18_2).f9)) := (blk_cell BK195.out 9).trans rfl; have hcz16_10 : w15.cell? ⟨gb195, 10, none⟩ = some (.int .i64 ((rd_T39 (rd_L4 l0 x12_1) x18_2).f10)) := (blk_cell BK195.out 10).trans rfl; have hfz16_0 := blk_frozen BK195.out 0; have hfz16_1 := blk_frozen BK195.out 1; have hfz16_2 := blk_frozen BK195.out 2; have hfz16_3 := blk_frozen BK195.out 3; have hfz16_4 := blk_frozen BK195.out 4; have hfz16_5 := blk_frozen BK195.out 5; have hfz16_6 := blk_frozen BK195.out 6; have hfz16_7 := blk_frozen BK195.out 7; have hfz16_8 := blk_frozen BK195.out 8; have hfz16_9 := blk_frozen BK195.out 9; have hfz16_10 := blk_frozen BK195.out 10))
             go_roundg k2
             case measure => have := HK1.out; have := HK2.out; omega
             case rel => exact ⟨(ji12), (wrap64 (x18_2 + 1)), (by first | rfl | (simp; done) | (simp only [← hji12] <;> (first | rfl | simp)) | (simp [*]; done)), (by first | rfl | (simp; done) | (simp [*]; done)), H', ⟨by have := HK1.out; have := HK2.out; omega⟩, ⟨by repeat (first | (with_reducible first | exact HB.out | apply below_alloc | apply pw_below_drewN | apply below_drew1 | refine below_set ?_ GE195.out) | exact HB.out)⟩⟩
            ·rw [if_neg c11] at H
             have c11b0 : (((rd_T39 (rd_L4 l0 x12_1) x18_2).f6) == a1) = false := beq_eq_false_iff_ne.mpr c11
             have c11b1 : (((rd_T39 (rd_L4 l0 x12_1) x18_2).f6) != a1) = true := bne_iff_ne.mpr c11
             have H' := Aside0.mk H
             clear H
             have p194 : 0 ≤ (x18_2 : Int) := of_decide_eq_true (by first | (with_reducible assumption) | assumption)
             have q194 : x18_2 < ((rd_L4 l0 x12_1).length : Int) := of_decide_eq_true (by first | (with_reducible assumption) | assumption)
             obtain ⟨ad194, e194, hx194_0, hx194_1, hx194_2, hx194_3, hx194_4, hx194_5, hx194_6, hx194_7, hx194_8, hx194_9, hx194_10⟩ := at_T39 HR193_0.out x18_2 p194 q194
             cases e194
             replace hx194_0 := (HB.out.cell (World.block_lt_of_cell? w _ hx194_0)).trans hx194_0
             replace hx194_1 := (HB.out.cell (World.block_lt_of_cell? w _ hx194_1)).trans hx194_1
             replace hx194_2 := (HB.out.cell (World.block_lt_of_cell? w _ hx194_2)).trans hx194_2
             replace hx194_3 := (HB.out.cell (World.block_lt_of_cell? w _ hx194_3)).trans hx194_3
             replace hx194_4 := (HB.out.cell (World.block_lt_of_cell? w _ hx194_4)).trans hx194_4
             replace hx194_5 := (HB.out.cell (World.block_lt_of_cell? w _ hx194_5)).trans hx194_5
             replace hx194_6 := (HB.out.cell (World.block_lt_of_cell? w _ hx194_6)).trans hx194_6
             replace hx194_7 := (HB.out.cell (World.block_lt_of_cell? w _ hx194_7)).trans hx194_7
             replace hx194_8 := (HB.out.cell (World.block_lt_of_cell? w _ hx194_8)).trans hx194_8
             replace hx194_9 := (HB.out.cell (World.block_lt_of_cell? w _ hx194_9)).trans hx194_9
             replace hx194_10 := (HB.out.cell (World.block_lt_of_cell? w _ hx194_10)).trans hx194_10
             replace p194 := eq_true p194
             replace q194 := eq_true q194
             go_wp2_with (first | ((with_reducible refine gate_dst (N := 9) rfl ?_); refine box_event ?hg (N := 9) ?hd (cs := #[.int .i64 0, .int .i64 0, .int .i64 0, .int .i64 0, .int .i64 0, .int .i64 0, .int .i64 0, .int .i64 0, .int .i64 0, .int .i64 0, .int .i64 0]) (t := 39) ?hr ?_; (case hd => rfl); (case hg => rfl); (case hr => first | (go_simp; done) | (go_simp; rfl)); intro gb195 hg w17 hbox hb; have n0_ := Aside0.mk (below_step (by repeat (first | (with_reducible first | exact HB.out | apply below_alloc | apply pw_below_drewN | apply below_drew1) | exact HB.out)) hb); have n1_ := Aside0.mk (hbox); have n2_ := Aside0.mk ((by rw [hg]; exact (below_size (by repeat (first | (with_reducible first | exact HB.out | apply below_alloc | apply pw_below_drewN | apply below_drew1) | exact HB.out))) : w.heap.size ≤ gb195)); have n3_ := Aside0.mk ((by rw [hg]; exact (below_size (by repeat (first | (with_reducible first | exact HB.out | apply below_alloc | apply pw_below_drewN | apply below_drew1) | exact HB.out))) : w.heap.size ≤ gb195)); clear HB; have HB := n0_; have BK195 := n1_; have GW195 := n2_; have GE195 := n3_; clear n0_ n1_ n2_ n3_; clear hb hbox hg; have hcz18_0 : w17.cell? ⟨gb195, 0, none⟩ = some (.int .i64 0) := (blk_cell BK195.out 0).trans rfl; have hcz18_1 : w17.cell? ⟨gb195, 1, none⟩ = some (.int .i64 0) := (blk_cell BK195.out 1).trans rfl; have hcz18_2 : w17.cell? ⟨gb195, 2, none⟩ = some (.int .i64 0) := (blk_cell BK195.out 2).trans rfl; have hcz18_3 : w17.cell? ⟨gb195, 3, none⟩ = some (.int .i64 0) := (blk_cell BK195.out 3).trans rfl; have hcz18_4 : w17.cell? ⟨gb195, 4, none⟩ = some (.int .i64 0) := (blk_cell BK195.out 4).trans rfl; have hcz18_5 : w17.cell? ⟨gb195, 5, none⟩ = some (.int .i64 0) := (blk_cell BK195.out 5).trans rfl; have hcz18_6 : w17.cell? ⟨gb195, 6, none⟩ = some (.int .i64 0) := (blk_cell BK195.out 6).trans rfl; have hcz18_7 : w17.cell? ⟨gb195, 7, none⟩ = some (.int .i64 0) := (blk_cell BK195.out 7).trans rfl; have hcz18_8 : w17.cell? ⟨gb195, 8, none⟩ = some (.int .i64 0) := (blk_cell BK195.out 8).trans rfl; have hcz18_9 : w17.cell? ⟨gb195, 9, none⟩ = some (.int .i64 0) := (blk_cell BK195.out 9).trans rfl; have hcz18_10 : w17.cell? ⟨gb195, 10, none⟩ = some (.int .i64 0) := (blk_cell BK195.out 10).trans rfl; have hfz18_0 := blk_frozen BK195.out 0; have hfz18_1 := blk_frozen BK195.out 1; have hfz18_2 := blk_frozen BK195.out 2; have hfz18_3 := blk_frozen BK195.out 3; have hfz18_4 := blk_frozen BK195.out 4; have hfz18_5 := blk_frozen BK195.out 5; have hfz18_6 := blk_frozen BK195.out 6; have hfz18_7 := blk_frozen BK195.out 7; have hfz18_8 := blk_frozen BK195.out 8; have hfz18_9 := blk_frozen BK195.out 9; have hfz18_10 := blk_frozen BK195.out 10) | ((with_reducible refine gate_callee (f := 67) rfl ?_); refine goesL_ (some 23) rfl rfl Tryd.func67 (by kernel_rfl) rfl #[.agg #[.int .i64 ((rd_T39 (rd_L4 l0 x12_1) x18_2).f0), .int .i64 ((rd_T39 (rd_L4 l0 x12_1) x18_2).f1), .int .i64 ((rd_T39 (rd_L4 l0 x12_1) x18_2).f2), .int .i64 ((rd_T39 (rd_L4 l0 x12_1) x18_2).f3), .int .i64 ((rd_T39 (rd_L4 l0 x12_1) x18_2).f4), .int .i64 ((rd_T39 (rd_L4 l0 x12_1) x18_2).f5), .int .i64 ((rd_T39 (rd_L4 l0 x12_1) x18_2).f6), .int .i64 ((rd_T39 (rd_L4 l0 x12_1) x18_2).f7), .int .i64 ((rd_T39 (rd_L4 l0 x12_1) x18_2).f8), .int .i64 ((rd_T39 (rd_L4 l0 x12_1) x18_2).f9), .int .i64 ((rd_T39 (rd_L4 l0 x12_1) x18_2).f10)]] rfl (by (try simp only [List.map_toArray, List.map_cons, List.map_nil]); first | done | rfl | (simp only [List.length_drop, List.length_take]; rfl)) ?_; (with_reducible refine (storagebarterref16_term.calls k2 ((rd_T39 (rd_L4 l0 x12_1) x18_2).f0) ((rd_T39 (rd_L4 l0 x12_1) x18_2).f1) ((rd_T39 (rd_L4 l0 x12_1) x18_2).f2) ((rd_T39 (rd_L4 l0 x12_1) x18_2).f3) ((rd_T39 (rd_L4 l0 x12_1) x18_2).f4) ((rd_T39 (rd_L4 l0 x12_1) x18_2).f5) ((rd_T39 (rd_L4 l0 x12_1) x18_2).f6) ((rd_T39 (rd_L4 l0 x12_1) x18_2).f7) ((rd_T39 (rd_L4 l0 x12_1) x18_2).f8) ((rd_T39 (rd_L4 l0 x12_1) x18_2).f9) ((rd_T39 (rd_L4 l0 x12_1) x18_2).f10) true _ A9.out).mono ?_); rintro e w19 ⟨rfl, hb⟩; refine ⟨_, rfl, ?_⟩; have n0_ := Aside0.mk (blk_below (g := gb195) (o := .cells #[.int .i64 ((rd_T39 (rd_L4 l0 x12_1) x18_2).f0), .int .i64 ((rd_T39 (rd_L4 l0 x12_1) x18_2).f1), .int .i64 ((rd_T39 (rd_L4 l0 x12_1) x18_2).f2), .int .i64 ((rd_T39 (rd_L4 l0 x12_1) x18_2).f3), .int .i64 ((rd_T39 (rd_L4 l0 x12_1) x18_2).f4), .int .i64 ((rd_T39 (rd_L4 l0 x12_1) x18_2).f5), .int .i64 ((rd_T39 (rd_L4 l0 x12_1) x18_2).f6), .int .i64 ((rd_T39 (rd_L4 l0 x12_1) x18_2).f7), .int .i64 ((rd_T39 (rd_L4 l0 x12_1) x18_2).f8), .int .i64 ((rd_T39 (rd_L4 l0 x12_1) x18_2).f9), .int .i64 ((rd_T39 (rd_L4 l0 x12_1) x18_2).f10)] 39 (0, 0)) (by (with_reducible repeat (first | refine blk_drewN ?_ _ | refine blk_drew ?_ | refine blk_alloc ?_ _)); refine blk_put (cs := #[.int .i64 ((rd_T39 (rd_L4 l0 x12_1) x18_2).f0), .int .i64 ((rd_T39 (rd_L4 l0 x12_1) x18_2).f1), .int .i64 ((rd_T39 (rd_L4 l0 x12_1) x18_2).f2), .int .i64 ((rd_T39 (rd_L4 l0 x12_1) x18_2).f3), .int .i64 ((rd_T39 (rd_L4 l0 x12_1) x18_2).f4), .int .i64 ((rd_T39 (rd_L4 l0 x12_1) x18_2).f5), .int .i64 ((rd_T39 (rd_L4 l0 x12_1) x18_2).f6), .int .i64 ((rd_T39 (rd_L4 l0 x12_1) x18_2).f7), .int .i64 ((rd_T39 (rd_L4 l0 x12_1) x18_2).f8), .int .i64 ((rd_T39 (rd_L4 l0 x12_1) x18_2).f9), .int .i64 0]) ?_ 10 _ rfl; (with_reducible repeat (first | refine blk_drewN ?_ _ | refine blk_drew ?_ | refine blk_alloc ?_ _)); refine blk_put (cs := #[.int .i64 ((rd_T39 (rd_L4 l0 x12_1) x18_2).f0), .int .i64 ((rd_T39 (rd_L4 l0 x12_1) x18_2).f1), .int .i64 ((rd_T39 (rd_L4 l0 x12_1) x18_2).f2), .int .i64 ((rd_T39 (rd_L4 l0 x12_1) x18_2).f3), .int .i64 ((rd_T39 (rd_L4 l0 x12_1) x18_2).f4), .int .i64 ((rd_T39 (rd_L4 l0 x12_1) x18_2).f5), .int .i64 ((rd_T39 (rd_L4 l0 x12_1) x18_2).f6), .int .i64 ((rd_T39 (rd_L4 l0 x12_1) x18_2).f7), .int .i64 ((rd_T39 (rd_L4 l0 x12_1) x18_2).f8), .int .i64 0, .int .i64 0]) ?_ 9 _ rfl; (with_reducible repeat (first | refine blk_drewN ?_ _ | refine blk_drew ?_ | refine blk_alloc ?_ _)); refine blk_put (cs := #[.int .i64 ((rd_T39 (rd_L4 l0 x12_1) x18_2).f0), .int .i64 ((rd_T39 (rd_L4 l0 x12_1) x18_2).f1), .int .i64 ((rd_T39 (rd_L4 l0 x12_1) x18_2).f2), .int .i64 ((rd_T39 (rd_L4 l0 x12_1) x18_2).f3), .int .i64 ((rd_T39 (rd_L4 l0 x12_1) x18_2).f4), .int .i64 ((rd_T39 (rd_L4 l0 x12_1) x18_2).f5), .int .i64 ((rd_T39 (rd_L4 l0 x12_1) x18_2).f6), .int .i64 ((rd_T39 (rd_L4 l0 x12_1) x18_2).f7), .int .i64 0, .int .i64 0, .int .i64 0]) ?_ 8 _ rfl; (with_reducible repeat (first | refine blk_drewN ?_ _ | refine blk_drew ?_ | refine blk_alloc ?_ _)); refine blk_put (cs := #[.int .i64 ((rd_T39 (rd_L4 l0 x12_1) x18_2).f0), .int .i64 ((rd_T39 (rd_L4 l0 x12_1) x18_2).f1), .int .i64 ((rd_T39 (rd_L4 l0 x12_1) x18_2).f2), .int .i64 ((rd_T39 (rd_L4 l0 x12_1) x18_2).f3), .int .i64 ((rd_T39 (rd_L4 l0 x12_1) x18_2).f4), .int .i64 ((rd_T39 (rd_L4 l0 x12_1) x18_2).f5), .int .i64 ((rd_T39 (rd_L4 l0 x12_1) x18_2).f6), .int .i64 0, .int .i64 0, .int .i64 0, .int .i64 0]) ?_ 7 _ rfl; (with_reducible repeat (first | refine blk_drewN ?_ _ | refine blk_drew ?_ | refine blk_alloc ?_ _)); refine blk_put (cs := #[.int .i64 ((rd_T39 (rd_L4 l0 x12_1) x18_2).f0), .int .i64 ((rd_T39 (rd_L4 l0 x12_1) x18_2).f1), .int .i64 ((rd_T39 (rd_L4 l0 x12_1) x18_2).f2), .int .i64 ((rd_T39 (rd_L4 l0 x12_1) x18_2).f3), .int .i64 ((rd_T39 (rd_L4 l0 x12_1) x18_2).f4), .int .i64 ((rd_T39 (rd_L4 l0 x12_1) x18_2).f5), .int .i64 0, .int .i64 0, .int .i64 0, .int .i64 0, .int .i64 0]) ?_ 6 _ rfl; (with_reducible repeat (first | refine blk_drewN ?_ _ | refine blk_drew ?_ | refine blk_alloc ?_ _)); refine blk_put (cs := #[.int .i64 ((rd_T39 (rd_L4 l0 x12_1) x18_2).f0), .int .i64 ((rd_T39 (rd_L4 l0 x12_1) x18_2).f1), .int .i64 ((rd_T39 (rd_L4 l0 x12_1) x18_2).f2), .int .i64 ((rd_T39 (rd_L4 l0 x12_1) x18_2).f3), .int .i64 ((rd_T39 (rd_L4 l0 x12_1) x18_2).f4), .int .i64 0, .int .i64 0, .int .i64 0, .int .i64 0, .int .i64 0, .int .i64 0]) ?_ 5 _ rfl; (with_reducible repeat (first | refine blk_drewN ?_ _ | refine blk_drew ?_ | refine blk_alloc ?_ _)); refine blk_put (cs := #[.int .i64 ((rd_T39 (rd_L4 l0 x12_1) x18_2).f0), .int .i64 ((rd_T39 (rd_L4 l0 x12_1) x18_2).f1), .int .i64 ((rd_T39 (rd_L4 l0 x12_1) x18_2).f2), .int .i64 ((rd_T39 (rd_L4 l0 x12_1) x18_2).f3), .int .i64 0, .int .i64 0, .int .i64 0, .int .i64 0, .int .i64 0, .int .i64 0, .int .i64 0]) ?_ 4 _ rfl; (with_reducible repeat (first | refine blk_drewN ?_ _ | refine blk_drew ?_ | refine blk_alloc ?_ _)); refine blk_put (cs := #[.int .i64 ((rd_T39 (rd_L4 l0 x12_1) x18_2).f0), .int .i64 ((rd_T39 (rd_L4 l0 x12_1) x18_2).f1), .int .i64 ((rd_T39 (rd_L4 l0 x12_1) x18_2).f2), .int .i64 0, .int .i64 0, .int .i64 0, .int .i64 0, .int .i64 0, .int .i64 0, .int .i64 0, .int .i64 0]) ?_ 3 _ rfl; (with_reducible repeat (first | refine blk_drewN ?_ _ | refine blk_drew ?_ | refine blk_alloc ?_ _)); refine blk_put (cs := #[.int .i64 ((rd_T39 (rd_L4 l0 x12_1) x18_2).f0), .int .i64 ((rd_T39 (rd_L4 l0 x12_1) x18_2).f1), .int .i64 0, .int .i64 0, .int .i64 0, .int .i64 0, .int .i64 0, .int .i64 0, .int .i64 0, .int .i64 0, .int .i64 0]) ?_ 2 _ rfl; (with_reducible repeat (first | refine blk_drewN ?_ _ | refine blk_drew ?_ | refine blk_alloc ?_ _)); refine blk_put (cs := #[.int .i64 ((rd_T39 (rd_L4 l0 x12_1) x18_2).f0), .int .i64 0, .int .i64 0, .int .i64 0, .int .i64 0, .int .i64 0, .int .i64 0, .int .i64 0, .int .i64 0, .int .i64 0, .int .i64 0]) ?_ 1 _ rfl; (with_reducible repeat (first | refine blk_drewN ?_ _ | refine blk_drew ?_ | refine blk_alloc ?_ _)); refine blk_put (cs := #[.int .i64 0, .int .i64 0, .int .i64 0, .int .i64 0, .int .i64 0, .int .i64 0, .int .i64 0, .int .i64 0, .int .i64 0, .int .i64 0, .int .i64 0]) ?_ 0 _ rfl; (with_reducible repeat (first | refine blk_drewN ?_ _ | refine blk_drew ?_ | refine blk_alloc ?_ _)); exact BK195.out) hb); have n1_ := Aside0.mk (below_step (by repeat (first | (with_reducible first | exact HB.out | apply below_alloc | apply pw_below_drewN | apply below_drew1 | refine below_set ?_ GE195.out) | exact HB.out)) hb); clear BK195; clear HB; have BK195 := n0_; have HB := n1_; clear n0_ n1_; (try clear hb); (try clear hb2); (try clear hk); (try clear hi); have hcz20_0 : w19.cell? ⟨gb195, 0, none⟩ = some (.int .i64 ((rd_T39 (rd_L4 l0 x12_1) x18_2).f0)) := (blk_cell BK195.out 0).trans rfl; have hcz20_1 : w19.cell? ⟨gb195, 1, none⟩ = some (.int .i64 ((rd_T39 (rd_L4 l0 x12_1) x18_2).f1)) := (blk_cell BK195.out 1).trans rfl; have hcz20_2 : w19.cell? ⟨gb195, 2, none⟩ = some (.int .i64 ((rd_T39 (rd_L4 l0 x12_1) x18_2).f2)) := (blk_cell BK195.out 2).trans rfl; have hcz20_3 : w19.cell? ⟨gb195, 3, none⟩ = some (.int .i64 ((rd_T39 (rd_L4 l0 x12_1) x18_2).f3)) := (blk_cell BK195.out 3).trans rfl; have hcz20_4 : w19.cell? ⟨gb195, 4, none⟩ = some (.int .i64 ((rd_T39 (rd_L4 l0 x12_1) x18_2).f4)) := (blk_cell BK195.out 4).trans rfl; have hcz20_5 : w19.cell? ⟨gb195, 5, none⟩ = some (.int .i64 ((rd_T39 (rd_L4 l0 x12_1) x18_2).f5)) := (blk_cell BK195.out 5).trans rfl; have hcz20_6 : w19.cell? ⟨gb195, 6, none⟩ = some (.int .i64 ((rd_T39 (rd_L4 l0 x12_1) x18_2).f6)) := (blk_cell BK195.out 6).trans rfl; have hcz20_7 : w19.cell? ⟨gb195, 7, none⟩ = some (.int .i64 ((rd_T39 (rd_L4 l0 x12_1) x18_2).f7)) := (blk_cell BK195.out 7).trans rfl; have hcz20_8 : w19.cell? ⟨gb195, 8, none⟩ = some (.int .i64 ((rd_T39 (rd_L4 l0 x12_1) x18_2).f8)) := (blk_cell BK195.out 8).trans rfl; have hcz20_9 : w19.cell? ⟨gb195, 9, none⟩ = some (.int .i64 ((rd_T39 (rd_L4 l0 x12_1) x18_2).f9)) := (blk_cell BK195.out 9).trans rfl; have hcz20_10 : w19.cell? ⟨gb195, 10, none⟩ = some (.int .i64 ((rd_T39 (rd_L4 l0 x12_1) x18_2).f10)) := (blk_cell BK195.out 10).trans rfl; have hfz20_0 := blk_frozen BK195.out 0; have hfz20_1 := blk_frozen BK195.out 1; have hfz20_2 := blk_frozen BK195.out 2; have hfz20_3 := blk_frozen BK195.out 3; have hfz20_4 := blk_frozen BK195.out 4; have hfz20_5 := blk_frozen BK195.out 5; have hfz20_6 := blk_frozen BK195.out 6; have hfz20_7 := blk_frozen BK195.out 7; have hfz20_8 := blk_frozen BK195.out 8; have hfz20_9 := blk_frozen BK195.out 9; have hfz20_10 := blk_frozen BK195.out 10))
             go_roundg k2
             case measure => have := HK1.out; have := HK2.out; omega
             case rel => exact ⟨(x5_2), (wrap64 (x18_2 + 1)), (by first | rfl | (simp; done) | (simp [*]; done)), (by first | rfl | (simp; done) | (simp [*]; done)), H', ⟨by have := HK1.out; have := HK2.out; omega⟩, ⟨by repeat (first | (with_reducible first | exact HB.out | apply below_alloc | apply pw_below_drewN | apply below_drew1 | refine below_set ?_ GE195.out) | exact HB.out)⟩⟩
           ·replace c10 := Bool.eq_false_iff.mpr c10
            subst c10
            have H1 : (storagebarterref16_Until.l1 k2 a1 x5_2 l0 (l0.length : Int) x12_1 (rd_L4 l0 x12_1) ((rd_L4 l0 x12_1).length : Int) (wrap64 (x18_2 + 1))) = some r := by rw [if_neg (show ¬ (false = true) by decide)] at H; exact H
            clear H
            have H := H1
            clear H1
            have H' := Aside0.mk H
            clear H
            have p194 : 0 ≤ (x18_2 : Int) := of_decide_eq_true (by first | (with_reducible assumption) | assumption)
            have q194 : x18_2 < ((rd_L4 l0 x12_1).length : Int) := of_decide_eq_true (by first | (with_reducible assumption) | assumption)
            obtain ⟨ad194, e194, hx194_0, hx194_1, hx194_2, hx194_3, hx194_4, hx194_5, hx194_6, hx194_7, hx194_8, hx194_9, hx194_10⟩ := at_T39 HR193_0.out x18_2 p194 q194
            cases e194
            replace hx194_0 := (HB.out.cell (World.block_lt_of_cell? w _ hx194_0)).trans hx194_0
            replace hx194_1 := (HB.out.cell (World.block_lt_of_cell? w _ hx194_1)).trans hx194_1
            replace hx194_2 := (HB.out.cell (World.block_lt_of_cell? w _ hx194_2)).trans hx194_2
            replace hx194_3 := (HB.out.cell (World.block_lt_of_cell? w _ hx194_3)).trans hx194_3
            replace hx194_4 := (HB.out.cell (World.block_lt_of_cell? w _ hx194_4)).trans hx194_4
            replace hx194_5 := (HB.out.cell (World.block_lt_of_cell? w _ hx194_5)).trans hx194_5
            replace hx194_6 := (HB.out.cell (World.block_lt_of_cell? w _ hx194_6)).trans hx194_6
            replace hx194_7 := (HB.out.cell (World.block_lt_of_cell? w _ hx194_7)).trans hx194_7
            replace hx194_8 := (HB.out.cell (World.block_lt_of_cell? w _ hx194_8)).trans hx194_8
            replace hx194_9 := (HB.out.cell (World.block_lt_of_cell? w _ hx194_9)).trans hx194_9
            replace hx194_10 := (HB.out.cell (World.block_lt_of_cell? w _ hx194_10)).trans hx194_10
            replace p194 := eq_true p194
            replace q194 := eq_true q194
            go_wp2_with (first | ((with_reducible refine gate_dst (N := 9) rfl ?_); refine box_event ?hg (N := 9) ?hd (cs := #[.int .i64 0, .int .i64 0, .int .i64 0, .int .i64 0, .int .i64 0, .int .i64 0, .int .i64 0, .int .i64 0, .int .i64 0, .int .i64 0, .int .i64 0]) (t := 39) ?hr ?_; (case hd => rfl); (case hg => rfl); (case hr => first | (go_simp; done) | (go_simp; rfl)); intro gb195 hg w21 hbox hb; have n0_ := Aside0.mk (below_step (by repeat (first | (with_reducible first | exact HB.out | apply below_alloc | apply pw_below_drewN | apply below_drew1) | exact HB.out)) hb); have n1_ := Aside0.mk (hbox); have n2_ := Aside0.mk ((by rw [hg]; exact (below_size (by repeat (first | (with_reducible first | exact HB.out | apply below_alloc | apply pw_below_drewN | apply below_drew1) | exact HB.out))) : w.heap.size ≤ gb195)); have n3_ := Aside0.mk ((by rw [hg]; exact (below_size (by repeat (first | (with_reducible first | exact HB.out | apply below_alloc | apply pw_below_drewN | apply below_drew1) | exact HB.out))) : w.heap.size ≤ gb195)); clear HB; have HB := n0_; have BK195 := n1_; have GW195 := n2_; have GE195 := n3_; clear n0_ n1_ n2_ n3_; clear hb hbox hg; have hcz22_0 : w21.cell? ⟨gb195, 0, none⟩ = some (.int .i64 0) := (blk_cell BK195.out 0).trans rfl; have hcz22_1 : w21.cell? ⟨gb195, 1, none⟩ = some (.int .i64 0) := (blk_cell BK195.out 1).trans rfl; have hcz22_2 : w21.cell? ⟨gb195, 2, none⟩ = some (.int .i64 0) := (blk_cell BK195.out 2).trans rfl; have hcz22_3 : w21.cell? ⟨gb195, 3, none⟩ = some (.int .i64 0) := (blk_cell BK195.out 3).trans rfl; have hcz22_4 : w21.cell? ⟨gb195, 4, none⟩ = some (.int .i64 0) := (blk_cell BK195.out 4).trans rfl; have hcz22_5 : w21.cell? ⟨gb195, 5, none⟩ = some (.int .i64 0) := (blk_cell BK195.out 5).trans rfl; have hcz22_6 : w21.cell? ⟨gb195, 6, none⟩ = some (.int .i64 0) := (blk_cell BK195.out 6).trans rfl; have hcz22_7 : w21.cell? ⟨gb195, 7, none⟩ = some (.int .i64 0) := (blk_cell BK195.out 7).trans rfl; have hcz22_8 : w21.cell? ⟨gb195, 8, none⟩ = some (.int .i64 0) := (blk_cell BK195.out 8).trans rfl; have hcz22_9 : w21.cell? ⟨gb195, 9, none⟩ = some (.int .i64 0) := (blk_cell BK195.out 9).trans rfl; have hcz22_10 : w21.cell? ⟨gb195, 10, none⟩ = some (.int .i64 0) := (blk_cell BK195.out 10).trans rfl; have hfz22_0 := blk_frozen BK195.out 0; have hfz22_1 := blk_frozen BK195.out 1; have hfz22_2 := blk_frozen BK195.out 2; have hfz22_3 := blk_frozen BK195.out 3; have hfz22_4 := blk_frozen BK195.out 4; have hfz22_5 := blk_frozen BK195.out 5; have hfz22_6 := blk_frozen BK195.out 6; have hfz22_7 := blk_frozen BK195.out 7; have hfz22_8 := blk_frozen BK195.out 8; have hfz22_9 := blk_frozen BK195.out 9; have hfz22_10 := blk_frozen BK195.out 10) | ((with_reducible refine gate_callee (f := 67) rfl ?_); refine goesL_ (some 23) rfl rfl Tryd.func67 (by kernel_rfl) rfl #[.agg #[.int .i64 ((rd_T39 (rd_L4 l0 x12_1) x18_2).f0), .int .i64 ((rd_T39 (rd_L4 l0 x12_1) x18_2).f1), .int .i64 ((rd_T39 (rd_L4 l0 x12_1) x18_2).f2), .int .i64 ((rd_T39 (rd_L4 l0 x12_1) x18_2).f3), .int .i64 ((rd_T39 (rd_L4 l0 x12_1) x18_2).f4), .int .i64 ((rd_T39 (rd_L4 l0 x12_1) x18_2).f5), .int .i64 ((rd_T39 (rd_L4 l0 x12_1) x18_2).f6), .int .i64 ((rd_T39 (rd_L4 l0 x12_1) x18_2).f7), .int .i64 ((rd_T39 (rd_L4 l0 x12_1) x18_2).f8), .int .i64 ((rd_T39 (rd_L4 l0 x12_1) x18_2).f9), .int .i64 ((rd_T39 (rd_L4 l0 x12_1) x18_2).f10)]] rfl (by (try simp only [List.map_toArray, List.map_cons, List.map_nil]); first | done | rfl | (simp only [List.length_drop, List.length_take]; rfl)) ?_; (with_reducible refine (storagebarterref16_term.calls k2 ((rd_T39 (rd_L4 l0 x12_1) x18_2).f0) ((rd_T39 (rd_L4 l0 x12_1) x18_2).f1) ((rd_T39 (rd_L4 l0 x12_1) x18_2).f2) ((rd_T39 (rd_L4 l0 x12_1) x18_2).f3) ((rd_T39 (rd_L4 l0 x12_1) x18_2).f4) ((rd_T39 (rd_L4 l0 x12_1) x18_2).f5) ((rd_T39 (rd_L4 l0 x12_1) x18_2).f6) ((rd_T39 (rd_L4 l0 x12_1) x18_2).f7) ((rd_T39 (rd_L4 l0 x12_1) x18_2).f8) ((rd_T39 (rd_L4 l0 x12_1) x18_2).f9) ((rd_T39 (rd_L4 l0 x12_1) x18_2).f10) false _ A9.out).mono ?_); rintro e w23 ⟨rfl, hb⟩; refine ⟨_, rfl, ?_⟩; have n0_ := Aside0.mk (blk_below (g := gb195) (o := .cells #[.int .i64 ((rd_T39 (rd_L4 l0 x12_1) x18_2).f0), .int .i64 ((rd_T39 (rd_L4 l0 x12_1) x18_2).f1), .int .i64 ((rd_T39 (rd_L4 l0 x12_1) x18_2).f2), .int .i64 ((rd_T39 (rd_L4 l0 x12_1) x18_2).f3), .int .i64 ((rd_T39 (rd_L4 l0 x12_1) x18_2).f4), .int .i64 ((rd_T39 (rd_L4 l0 x12_1) x18_2).f5), .int .i64 ((rd_T39 (rd_L4 l0 x12_1) x18_2).f6), .int .i64 ((rd_T39 (rd_L4 l0 x12_1) x18_2).f7), .int .i64 ((rd_T39 (rd_L4 l0 x12_1) x18_2).f8), .int .i64 ((rd_T39 (rd_L4 l0 x12_1) x18_2).f9), .int .i64 ((rd_T39 (rd_L4 l0 x12_1) x18_2).f10)] 39 (0, 0)) (by (with_reducible repeat (first | refine blk_drewN ?_ _ | refine blk_drew ?_ | refine blk_alloc ?_ _)); refine blk_put (cs := #[.int .i64 ((rd_T39 (rd_L4 l0 x12_1) x18_2).f0), .int .i64 ((rd_T39 (rd_L4 l0 x12_1) x18_2).f1), .int .i64 ((rd_T39 (rd_L4 l0 x12_1) x18_2).f2), .int .i64 ((rd_T39 (rd_L4 l0 x12_1) x18_2).f3), .int .i64 ((rd_T39 (rd_L4 l0 x12_1) x18_2).f4), .int .i64 ((rd_T39 (rd_L4 l0 x12_1) x18_2).f5), .int .i64 ((rd_T39 (rd_L4 l0 x12_1) x18_2).f6), .int .i64 ((rd_T39 (rd_L4 l0 x12_1) x18_2).f7), .int .i64 ((rd_T39 (rd_L4 l0 x12_1) x18_2).f8), .int .i64 ((rd_T39 (rd_L4 l0 x12_1) x18_2).f9), .int .i64 0]) ?_ 10 _ rfl; (with_reducible repeat (first | refine blk_drewN ?_ _ | refine blk_drew ?_ | refine blk_alloc ?_ _)); refine blk_put (cs := #[.int .i64 ((rd_T39 (rd_L4 l0 x12_1) x18_2).f0), .int .i64 ((rd_T39 (rd_L4 l0 x12_1) x18_2).f1), .int .i64 ((rd_T39 (rd_L4 l0 x12_1) x18_2).f2), .int .i64 ((rd_T39 (rd_L4 l0 x12_1) x18_2).f3), .int .i64 ((rd_T39 (rd_L4 l0 x12_1) x18_2).f4), .int .i64 ((rd_T39 (rd_L4 l0 x12_1) x18_2).f5), .int .i64 ((rd_T39 (rd_L4 l0 x12_1) x18_2).f6), .int .i64 ((rd_T39 (rd_L4 l0 x12_1) x18_2).f7), .int .i64 ((rd_T39 (rd_L4 l0 x12_1) x18_2).f8), .int .i64 0, .int .i64 0]) ?_ 9 _ rfl; (with_reducible repeat (first | refine blk_drewN ?_ _ | refine blk_drew ?_ | refine blk_alloc ?_ _)); refine blk_put (cs := #[.int .i64 ((rd_T39 (rd_L4 l0 x12_1) x18_2).f0), .int .i64 ((rd_T39 (rd_L4 l0 x12_1) x18_2).f1), .int .i64 ((rd_T39 (rd_L4 l0 x12_1) x18_2).f2), .int .i64 ((rd_T39 (rd_L4 l0 x12_1) x18_2).f3), .int .i64 ((rd_T39 (rd_L4 l0 x12_1) x18_2).f4), .int .i64 ((rd_T39 (rd_L4 l0 x12_1) x18_2).f5), .int .i64 ((rd_T39 (rd_L4 l0 x12_1) x18_2).f6), .int .i64 ((rd_T39 (rd_L4 l0 x12_1) x18_2).f7), .int .i64 0, .int .i64 0, .int .i64 0]) ?_ 8 _ rfl; (with_reducible repeat (first | refine blk_drewN ?_ _ | refine blk_drew ?_ | refine blk_alloc ?_ _)); refine blk_put (cs := #[.int .i64 ((rd_T39 (rd_L4 l0 x12_1) x18_2).f0), .int .i64 ((rd_T39 (rd_L4 l0 x12_1) x18_2).f1), .int .i64 ((rd_T39 (rd_L4 l0 x12_1) x18_2).f2), .int .i64 ((rd_T39 (rd_L4 l0 x12_1) x18_2).f3), .int .i64 ((rd_T39 (rd_L4 l0 x12_1) x18_2).f4), .int .i64 ((rd_T39 (rd_L4 l0 x12_1) x18_2).f5), .int .i64 ((rd_T39 (rd_L4 l0 x12_1) x18_2).f6), .int .i64 0, .int .i64 0, .int .i64 0, .int .i64 0]) ?_ 7 _ rfl; (with_reducible repeat (first | refine blk_drewN ?_ _ | refine blk_drew ?_ | refine blk_alloc ?_ _)); refine blk_put (cs := #[.int .i64 ((rd_T39 (rd_L4 l0 x12_1) x18_2).f0), .int .i64 ((rd_T39 (rd_L4 l0 x12_1) x18_2).f1), .int .i64 ((rd_T39 (rd_L4 l0 x12_1) x18_2).f2), .int .i64 ((rd_T39 (rd_L4 l0 x12_1) x18_2).f3), .int .i64 ((rd_T39 (rd_L4 l0 x12_1) x18_2).f4), .int .i64 ((rd_T39 (rd_L4 l0 x12_1) x18_2).f5), .int .i64 0, .int .i64 0, .int .i64 0, .int .i64 0, .int .i64 0]) ?_ 6 _ rfl; (with_reducible repeat (first | refine blk_drewN ?_ _ | refine blk_drew ?_ | refine blk_alloc ?_ _)); refine blk_put (cs := #[.int .i64 ((rd_T39 (rd_L4 l0 x12_1) x18_2).f0), .int .i64 ((rd_T39 (rd_L4 l0 x12_1) x18_2).f1), .int .i64 ((rd_T39 (rd_L4 l0 x12_1) x18_2).f2), .int .i64 ((rd_T39 (rd_L4 l0 x12_1) x18_2).f3), .int .i64 ((rd_T39 (rd_L4 l0 x12_1) x18_2).f4), .int .i64 0, .int .i64 0, .int .i64 0, .int .i64 0, .int .i64 0, .int .i64 0]) ?_ 5 _ rfl; (with_reducible repeat (first | refine blk_drewN ?_ _ | refine blk_drew ?_ | refine blk_alloc ?_ _)); refine blk_put (cs := #[.int .i64 ((rd_T39 (rd_L4 l0 x12_1) x18_2).f0), .int .i64 ((rd_T39 (rd_L4 l0 x12_1) x18_2).f1), .int .i64 ((rd_T39 (rd_L4 l0 x12_1) x18_2).f2), .int .i64 ((rd_T39 (rd_L4 l0 x12_1) x18_2).f3), .int .i64 0, .int .i64 0, .int .i64 0, .int .i64 0, .int .i64 0, .int .i64 0, .int .i64 0]) ?_ 4 _ rfl; (with_reducible repeat (first | refine blk_drewN ?_ _ | refine blk_drew ?_ | refine blk_alloc ?_ _)); refine blk_put (cs := #[.int .i64 ((rd_T39 (rd_L4 l0 x12_1) x18_2).f0), .int .i64 ((rd_T39 (rd_L4 l0 x12_1) x18_2).f1), .int .i64 ((rd_T39 (rd_L4 l0 x12_1) x18_2).f2), .int .i64 0, .int .i64 0, .int .i64 0, .int .i64 0, .int .i64 0, .int .i64 0, .int .i64 0, .int .i64 0]) ?_ 3 _ rfl; (with_reducible repeat (first | refine blk_drewN ?_ _ | refine blk_drew ?_ | refine blk_alloc ?_ _)); refine blk_put (cs := #[.int .i64 ((rd_T39 (rd_L4 l0 x12_1) x18_2).f0), .int .i64 ((rd_T39 (rd_L4 l0 x12_1) x18_2).f1), .int .i64 0, .int .i64 0, .int .i64 0, .int .i64 0, .int .i64 0, .int .i64 0, .int .i64 0, .int .i64 0, .int .i64 0]) ?_ 2 _ rfl; (with_reducible repeat (first | refine blk_drewN ?_ _ | refine blk_drew ?_ | refine blk_alloc ?_ _)); refine blk_put (cs := #[.int .i64 ((rd_T39 (rd_L4 l0 x12_1) x18_2).f0), .int .i64 0, .int .i64 0, .int .i64 0, .int .i64 0, .int .i64 0, .int .i64 0, .int .i64 0, .int .i64 0, .int .i64 0, .int .i64 0]) ?_ 1 _ rfl; (with_reducible repeat (first | refine blk_drewN ?_ _ | refine blk_drew ?_ | refine blk_alloc ?_ _)); refine blk_put (cs := #[.int .i64 0, .int .i64 0, .int .i64 0, .int .i64 0, .int .i64 0, .int .i64 0, .int .i64 0, .int .i64 0, .int .i64 0, .int .i64 0, .int .i64 0]) ?_ 0 _ rfl; (with_reducible repeat (first | refine blk_drewN ?_ _ | refine blk_drew ?_ | refine blk_alloc ?_ _)); exact BK195.out) hb); have n1_ := Aside0.mk (below_step (by repeat (first | (with_reducible first | exact HB.out | apply below_alloc | apply pw_below_drewN | apply below_drew1 | refine below_set ?_ GE195.out) | exact HB.out)) hb); clear BK195; clear HB; have BK195 := n0_; have HB := n1_; clear n0_ n1_; (try clear hb); (try clear hb2); (try clear hk); (try clear hi)))
            go_roundg k2
            case measure => have := HK1.out; have := HK2.out; omega
            case rel => exact ⟨(x5_2), (wrap64 (x18_2 + 1)), (by first | rfl | (simp; done) | (simp [*]; done)), (by first | rfl | (simp; done) | (simp [*]; done)), H', ⟨by have := HK1.out; have := HK2.out; omega⟩, ⟨by repeat (first | (with_reducible first | exact HB.out | apply below_alloc | apply pw_below_drewN | apply below_drew1 | refine below_set ?_ GE195.out) | exact HB.out)⟩⟩
          ·rw [if_neg c8] at H
           exact absurd H (by simp)
         ·rw [if_neg c7] at H
          exact absurd H (by simp)
        ·rw [if_neg c6] at H
         have c6b0 : decide (x18_2 < ((rd_L4 l0 x12_1).length : Int)) = false := decide_eq_false c6
         clear c6
         have H' := Aside0.mk H
         clear H
         go_wp2
         go_roundg k2
         case measure => have := HK1.out; have := HK2.out; omega
         case rel => exact ⟨(x5_2), (wrap64 (x12_1 + 1)), (by first | rfl | (simp; done) | (simp [*]; done)), (by first | rfl | (simp; done) | (simp [*]; done)), H', ⟨by have := HK1.out; have := HK2.out; omega⟩, ⟨by repeat (first | (with_reducible first | exact HB.out | apply below_alloc | apply pw_below_drewN | apply below_drew1) | exact HB.out)⟩⟩
     ·rw [if_neg c5] at H
      exact absurd H (by simp)
    ·rw [if_neg c4] at H
     exact absurd H (by simp)
   ·rw [if_neg c3] at H
    have c3b0 : decide (x12_1 < (l0.length : Int)) = false := decide_eq_false c3
    clear c3
    obtain rfl := Option.some.inj H
    go_wp2
    go_ret
    exact ⟨by first | rfl | (simp [errW_none, errW_some] <;> rfl) | (simp [*, errW_none, errW_some] <;> rfl), by repeat (first | (with_reducible first | exact HB.out | apply below_alloc | apply pw_below_drewN | apply below_drew1) | exact HB.out)⟩
end Go.Proofs.YtcalkhlchjjalaaDoor.Q

namespace Go.Proofs.YtcalkhlchjjalaaDoor.Q
open Go.RowKit Go.Proofs.YtcalkhlchjjalaaDoorW.PrintWords Go.Proofs.YtcalkhlchjjalaaDoorW.PrintLast Go.Proofs.YtcalkhlchjjalaaDoorW.PrintMore Go.Proofs.YtcalkhlchjjalaaDoor.Gput
attribute [local go_sem] max2_int min2_int max_two min_two max_three min_three max_four min_four   -- for this text's walks alone
set_option linter.unusedVariables false
set_option linter.unusedSimpArgs false
def storagebarterref16_Free.l0 : Nat → List (List (S39)) → Int → Int → Int → Option (Int × Bool)
 | 0, _, _, _, _ => none
 | k + 1, x0, x1, x2, x8 => if x8 < x1 then ((storagebarterref16_Until.f k x0 x8).bind fun t197 => (if t197 < x2 then (some (x8, true)) else (storagebarterref16_Free.l0 k x0 x1 x2 (wrap64 (x8 + 1))))) else (some (0, false))
def storagebarterref16_Free.f (k : Nat) (l0 : List (List (S39))) (a1 : Int) (a2 : Int) : Option (Int × Bool) := if a1 > 64 then (some (0, false)) else (storagebarterref16_Free.l0 k l0 a1 a2 0)
theorem storagebarterref16_Free.mono_l : ∀ k, (∀ y0 y1 y2 y3, LeO (storagebarterref16_Free.l0 k y0 y1 y2 y3) (storagebarterref16_Free.l0 (k + 1) y0 y1 y2 y3))
 | 0 => fun _ _ _ _ r h => by simp [storagebarterref16_Free.l0] at h
 | k + 1 => by
  have ih0 := storagebarterref16_Free.mono_l k
  ·intro y0 y1 y2 y3
   unfold storagebarterref16_Free.l0
   repeat' first
   | (with_reducible exact ih0 _ _ _ _)
   | (with_reducible exact storagebarterref16_Until.mono _ _ _)
   | (with_reducible exact LeO.refl _)
   | (with_reducible exact LeO.none _)
   | (with_reducible refine LeO.ite ?_ ?_)
   | (with_reducible refine LeO.bind ?_ (fun _ => ?_))
   | exact ih0 _ _ _ _
   | exact storagebarterref16_Until.mono _ _ _
   | exact LeO.none _
   | refine LeO.ite ?_ ?_
   | refine LeO.bind ?_ (fun _ => ?_)
theorem storagebarterref16_Free.mono : ∀ a0 a1 a2 k, LeO (storagebarterref16_Free.f k a0 a1 a2) (storagebarterref16_Free.f (k + 1) a0 a1 a2) := by
 intro a0 a1 a2 k
 have ih0 := storagebarterref16_Free.mono_l k
 unfold storagebarterref16_Free.f
 repeat' first
  | (with_reducible exact ih0 _ _ _ _)
  | (with_reducible exact storagebarterref16_Until.mono _ _ _)
  | (with_reducible exact LeO.refl _)
  | (with_reducible exact LeO.none _)
  | (with_reducible refine LeO.ite ?_ ?_)
  | (with_reducible refine LeO.bind ?_ (fun _ => ?_))
  | exact ih0 _ _ _ _
  | exact storagebarterref16_Until.mono _ _ _
  | exact LeO.none _
  | refine LeO.ite ?_ ?_
  | refine LeO.bind ?_ (fun _ => ?_)
set_option maxHeartbeats 8000000 in
set_option maxRecDepth 100000 in
theorem storagebarterref16_Free.calls (k : Nat) (A0 : Option Addr) (c0 : Nat) (l0 : List (List (S39))) (a1 : Int) (a2 : Int) (r1 : Int) (r2 : Bool) (w : World) (hr0 : Kd.C (Kd.slice 39 k39) w A0 l0.length l0) (hc0 : l0.length ≤ c0) (h : storagebarterref16_Free.f k l0 a1 a2 = some (r1, r2)) :
 Calls Tryd.prog 52 #[.slice A0 l0.length c0, .int .i64 a1, .int .i64 a2] w fun e w' => e = .returned (.tuple #[.int .i64 r1, .bool r2]) ∧ Below w.heap.size w w' := by
 have HR0 := Aside0.mk hr0
 have HC0 := Aside0.mk hc0
 clear hr0 hc0
 have HB := Aside0.mk (Below.refl w.heap.size w)
 have H : (if a1 > 64 then (some (0, false)) else (storagebarterref16_Free.l0 k l0 a1 a2 0)) = some (r1, r2) := h
 clear h
 by_cases c4 : a1 > 64
 ·rw [if_pos c4] at H
  have c4b0 : decide (64 < a1) = true := decide_eq_true c4
  clear c4
  simp only [Option.some.injEq, Prod.mk.injEq] at H
  obtain ⟨rfl, rfl⟩ := H
  go_enter Tryd.func52, Tryd.ntmps52
  go_wp2
  go_ret2
  exact ⟨by first | rfl | (simp [errW_none, errW_some] <;> rfl) | (simp [*, errW_none, errW_some] <;> rfl), by repeat (first | (with_reducible first | exact HB.out | apply below_alloc | apply pw_below_drewN | apply below_drew1) | exact HB.out)⟩
 ·rw [if_neg c4] at H
  have c4b0 : decide (64 < a1) = false := decide_eq_false c4
  clear c4
  have H' := Aside0.mk H
  clear H
  go_enter Tryd.func52, Tryd.ntmps52
  go_wp2
  go_loopg [8] k (fun kq v8 w' => ∃ (x8_1 : Int), v8 = .int .i64 x8_1 ∧ Aside0 (storagebarterref16_Free.l0 kq l0 a1 a2 x8_1 = some (r1, r2)) ∧ Aside0 (kq ≤ k) ∧ Aside0 (Below w.heap.size w w'))
  case atStart => exact ⟨(0), (by first | rfl | (simp; done) | (simp [*]; done)), H', ⟨Nat.le_refl _⟩, ⟨by repeat (first | (with_reducible first | exact HB.out | apply below_alloc | apply pw_below_drewN | apply below_drew1) | exact HB.out)⟩⟩
  case round =>
   clear H'
   try clear p2
   try clear c4
   try clear c4b0
   obtain ⟨x8_1, rfl, HA, HK1, HB⟩ := hrel
   cases gk with
   | zero => exact absurd HA.out (by simp [storagebarterref16_Free.l0])
   | succ k1 =>
    have H := HA.out
    clear HA
    simp only [storagebarterref16_Free.l0] at H
    by_cases c5 : x8_1 < a1
    ·rw [if_pos c5] at H
     have c5b0 : decide (x8_1 < a1) = true := decide_eq_true c5
     clear c5
     replace H := Option.bind_eq_some_iff.mp H
     obtain ⟨t197, A60, H⟩ := H
     replace H : (if t197 < a2 then (some (x8_1, true)) else (storagebarterref16_Free.l0 k1 l0 a1 a2 (wrap64 (x8_1 + 1)))) = some (r1, r2) := H
     have A6 := Aside0.mk A60
     clear A60
     by_cases c7 : t197 < a2
     ·rw [if_pos c7] at H
      have c7b0 : decide (t197 < a2) = true := decide_eq_true c7
      clear c7
      simp only [Option.some.injEq, Prod.mk.injEq] at H
      obtain ⟨rfl, rfl⟩ := H
      go_wp2_with (first | ((with_reducible refine gate_callee (f := 61) rfl ?_); refine goesL_ (some 18) rfl rfl Tryd.func61 (by kernel_rfl) rfl #[.slice A0 l0.length c0, .int .i64 x8_1] rfl (by (try simp only [List.map_toArray, List.map_cons, List.map_nil]); first | done | rfl | (simp only [List.length_drop, List.length_take]; rfl)) ?_; (with_reducible refine (storagebarterref16_Until.calls k1 _ _ l0 x8_1 t197 _ ?side1 ?side2 A6.out).mono ?_); (case side1 => repeat (first | exact (Kd.C_below HR0.out HB.out) | (with_reducible refine Kd.C_alloc ?_ _) | (with_reducible refine Kd.C_drewN ?_ _) | (with_reducible refine Kd.C_drew ?_))); (case side2 => exact HC0.out); rintro e w8 ⟨rfl, hb⟩; refine ⟨_, rfl, ?_⟩; have n0_ := Aside0.mk (below_step (by repeat (first | (with_reducible first | exact HB.out | apply below_alloc | apply pw_below_drewN | apply below_drew1) | exact HB.out)) hb); clear HB; have HB := n0_; clear n0_; (try clear hb); (try clear hb2); (try clear hk); (try clear hi)))
      go_ret2
      exact ⟨by first | rfl | (simp [errW_none, errW_some] <;> rfl) | (simp [*, errW_none, errW_some] <;> rfl), by repeat (first | (with_reducible first | exact HB.out | apply below_alloc | apply pw_below_drewN | apply below_drew1) | exact HB.out)⟩
     ·rw [if_neg c7] at H
      have c7b0 : decide (t197 < a2) = false := decide_eq_false c7
      clear c7
      have H' := Aside0.mk H
      clear H
      go_wp2_with (first | ((with_reducible refine gate_callee (f := 61) rfl ?_); refine goesL_ (some 18) rfl rfl Tryd.func61 (by kernel_rfl) rfl #[.slice A0 l0.length c0, .int .i64 x8_1] rfl (by (try simp only [List.map_toArray, List.map_cons, List.map_nil]); first | done | rfl | (simp only [List.length_drop, List.length_take]; rfl)) ?_; (with_reducible refine (storagebarterref16_Until.calls k1 _ _ l0 x8_1 t197 _ ?side1 ?side2 A6.out).mono ?_); (case side1 => repeat (first | exact (Kd.C_below HR0.out HB.out) | (with_reducible refine Kd.C_alloc ?_ _) | (with_reducible refine Kd.C_drewN ?_ _) | (with_reducible refine Kd.C_drew ?_))); (case side2 => exact HC0.out); rintro e w9 ⟨rfl, hb⟩; refine ⟨_, rfl, ?_⟩; have n0_ := Aside0.mk (below_step (by repeat (first | (with_reducible first | exact HB.out | apply below_alloc | apply pw_below_drewN | apply below_drew1) | exact HB.out)) hb); clear HB; have HB := n0_; clear n0_; (try clear hb); (try clear hb2); (try clear hk); (try clear hi)))
      go_roundg k1
      case measure => have := HK1.out; omega
      case rel => exact ⟨(wrap64 (x8_1 + 1)), (by first | rfl | (simp; done) | (simp [*]; done)), H', ⟨by have := HK1.out; omega⟩, ⟨by repeat (first | (with_reducible first | exact HB.out | apply below_alloc | apply pw_below_drewN | apply below_drew1) | exact HB.out)⟩⟩
    ·rw [if_neg c5] at H
     have c5b0 : decide (x8_1 < a1) = false := decide_eq_false c5
     clear c5
     simp only [Option.some.injEq, Prod.mk.injEq] at H
     obtain ⟨rfl, rfl⟩ := H
     go_wp2
     go_ret2
     exact ⟨by first | rfl | (simp [errW_none, errW_some] <;> rfl) | (simp [*, errW_none, errW_some] <;> rfl), by repeat (first | (with_reducible first | exact HB.out | apply below_alloc | apply pw_below_drewN | apply below_drew1) | exact HB.out)⟩
end Go.Proofs.YtcalkhlchjjalaaDoor.Q

namespace Go.Proofs.YtcalkhlchjjalaaDoor.Gfr
open Go Go.RowKit Go.Proofs Go.Proofs.YtcalkhlchjjalaaDoor.Gm Go.Proofs.YtcalkhlchjjalaaDoor.Gdm Go.Proofs.YtcalkhlchjjalaaDoor.Gsy Go.Proofs.YtcalkhlchjjalaaDoor.Gnx Go.Proofs.YtcalkhlchjjalaaDoor.Ggd Go.Proofs.YtcalkhlchjjalaaDoor.Grv Go.Proofs.YtcalkhlchjjalaaDoor.Q Go.Proofs.YtcalkhlchjjalaaDoorW.PrintWords Go.Proofs.YtcalkhlchjjalaaDoorW.PrintLast Go.Proofs.YtcalkhlchjjalaaDoorW.PrintMore
set_option linter.unusedVariables false
theorem term_ok (s : S39) (h : W64 s) (k : Nat) : ∃ b, storagebarterref16_term.f (k + 4) s.f0 s.f1 s.f2 s.f3 s.f4 s.f5 s.f6 s.f7 s.f8 s.f9 s.f10 = some b := by
 unfold storagebarterref16_term.f
 rw [rValid_eq k _ _ _ _ _ _ _ _ _ _ _ h.h9, Option.bind_some]
 split
 ·split <;> exact ⟨_, rfl⟩
 ·exact ⟨_, rfl⟩
section
variable (ch : List S39) (hW : ∀ s ∈ ch, W64 s) (hl : ch.length ≤ 300) (slot : Int)
include hW hl
theorem until_l1 : ∀ (d j k : Nat) (x5 : Int), ch.length - j = d → j ≤ ch.length → d + 10 ≤ k → ∃ r, storagebarterref16_Until.l1 k slot x5 [ch] 1 0 ch (ch.length : Int) (j : Int) = some r := by
 intro d
 induction d with
 | zero =>
  intro j k x5 hd hj hk
  obtain ⟨k, rfl⟩ : ∃ m, k = m + 2 := ⟨k - 2, by omega⟩
  rw [storagebarterref16_Until.l1, if_neg (by omega), storagebarterref16_Until.l0, if_neg (by rw [w64 (by omega)]; omega)]
  exact ⟨_, rfl⟩
 | succ d ih =>
  intro j k x5 hd hj hk
  obtain ⟨k, rfl⟩ : ∃ m, k = m + 5 := ⟨k - 5, by omega⟩
  have hjl : j < ch.length := by omega
  have he : W64 (rd_T39 ch (j : Int)) := by rw [Gnx.rd_get ch j hjl]; exact hW _ (List.getElem_mem hjl)
  obtain ⟨b, hb⟩ := term_ok _ he k
  rw [storagebarterref16_Until.l1, if_pos (by omega), if_pos (by omega), if_pos (by omega), hb, Option.bind_some, w64 (x := (j : Int) + 1) (by omega), show (j : Int) + 1 = ((j + 1 : Nat) : Int) by omega]
  split
  ·split
   ·exact ih (j + 1) (k + 4) _ (by omega) (by omega) (by omega)
   ·exact ih (j + 1) (k + 4) _ (by omega) (by omega) (by omega)
  ·exact ih (j + 1) (k + 4) _ (by omega) (by omega) (by omega)
theorem until_ok (k : Nat) (hk : 320 ≤ k) : ∃ r, storagebarterref16_Until.f k [ch] slot = some r := by
 obtain ⟨k, rfl⟩ : ∃ m, k = m + 1 := ⟨k - 1, by omega⟩
 unfold storagebarterref16_Until.f
 rw [storagebarterref16_Until.l0, if_pos (by simp), if_pos (by omega), if_pos (by simp)]
 exact until_l1 ch hW hl slot ch.length 0 k (-1) (by omega) (by omega) (by omega)
end
theorem free_l0 (ch : List S39) (hW : ∀ s ∈ ch, W64 s) (hl : ch.length ≤ 300) (tick : Int) : ∀ (d i k : Nat), 4 - i = d → i ≤ 4 → d + 330 ≤ k → ∃ (n : Int) (b : Bool), storagebarterref16_Free.l0 k [ch] 4 tick (i : Int) = some (n, b) ∧ 0 ≤ n ∧ n ≤ 4 := by
 intro d
 induction d with
 | zero =>
  intro i k hd hi hk
  obtain ⟨k, rfl⟩ : ∃ m, k = m + 1 := ⟨k - 1, by omega⟩
  rw [storagebarterref16_Free.l0, if_neg (by omega)]
  exact ⟨0, false, rfl, by omega, by omega⟩
 | succ d ih =>
  intro i k hd hi hk
  obtain ⟨k, rfl⟩ : ∃ m, k = m + 1 := ⟨k - 1, by omega⟩
  obtain ⟨r, hr⟩ := until_ok ch hW hl (i : Int) k (by omega)
  rw [storagebarterref16_Free.l0, if_pos (by omega), hr, Option.bind_some]
  split
  ·exact ⟨_, _, rfl, by omega, by omega⟩
  ·rw [w64 (x := (i : Int) + 1) (by omega), show (i : Int) + 1 = ((i + 1 : Nat) : Int) by omega]
   exact ih (i + 1) k (by omega) (by omega) (by omega)
theorem free_ok (ch : List S39) (hW : ∀ s ∈ ch, W64 s) (hl : ch.length ≤ 300) (tick : Int) : ∃ (n : Int) (b : Bool), storagebarterref16_Free.f 400 [ch] 4 tick = some (n, b) ∧ 0 ≤ n ∧ n ≤ 4 := by
 unfold storagebarterref16_Free.f
 rw [if_neg (by omega)]
 exact free_l0 ch hW hl tick 4 0 400 (by omega) (by omega) (by omega)
theorem C_one {W : World} {gl : Nat} {t : TypeId} {A : Option Addr} {c : Nat} {ch : List S39} (hb : W.heap[gl]? = some (.cells #[.slice A ch.length c] t (0, 0))) (hl : ch.length ≤ c) (hc : Kd.C k39 W A ch.length ch) :
 Kd.C (Kd.slice 39 k39) W (some ⟨gl, 0, none⟩) 1 [ch] := by
 refine ⟨rfl, by omega, fun _ => ⟨_, rfl, fun j p hj => ?_⟩⟩
 cases j with
 | succ j => simp at hj
 | zero =>
  simp at hj
  subst hj
  refine ⟨[.slice A ch.length c], rfl, ⟨A, c, rfl, hl, hc⟩, fun i u hu => ?_⟩
  cases i with
  | succ i => simp at hu
  | zero =>
   simp at hu
   subst hu
   exact (blk_cell hb 0).trans rfl
end Go.Proofs.YtcalkhlchjjalaaDoor.Gfr
