/- The bytes and the name of a sealed text, and what any bytes mean, or the error; and the row, whose second argument is a struct. -/
import Derived.Test.YtpebhbhdkmpjeaaCSealBytes2
import Derived.Test.YtpebhbhdkmpjeaaCSealBytes3
namespace Go.Proofs.Ytpebhbhdkmpjeaa.Q
open Go.RowKit Go.Proofs.YtpebhbhdkmpjeaaW.PrintWords Go.Proofs.YtpebhbhdkmpjeaaW.PrintLast Go.Proofs.YtpebhbhdkmpjeaaW.PrintMore Go.Proofs.Ytpebhbhdkmpjeaa.Gput Go.Proofs.Ytpebhbhdkmpjeaa.Gputl
attribute [local go_sem] max2_int min2_int max_two min_two max_three min_three max_four min_four   -- for this text's walks alone
set_option linter.unusedVariables false
set_option linter.unusedSimpArgs false

/-! ### storagebarterref03_Private: function 21 -/
def storagebarterref03_Private.f (a0 : Int) : Option (Int × Int) := if a0 < 0 then (some (0, 1)) else (if a0 ≥ 2147483647 then (some (0, 1)) else (some (wrap64 ((wrap64 (2 * a0)) + 1), 0)))
set_option maxHeartbeats 8000000 in
set_option maxRecDepth 100000 in
theorem storagebarterref03_Private.calls (a0 : Int) (r1 : Int) (r2 : Int) (w : World) (h : storagebarterref03_Private.f a0 = some (r1, r2)) :
    Calls Try.prog 21 #[.int .i64 a0] w fun e w' => e = .returned (.tuple #[.int .i64 r1, .int .i64 r2]) ∧ Drawn0 w w' := by
  have H : (if a0 < 0 then (some (0, 1)) else (if a0 ≥ 2147483647 then (some (0, 1)) else (some (wrap64 ((wrap64 (2 * a0)) + 1), 0)))) = some (r1, r2) := h
  clear h
  by_cases c2 : a0 < 0
  · rw [if_pos c2] at H
    have c2b0 : decide (a0 < 0) = true := decide_eq_true c2
    clear c2
    simp only [Option.some.injEq, Prod.mk.injEq] at H
    obtain ⟨rfl, rfl⟩ := H
    go_enter Try.func21, Try.ntmps21
    go_wp2
    go_ret2
    exact ⟨by first | rfl | (simp; done) | (simp [*]; done), by repeat (first | exact Drawn0.refl _ | apply Drawn0.step)⟩
  · rw [if_neg c2] at H
    have c2b0 : decide (a0 < 0) = false := decide_eq_false c2
    clear c2
    by_cases c3 : a0 ≥ 2147483647
    · rw [if_pos c3] at H
      have c3b0 : decide (2147483647 ≤ a0) = true := decide_eq_true c3
      clear c3
      simp only [Option.some.injEq, Prod.mk.injEq] at H
      obtain ⟨rfl, rfl⟩ := H
      go_enter Try.func21, Try.ntmps21
      go_wp2
      go_ret2
      exact ⟨by first | rfl | (simp; done) | (simp [*]; done), by repeat (first | exact Drawn0.refl _ | apply Drawn0.step)⟩
    · rw [if_neg c3] at H
      have c3b0 : decide (2147483647 ≤ a0) = false := decide_eq_false c3
      clear c3
      simp only [Option.some.injEq, Prod.mk.injEq] at H
      obtain ⟨rfl, rfl⟩ := H
      go_enter Try.func21, Try.ntmps21
      go_wp2
      go_ret2
      exact ⟨by first | rfl | (simp; done) | (simp [*]; done), by repeat (first | exact Drawn0.refl _ | apply Drawn0.step)⟩

end Go.Proofs.Ytpebhbhdkmpjeaa.Q

namespace Go.Proofs.Ytpebhbhdkmpjeaa.Q
open Go.RowKit Go.Proofs.YtpebhbhdkmpjeaaW.PrintWords Go.Proofs.YtpebhbhdkmpjeaaW.PrintLast Go.Proofs.YtpebhbhdkmpjeaaW.PrintMore Go.Proofs.Ytpebhbhdkmpjeaa.Gput Go.Proofs.Ytpebhbhdkmpjeaa.Gputl
attribute [local go_sem] max2_int min2_int max_two min_two max_three min_three max_four min_four   -- for this text's walks alone
set_option linter.unusedVariables false
set_option linter.unusedSimpArgs false

/-! ### storagebarterref03_Lock: function 23 -/
def storagebarterref03_Lock.f (a0 : Int) : Option (Int × Int) := (storagebarterref03_key.f a0).bind fun t172 => (if t172 = true then (some (wrap64 ((wrap64 (3 * a0)) + 1), 0)) else (some (0, 1)))
set_option maxHeartbeats 8000000 in
set_option maxRecDepth 100000 in
theorem storagebarterref03_Lock.calls (a0 : Int) (r1 : Int) (r2 : Int) (w : World) (h : storagebarterref03_Lock.f a0 = some (r1, r2)) :
    Calls Try.prog 23 #[.int .i64 a0] w fun e w' => e = .returned (.tuple #[.int .i64 r1, .int .i64 r2]) ∧ Drawn0 w w' := by
  have H : ((storagebarterref03_key.f a0).bind fun t172 => (if t172 = true then (some (wrap64 ((wrap64 (3 * a0)) + 1), 0)) else (some (0, 1)))) = some (r1, r2) := h
  clear h
  replace H := Option.bind_eq_some_iff.mp H
  obtain ⟨t172, A20, H⟩ := H
  replace H : (if t172 = true then (some (wrap64 ((wrap64 (3 * a0)) + 1), 0)) else (some (0, 1))) = some (r1, r2) := H
  have A2 := Aside0.mk A20
  clear A20
  by_cases c3 : t172 = true
  · subst c3
    have H1 : (some (wrap64 ((wrap64 (3 * a0)) + 1), 0)) = some (r1, r2) := by rw [if_pos rfl] at H; exact H
    clear H
    have H := H1
    clear H1
    simp only [Option.some.injEq, Prod.mk.injEq] at H
    obtain ⟨rfl, rfl⟩ := H
    go_enter Try.func23, Try.ntmps23
    go_wp2_with (first | ((with_reducible refine gate_callee (f := 49) rfl ?_); refine goesL_ (some 5) rfl rfl Try.func49 (by kernel_rfl) rfl #[.int .i64 a0] rfl (by (try simp only [List.map_toArray, List.map_cons, List.map_nil]); first | done | rfl | (simp only [List.length_drop, List.length_take]; rfl)) ?_; (with_reducible refine (storagebarterref03_key.calls a0 true _ A2.out).mono ?_); rintro e w' ⟨rfl, ⟨nd, rfl⟩⟩; refine ⟨_, rfl, ?_⟩))
    go_ret2
    exact ⟨by first | rfl | (simp; done) | (simp [*]; done), by repeat (first | exact Drawn0.refl _ | apply Drawn0.step)⟩
  · replace c3 := Bool.eq_false_iff.mpr c3
    subst c3
    have H1 : (some (0, 1)) = some (r1, r2) := by rw [if_neg (show ¬ (false = true) by decide)] at H; exact H
    clear H
    have H := H1
    clear H1
    simp only [Option.some.injEq, Prod.mk.injEq] at H
    obtain ⟨rfl, rfl⟩ := H
    go_enter Try.func23, Try.ntmps23
    go_wp2_with (first | ((with_reducible refine gate_callee (f := 49) rfl ?_); refine goesL_ (some 5) rfl rfl Try.func49 (by kernel_rfl) rfl #[.int .i64 a0] rfl (by (try simp only [List.map_toArray, List.map_cons, List.map_nil]); first | done | rfl | (simp only [List.length_drop, List.length_take]; rfl)) ?_; (with_reducible refine (storagebarterref03_key.calls a0 false _ A2.out).mono ?_); rintro e w' ⟨rfl, ⟨nd, rfl⟩⟩; refine ⟨_, rfl, ?_⟩))
    go_ret2
    exact ⟨by first | rfl | (simp; done) | (simp [*]; done), by repeat (first | exact Drawn0.refl _ | apply Drawn0.step)⟩

end Go.Proofs.Ytpebhbhdkmpjeaa.Q

namespace Go.Proofs.Ytpebhbhdkmpjeaa.Q
open Go.RowKit Go.Proofs.YtpebhbhdkmpjeaaW.PrintWords Go.Proofs.YtpebhbhdkmpjeaaW.PrintLast Go.Proofs.YtpebhbhdkmpjeaaW.PrintMore Go.Proofs.Ytpebhbhdkmpjeaa.Gput Go.Proofs.Ytpebhbhdkmpjeaa.Gputl
attribute [local go_sem] max2_int min2_int max_two min_two max_three min_three max_four min_four   -- for this text's walks alone
set_option linter.unusedVariables false
set_option linter.unusedSimpArgs false

/-! ### storagebarterref03_Open: function 27 -/
def storagebarterref03_Open.f (a0_0 : Int) (a0_1 : ByteArray) (a1 : Int) : Option (ByteArray × Int) := (storagebarterref03_Valid.f a0_0 a0_1).bind fun t179 => (if t179 = true then ((storagebarterref03_key.f a1).bind fun t180 => (if t180 = true then (if a0_0 = (wrap64 ((wrap64 (3 * a1)) + 1)) then (some (a0_1, 0)) else (some ((⟨#[]⟩ : ByteArray), 9))) else (some ((⟨#[]⟩ : ByteArray), 1)))) else (some ((⟨#[]⟩ : ByteArray), 2)))
set_option maxHeartbeats 8000000 in
set_option maxRecDepth 100000 in
theorem storagebarterref03_Open.calls (a0_0 : Int) (a0_1 : ByteArray) (a1 : Int) (r1 : ByteArray) (r2 : Int) (w : World) (h : storagebarterref03_Open.f a0_0 a0_1 a1 = some (r1, r2)) :
    Calls Try.prog 27 #[.agg #[.int .i64 a0_0, .string a0_1], .int .i64 a1] w fun e w' => e = .returned (.tuple #[.string r1, .int .i64 r2]) ∧ Below w.heap.size w w' := by
  have hu34 := Try.underlying34
  have HB := Aside0.mk (Below.refl w.heap.size w)
  have H : ((storagebarterref03_Valid.f a0_0 a0_1).bind fun t179 => (if t179 = true then ((storagebarterref03_key.f a1).bind fun t180 => (if t180 = true then (if a0_0 = (wrap64 ((wrap64 (3 * a1)) + 1)) then (some (a0_1, 0)) else (some ((⟨#[]⟩ : ByteArray), 9))) else (some ((⟨#[]⟩ : ByteArray), 1)))) else (some ((⟨#[]⟩ : ByteArray), 2)))) = some (r1, r2) := h
  clear h
  replace H := Option.bind_eq_some_iff.mp H
  obtain ⟨t179, A30, H⟩ := H
  replace H : (if t179 = true then ((storagebarterref03_key.f a1).bind fun t180 => (if t180 = true then (if a0_0 = (wrap64 ((wrap64 (3 * a1)) + 1)) then (some (a0_1, 0)) else (some ((⟨#[]⟩ : ByteArray), 9))) else (some ((⟨#[]⟩ : ByteArray), 1)))) else (some ((⟨#[]⟩ : ByteArray), 2))) = some (r1, r2) := H
  have A3 := Aside0.mk A30
  clear A30
  by_cases c4 : t179 = true
  · subst c4
    have H1 : ((storagebarterref03_key.f a1).bind fun t180 => (if t180 = true then (if a0_0 = (wrap64 ((wrap64 (3 * a1)) + 1)) then (some (a0_1, 0)) else (some ((⟨#[]⟩ : ByteArray), 9))) else (some ((⟨#[]⟩ : ByteArray), 1)))) = some (r1, r2) := by rw [if_pos rfl] at H; exact H
    clear H
    have H := H1
    clear H1
    replace H := Option.bind_eq_some_iff.mp H
    obtain ⟨t180, A50, H⟩ := H
    replace H : (if t180 = true then (if a0_0 = (wrap64 ((wrap64 (3 * a1)) + 1)) then (some (a0_1, 0)) else (some ((⟨#[]⟩ : ByteArray), 9))) else (some ((⟨#[]⟩ : ByteArray), 1))) = some (r1, r2) := H
    have A5 := Aside0.mk A50
    clear A50
    by_cases c6 : t180 = true
    · subst c6
      have H1 : (if a0_0 = (wrap64 ((wrap64 (3 * a1)) + 1)) then (some (a0_1, 0)) else (some ((⟨#[]⟩ : ByteArray), 9))) = some (r1, r2) := by rw [if_pos rfl] at H; exact H
      clear H
      have H := H1
      clear H1
      by_cases c7 : a0_0 = (wrap64 ((wrap64 (3 * a1)) + 1))
      · rw [if_pos c7] at H
        have c7b0 : (a0_0 == (wrap64 ((wrap64 (3 * a1)) + 1))) = true := beq_iff_eq.mpr c7
        have c7b1 : (a0_0 != (wrap64 ((wrap64 (3 * a1)) + 1))) = false := bne_eq_false_iff_eq.mpr c7
        clear c7
        simp only [Option.some.injEq, Prod.mk.injEq] at H
        obtain ⟨rfl, rfl⟩ := H
        go_enter Try.func27, Try.ntmps27
        go_wp2_with (first | ((with_reducible refine gate_dst (N := 2) rfl ?_); refine box_event ?hg (N := 2) ?hd (cs := #[.int .i64 a0_0, .string a0_1]) (t := 34) ?hr ?_; (case hd => rfl); (case hg => rfl); (case hr => first | (go_simp; done) | (go_simp; rfl)); intro gb178 hg w8 hbox hb; have n0_ := Aside0.mk (below_step (by repeat (first | (with_reducible first | exact HB.out | apply below_alloc | apply pw_below_drewN | apply below_drew1) | exact HB.out)) hb); have n1_ := Aside0.mk (hbox); have n2_ := Aside0.mk ((by rw [hg]; exact (below_size (by repeat (first | (with_reducible first | exact HB.out | apply below_alloc | apply pw_below_drewN | apply below_drew1) | exact HB.out))) : w.heap.size ≤ gb178)); have n3_ := Aside0.mk ((by rw [hg]; exact (below_size (by repeat (first | (with_reducible first | exact HB.out | apply below_alloc | apply pw_below_drewN | apply below_drew1) | exact HB.out))) : w.heap.size ≤ gb178)); clear HB; have HB := n0_; have BK178 := n1_; have GW178 := n2_; have GE178 := n3_; clear n0_ n1_ n2_ n3_; clear hb hbox hg; have hcz9_0 : w8.cell? ⟨gb178, 0, none⟩ = some (.int .i64 a0_0) := (blk_cell BK178.out 0).trans rfl; have hcz9_1 : w8.cell? ⟨gb178, 1, none⟩ = some (.string a0_1) := (blk_cell BK178.out 1).trans rfl; have hfz9_0 := blk_frozen BK178.out 0; have hfz9_1 := blk_frozen BK178.out 1) | ((with_reducible refine gate_callee (f := 51) rfl ?_); refine goesL_ (some 7) rfl rfl Try.func51 (by kernel_rfl) rfl #[.agg #[.int .i64 a0_0, .string a0_1]] rfl (by (try simp only [List.map_toArray, List.map_cons, List.map_nil]); first | done | rfl | (simp only [List.length_drop, List.length_take]; rfl)) ?_; (with_reducible refine (storagebarterref03_Valid.calls a0_0 a0_1 true _ A3.out).mono ?_); rintro e w10 ⟨rfl, hb⟩; refine ⟨_, rfl, ?_⟩; have n0_ := Aside0.mk (blk_below (g := gb178) (o := .cells #[.int .i64 a0_0, .string a0_1] 34 (0, 0)) (by (with_reducible repeat (first | refine blk_drewN ?_ _ | refine blk_drew ?_ | refine blk_alloc ?_ _)); exact BK178.out) hb); have n1_ := Aside0.mk (below_step (by repeat (first | (with_reducible first | exact HB.out | apply below_alloc | apply pw_below_drewN | apply below_drew1 | refine below_set ?_ GE178.out) | exact HB.out)) hb); clear BK178; clear HB; have BK178 := n0_; have HB := n1_; clear n0_ n1_; (try clear hb); (try clear hb2); (try clear hk); (try clear hi)) | ((with_reducible refine gate_callee (f := 49) rfl ?_); refine goesL_ (some 10) rfl rfl Try.func49 (by kernel_rfl) rfl #[.int .i64 a1] rfl (by (try simp only [List.map_toArray, List.map_cons, List.map_nil]); first | done | rfl | (simp only [List.length_drop, List.length_take]; rfl)) ?_; (with_reducible refine (storagebarterref03_key.calls a1 true _ A5.out).mono ?_); rintro e w' ⟨rfl, ⟨nd, rfl⟩⟩; refine ⟨_, rfl, ?_⟩; have hcz11_0 : w10.cell? ⟨gb178, 0, none⟩ = some (.int .i64 a0_0) := (blk_cell BK178.out 0).trans rfl; have hcz11_1 : w10.cell? ⟨gb178, 1, none⟩ = some (.string a0_1) := (blk_cell BK178.out 1).trans rfl; have hfz11_0 := blk_frozen BK178.out 0; have hfz11_1 := blk_frozen BK178.out 1))
        go_ret2
        exact ⟨by first | rfl | (simp [errW_none, errW_some] <;> rfl) | (simp [*, errW_none, errW_some] <;> rfl), by repeat (first | (with_reducible first | exact HB.out | apply below_alloc | apply pw_below_drewN | apply below_drew1 | refine below_set ?_ GE178.out) | exact HB.out)⟩
      · rw [if_neg c7] at H
        have c7b0 : (a0_0 == (wrap64 ((wrap64 (3 * a1)) + 1))) = false := beq_eq_false_iff_ne.mpr c7
        have c7b1 : (a0_0 != (wrap64 ((wrap64 (3 * a1)) + 1))) = true := bne_iff_ne.mpr c7
        simp only [Option.some.injEq, Prod.mk.injEq] at H
        obtain ⟨rfl, rfl⟩ := H
        go_enter Try.func27, Try.ntmps27
        go_wp2_with (first | ((with_reducible refine gate_dst (N := 2) rfl ?_); refine box_event ?hg (N := 2) ?hd (cs := #[.int .i64 a0_0, .string a0_1]) (t := 34) ?hr ?_; (case hd => rfl); (case hg => rfl); (case hr => first | (go_simp; done) | (go_simp; rfl)); intro gb178 hg w12 hbox hb; have n0_ := Aside0.mk (below_step (by repeat (first | (with_reducible first | exact HB.out | apply below_alloc | apply pw_below_drewN | apply below_drew1) | exact HB.out)) hb); have n1_ := Aside0.mk (hbox); have n2_ := Aside0.mk ((by rw [hg]; exact (below_size (by repeat (first | (with_reducible first | exact HB.out | apply below_alloc | apply pw_below_drewN | apply below_drew1) | exact HB.out))) : w.heap.size ≤ gb178)); have n3_ := Aside0.mk ((by rw [hg]; exact (below_size (by repeat (first | (with_reducible first | exact HB.out | apply below_alloc | apply pw_below_drewN | apply below_drew1) | exact HB.out))) : w.heap.size ≤ gb178)); clear HB; have HB := n0_; have BK178 := n1_; have GW178 := n2_; have GE178 := n3_; clear n0_ n1_ n2_ n3_; clear hb hbox hg; have hcz13_0 : w12.cell? ⟨gb178, 0, none⟩ = some (.int .i64 a0_0) := (blk_cell BK178.out 0).trans rfl; have hcz13_1 : w12.cell? ⟨gb178, 1, none⟩ = some (.string a0_1) := (blk_cell BK178.out 1).trans rfl; have hfz13_0 := blk_frozen BK178.out 0; have hfz13_1 := blk_frozen BK178.out 1) | ((with_reducible refine gate_callee (f := 51) rfl ?_); refine goesL_ (some 7) rfl rfl Try.func51 (by kernel_rfl) rfl #[.agg #[.int .i64 a0_0, .string a0_1]] rfl (by (try simp only [List.map_toArray, List.map_cons, List.map_nil]); first | done | rfl | (simp only [List.length_drop, List.length_take]; rfl)) ?_; (with_reducible refine (storagebarterref03_Valid.calls a0_0 a0_1 true _ A3.out).mono ?_); rintro e w14 ⟨rfl, hb⟩; refine ⟨_, rfl, ?_⟩; have n0_ := Aside0.mk (blk_below (g := gb178) (o := .cells #[.int .i64 a0_0, .string a0_1] 34 (0, 0)) (by (with_reducible repeat (first | refine blk_drewN ?_ _ | refine blk_drew ?_ | refine blk_alloc ?_ _)); exact BK178.out) hb); have n1_ := Aside0.mk (below_step (by repeat (first | (with_reducible first | exact HB.out | apply below_alloc | apply pw_below_drewN | apply below_drew1 | refine below_set ?_ GE178.out) | exact HB.out)) hb); clear BK178; clear HB; have BK178 := n0_; have HB := n1_; clear n0_ n1_; (try clear hb); (try clear hb2); (try clear hk); (try clear hi)) | ((with_reducible refine gate_callee (f := 49) rfl ?_); refine goesL_ (some 10) rfl rfl Try.func49 (by kernel_rfl) rfl #[.int .i64 a1] rfl (by (try simp only [List.map_toArray, List.map_cons, List.map_nil]); first | done | rfl | (simp only [List.length_drop, List.length_take]; rfl)) ?_; (with_reducible refine (storagebarterref03_key.calls a1 true _ A5.out).mono ?_); rintro e w' ⟨rfl, ⟨nd, rfl⟩⟩; refine ⟨_, rfl, ?_⟩; have hcz15_0 : w14.cell? ⟨gb178, 0, none⟩ = some (.int .i64 a0_0) := (blk_cell BK178.out 0).trans rfl; have hcz15_1 : w14.cell? ⟨gb178, 1, none⟩ = some (.string a0_1) := (blk_cell BK178.out 1).trans rfl; have hfz15_0 := blk_frozen BK178.out 0; have hfz15_1 := blk_frozen BK178.out 1))
        go_ret2
        exact ⟨by first | rfl | (simp [errW_none, errW_some] <;> rfl) | (simp [*, errW_none, errW_some] <;> rfl), by repeat (first | (with_reducible first | exact HB.out | apply below_alloc | apply pw_below_drewN | apply below_drew1 | refine below_set ?_ GE178.out) | exact HB.out)⟩
    · replace c6 := Bool.eq_false_iff.mpr c6
      subst c6
      have H1 : (some ((⟨#[]⟩ : ByteArray), 1)) = some (r1, r2) := by rw [if_neg (show ¬ (false = true) by decide)] at H; exact H
      clear H
      have H := H1
      clear H1
      simp only [Option.some.injEq, Prod.mk.injEq] at H
      obtain ⟨rfl, rfl⟩ := H
      go_enter Try.func27, Try.ntmps27
      go_wp2_with (first | ((with_reducible refine gate_dst (N := 2) rfl ?_); refine box_event ?hg (N := 2) ?hd (cs := #[.int .i64 a0_0, .string a0_1]) (t := 34) ?hr ?_; (case hd => rfl); (case hg => rfl); (case hr => first | (go_simp; done) | (go_simp; rfl)); intro gb178 hg w16 hbox hb; have n0_ := Aside0.mk (below_step (by repeat (first | (with_reducible first | exact HB.out | apply below_alloc | apply pw_below_drewN | apply below_drew1) | exact HB.out)) hb); have n1_ := Aside0.mk (hbox); have n2_ := Aside0.mk ((by rw [hg]; exact (below_size (by repeat (first | (with_reducible first | exact HB.out | apply below_alloc | apply pw_below_drewN | apply below_drew1) | exact HB.out))) : w.heap.size ≤ gb178)); have n3_ := Aside0.mk ((by rw [hg]; exact (below_size (by repeat (first | (with_reducible first | exact HB.out | apply below_alloc | apply pw_below_drewN | apply below_drew1) | exact HB.out))) : w.heap.size ≤ gb178)); clear HB; have HB := n0_; have BK178 := n1_; have GW178 := n2_; have GE178 := n3_; clear n0_ n1_ n2_ n3_; clear hb hbox hg; have hcz17_0 : w16.cell? ⟨gb178, 0, none⟩ = some (.int .i64 a0_0) := (blk_cell BK178.out 0).trans rfl; have hcz17_1 : w16.cell? ⟨gb178, 1, none⟩ = some (.string a0_1) := (blk_cell BK178.out 1).trans rfl; have hfz17_0 := blk_frozen BK178.out 0; have hfz17_1 := blk_frozen BK178.out 1) | ((with_reducible refine gate_callee (f := 51) rfl ?_); refine goesL_ (some 7) rfl rfl Try.func51 (by kernel_rfl) rfl #[.agg #[.int .i64 a0_0, .string a0_1]] rfl (by (try simp only [List.map_toArray, List.map_cons, List.map_nil]); first | done | rfl | (simp only [List.length_drop, List.length_take]; rfl)) ?_; (with_reducible refine (storagebarterref03_Valid.calls a0_0 a0_1 true _ A3.out).mono ?_); rintro e w18 ⟨rfl, hb⟩; refine ⟨_, rfl, ?_⟩; have n0_ := Aside0.mk (blk_below (g := gb178) (o := .cells #[.int .i64 a0_0, .string a0_1] 34 (0, 0)) (by (with_reducible repeat (first | refine blk_drewN ?_ _ | refine blk_drew ?_ | refine blk_alloc ?_ _)); exact BK178.out) hb); have n1_ := Aside0.mk (below_step (by repeat (first | (with_reducible first | exact HB.out | apply below_alloc | apply pw_below_drewN | apply below_drew1 | refine below_set ?_ GE178.out) | exact HB.out)) hb); clear BK178; clear HB; have BK178 := n0_; have HB := n1_; clear n0_ n1_; (try clear hb); (try clear hb2); (try clear hk); (try clear hi)) | ((with_reducible refine gate_callee (f := 49) rfl ?_); refine goesL_ (some 10) rfl rfl Try.func49 (by kernel_rfl) rfl #[.int .i64 a1] rfl (by (try simp only [List.map_toArray, List.map_cons, List.map_nil]); first | done | rfl | (simp only [List.length_drop, List.length_take]; rfl)) ?_; (with_reducible refine (storagebarterref03_key.calls a1 false _ A5.out).mono ?_); rintro e w' ⟨rfl, ⟨nd, rfl⟩⟩; refine ⟨_, rfl, ?_⟩))
      go_ret2
      exact ⟨by first | rfl | (simp [errW_none, errW_some] <;> rfl) | (simp [*, errW_none, errW_some] <;> rfl), by repeat (first | (with_reducible first | exact HB.out | apply below_alloc | apply pw_below_drewN | apply below_drew1 | refine below_set ?_ GE178.out) | exact HB.out)⟩
  · replace c4 := Bool.eq_false_iff.mpr c4
    subst c4
    have H1 : (some ((⟨#[]⟩ : ByteArray), 2)) = some (r1, r2) := by rw [if_neg (show ¬ (false = true) by decide)] at H; exact H
    clear H
    have H := H1
    clear H1
    simp only [Option.some.injEq, Prod.mk.injEq] at H
    obtain ⟨rfl, rfl⟩ := H
    go_enter Try.func27, Try.ntmps27
    go_wp2_with (first | ((with_reducible refine gate_dst (N := 2) rfl ?_); refine box_event ?hg (N := 2) ?hd (cs := #[.int .i64 a0_0, .string a0_1]) (t := 34) ?hr ?_; (case hd => rfl); (case hg => rfl); (case hr => first | (go_simp; done) | (go_simp; rfl)); intro gb178 hg w19 hbox hb; have n0_ := Aside0.mk (below_step (by repeat (first | (with_reducible first | exact HB.out | apply below_alloc | apply pw_below_drewN | apply below_drew1) | exact HB.out)) hb); have n1_ := Aside0.mk (hbox); have n2_ := Aside0.mk ((by rw [hg]; exact (below_size (by repeat (first | (with_reducible first | exact HB.out | apply below_alloc | apply pw_below_drewN | apply below_drew1) | exact HB.out))) : w.heap.size ≤ gb178)); have n3_ := Aside0.mk ((by rw [hg]; exact (below_size (by repeat (first | (with_reducible first | exact HB.out | apply below_alloc | apply pw_below_drewN | apply below_drew1) | exact HB.out))) : w.heap.size ≤ gb178)); clear HB; have HB := n0_; have BK178 := n1_; have GW178 := n2_; have GE178 := n3_; clear n0_ n1_ n2_ n3_; clear hb hbox hg; have hcz20_0 : w19.cell? ⟨gb178, 0, none⟩ = some (.int .i64 a0_0) := (blk_cell BK178.out 0).trans rfl; have hcz20_1 : w19.cell? ⟨gb178, 1, none⟩ = some (.string a0_1) := (blk_cell BK178.out 1).trans rfl; have hfz20_0 := blk_frozen BK178.out 0; have hfz20_1 := blk_frozen BK178.out 1) | ((with_reducible refine gate_callee (f := 51) rfl ?_); refine goesL_ (some 7) rfl rfl Try.func51 (by kernel_rfl) rfl #[.agg #[.int .i64 a0_0, .string a0_1]] rfl (by (try simp only [List.map_toArray, List.map_cons, List.map_nil]); first | done | rfl | (simp only [List.length_drop, List.length_take]; rfl)) ?_; (with_reducible refine (storagebarterref03_Valid.calls a0_0 a0_1 false _ A3.out).mono ?_); rintro e w21 ⟨rfl, hb⟩; refine ⟨_, rfl, ?_⟩; have n0_ := Aside0.mk (blk_below (g := gb178) (o := .cells #[.int .i64 a0_0, .string a0_1] 34 (0, 0)) (by (with_reducible repeat (first | refine blk_drewN ?_ _ | refine blk_drew ?_ | refine blk_alloc ?_ _)); exact BK178.out) hb); have n1_ := Aside0.mk (below_step (by repeat (first | (with_reducible first | exact HB.out | apply below_alloc | apply pw_below_drewN | apply below_drew1 | refine below_set ?_ GE178.out) | exact HB.out)) hb); clear BK178; clear HB; have BK178 := n0_; have HB := n1_; clear n0_ n1_; (try clear hb); (try clear hb2); (try clear hk); (try clear hi)))
    go_ret2
    exact ⟨by first | rfl | (simp [errW_none, errW_some] <;> rfl) | (simp [*, errW_none, errW_some] <;> rfl), by repeat (first | (with_reducible first | exact HB.out | apply below_alloc | apply pw_below_drewN | apply below_drew1 | refine below_set ?_ GE178.out) | exact HB.out)⟩

end Go.Proofs.Ytpebhbhdkmpjeaa.Q

namespace Go.Proofs.Ytpebhbhdkmpjeaa.Q
open Go.RowKit Go.Proofs.YtpebhbhdkmpjeaaW.PrintWords Go.Proofs.YtpebhbhdkmpjeaaW.PrintLast Go.Proofs.YtpebhbhdkmpjeaaW.PrintMore Go.Proofs.Ytpebhbhdkmpjeaa.Gput Go.Proofs.Ytpebhbhdkmpjeaa.Gputl
attribute [local go_sem] max2_int min2_int max_two min_two max_three min_three max_four min_four   -- for this text's walks alone
set_option linter.unusedVariables false
set_option linter.unusedSimpArgs false

/-! ### storagebarterref03_Convergent: function 29 -/
def storagebarterref03_Convergent.f (k : Nat) (a0 : ByteArray) : Option (Int) := (storagebarterref02_Sum.f k a0).bind fun t182 => (some (wrap64 (2 * t182)))
theorem storagebarterref03_Convergent.mono : ∀ a0 k, LeO (storagebarterref03_Convergent.f k a0) (storagebarterref03_Convergent.f (k + 1) a0) := by
  intro a0 k
  unfold storagebarterref03_Convergent.f
  repeat' first
      | (with_reducible exact storagebarterref02_Sum.mono _ _)
      | (with_reducible exact LeO.refl _)
      | (with_reducible exact LeO.none _)
      | (with_reducible refine LeO.ite ?_ ?_)
      | (with_reducible refine LeO.bind ?_ (fun _ => ?_))
      | exact storagebarterref02_Sum.mono _ _
      | exact LeO.none _
      | refine LeO.ite ?_ ?_
      | refine LeO.bind ?_ (fun _ => ?_)
set_option maxHeartbeats 8000000 in
set_option maxRecDepth 100000 in
theorem storagebarterref03_Convergent.calls (k : Nat) (a0 : ByteArray) (r : Int) (w : World) (h : storagebarterref03_Convergent.f k a0 = some r) :
    Calls Try.prog 29 #[.string a0] w fun e w' => e = .returned (.int .i64 r) ∧ Drawn0 w w' := by
  have H : ((storagebarterref02_Sum.f k a0).bind fun t182 => (some (wrap64 (2 * t182)))) = some r := h
  clear h
  replace H := Option.bind_eq_some_iff.mp H
  obtain ⟨t182, A20, H⟩ := H
  replace H : (some (wrap64 (2 * t182))) = some r := H
  have A2 := Aside0.mk A20
  clear A20
  obtain rfl := Option.some.inj H
  go_enter Try.func29, Try.ntmps29
  go_wp2_with (first | ((with_reducible refine gate_callee (f := 52) rfl ?_); refine goesL_ (some 4) rfl rfl Try.func52 (by kernel_rfl) rfl #[.string a0] rfl (by (try simp only [List.map_toArray, List.map_cons, List.map_nil]); first | done | rfl | (simp only [List.length_drop, List.length_take]; rfl)) ?_; (with_reducible refine (storagebarterref02_Sum.calls k a0 t182 _ A2.out).mono ?_); rintro e w' ⟨rfl, ⟨nd, rfl⟩⟩; refine ⟨_, rfl, ?_⟩))
  go_ret
  exact ⟨by first | rfl | (simp; done) | (simp [*]; done), by repeat (first | exact Drawn0.refl _ | apply Drawn0.step)⟩

end Go.Proofs.Ytpebhbhdkmpjeaa.Q

/- The printed functions of the reference of 'seal', in plain words. -/
namespace Go.Proofs.Ytpebhbhdkmpjeaa.Gsr
open Go Go.RowKit Go.Proofs.Ytpebhbhdkmpjeaa.Gm Go.Proofs.Ytpebhbhdkmpjeaa.Gwa Go.Proofs.Ytpebhbhdkmpjeaa.Gwb Go.Proofs.Ytpebhbhdkmpjeaa.Gsa Go.Proofs.Ytpebhbhdkmpjeaa.Gsb Go.Proofs.Ytpebhbhdkmpjeaa.Q Go.Proofs.Ytpebhbhdkmpjeaa.Gput Go.Proofs.YtpebhbhdkmpjeaaW.PrintWords Go.Proofs.YtpebhbhdkmpjeaaW.PrintLast Go.Proofs.YtpebhbhdkmpjeaaW.PrintMore
set_option linter.unusedVariables false

theorem rkey_eq (k : Int) : storagebarterref03_key.f k = some (decide (isKey k)) := by
  unfold storagebarterref03_key.f
  by_cases h : k ≥ 0
  · rw [if_pos h, decide_eq_decide.2 (show k < 4294967294 ↔ isKey k from ⟨fun z => ⟨h, z⟩, fun z => z.2⟩)]
  · rw [if_neg h, decide_eq_false (show ¬ isKey k from fun z => h z.1)]

theorem rPrivate_eq (k : Int) : storagebarterref03_Private.f k = some (if 0 ≤ k ∧ k < 2147483647 then (2 * k + 1, 0) else (0, 1)) := by
  unfold storagebarterref03_Private.f
  by_cases h : k < 0
  · rw [if_pos h, if_neg (by omega)]
  · rw [if_neg h]
    by_cases h2 : k ≥ 2147483647
    · rw [if_pos h2, if_neg (by omega)]
    · rw [if_neg h2, if_pos (by omega), w64 (x := 2 * k) (by omega), w64 (by omega)]

theorem rLock_eq (k : Int) : storagebarterref03_Lock.f k = some (if isKey k then (3 * k + 1, 0) else (0, 1)) := by
  unfold storagebarterref03_Lock.f
  rw [rkey_eq, Option.bind_some]
  by_cases h : isKey k
  · have h' := h
    unfold isKey at h'
    rw [if_pos (by simpa using h), if_pos h, w64 (x := 3 * k) (by omega), w64 (by omega)]
  · rw [if_neg (by simpa using h), if_neg h]

theorem rSeal_eq (l : List UInt8) (k : Int) : storagebarterref03_Seal.f (B l) k = some (if isKey k then (if l.length > 16384 then (0, B [], 4) else (3 * k + 1, B l, 0)) else (0, B [], 1)) := by
  unfold storagebarterref03_Seal.f
  rw [rkey_eq, Option.bind_some]
  by_cases h : isKey k
  · have h' := h
    unfold isKey at h'
    rw [if_pos (by simpa using h), if_pos h, B_size]
    by_cases h2 : l.length > 16384
    · rw [if_pos (by omega), if_pos h2]; rfl
    · rw [if_neg (by omega), if_neg h2, w64 (x := 3 * k) (by omega), w64 (by omega)]
  · rw [if_neg (by simpa using h), if_neg h]; rfl

theorem rLocks_eq (n : Int) (hn : -9223372036854775808 ≤ n ∧ n ≤ 9223372036854775807) : storagebarterref03_Locks.f n = some (decide (isLock n)) := by
  unfold storagebarterref03_Locks.f
  by_cases h : n ≥ 1
  · have e1 : Int.tmod n 3 = n % 3 := Int.tmod_eq_emod_of_nonneg (by omega)
    have e2 : Int.tdiv n 3 = n / 3 := Int.tdiv_eq_ediv_of_nonneg (by omega)
    rw [if_pos h, e1, e2]
    by_cases h3 : n % 3 = 1
    · rw [if_pos h3, w64 (x := n / 3) (by omega), rkey_eq, Option.bind_some]
      have : (isLock n) ↔ isKey (n / 3) := ⟨fun z => z.2.2, fun z => ⟨by omega, h3, z⟩⟩
      rw [decide_eq_decide.2 this]
    · rw [if_neg h3, decide_eq_false (show ¬ isLock n from fun z => h3 z.2.1)]
  · rw [if_neg h, decide_eq_false (show ¬ isLock n from fun z => by have := z.1; omega)]

theorem rOpen_eq (n : Int) (l : List UInt8) (k : Int) (hn : -9223372036854775808 ≤ n ∧ n ≤ 9223372036854775807) : storagebarterref03_Open.f n (B l) k = some (if isSealed n l then (if isKey k then (if n = 3 * k + 1 then (B l, 0) else (B [], 9)) else (B [], 1)) else (B [], 2)) := by
  unfold storagebarterref03_Open.f storagebarterref03_Valid.f
  rw [rLocks_eq n hn, Option.bind_some]
  by_cases h : isLock n
  · rw [if_pos (by simpa using h), B_size, Option.bind_some]
    by_cases h1 : l.length ≤ 16384
    · rw [if_pos (decide_eq_true (show (l.length : Int) ≤ 16384 by omega)), if_pos (show isSealed n l from ⟨h, h1⟩), rkey_eq, Option.bind_some]
      by_cases h2 : isKey k
      · have h' := h2
        unfold isKey at h'
        rw [if_pos (by simpa using h2), if_pos h2, w64 (x := 3 * k) (by omega), w64 (by omega)]
        split <;> rfl
      · rw [if_neg (by simpa using h2), if_neg h2]; rfl
    · rw [if_neg (by rw [decide_eq_false (show ¬ (l.length : Int) ≤ 16384 by omega)]; decide), if_neg (show ¬ isSealed n l from fun z => h1 z.2)]; rfl
  · rw [if_neg (by simpa using h), Option.bind_some, if_neg (by simp), if_neg (show ¬ isSealed n l from fun z => h z.1)]; rfl

theorem rSum_l0 (s : ByteArray) (hs : s.size ≤ 9223372036854775000) : ∀ (n i k : Nat) (d : Int), s.size - i = n → i ≤ s.size → 0 ≤ d ∧ d < 2147483647 → n < k → storagebarterref02_Sum.l0 k s d i = some (dg d (s.data.toList.drop i)) := by
  intro n
  induction n with
  | zero =>
    intro i k d hn hi hd hk
    obtain ⟨k, rfl⟩ : ∃ m, k = m + 1 := ⟨k - 1, by omega⟩
    simp only [storagebarterref02_Sum.l0]
    rw [if_neg (by omega), List.drop_of_length_le (by rw [Array.length_toList]; show s.size ≤ i; omega)]
    rfl
  | succ n ih =>
    intro i k d hn hi hd hk
    obtain ⟨k, rfl⟩ : ∃ m, k = m + 1 := ⟨k - 1, by omega⟩
    have hlt : i < s.size := by omega
    simp only [storagebarterref02_Sum.l0]
    rw [if_pos (by omega), if_pos (by omega), sum_step s d i hd hlt, w64 (by omega), show ((i : Int) + 1) = ((i + 1 : Nat) : Int) by omega, ih (i + 1) k _ (by omega) (by omega) (by omega) (by omega), List.drop_eq_getElem_cons (show i < s.data.toList.length by simpa using hlt)]
    rfl

theorem rConvergent_eq (l : List UInt8) (k : Nat) (hl : l.length ≤ 9223372036854775000) (hk : l.length < k) : storagebarterref03_Convergent.f k (B l) = some (2 * dg 1 l) := by
  unfold storagebarterref03_Convergent.f storagebarterref02_Sum.f
  have := dg_range l 1 (by omega)
  have h := rSum_l0 (B l) (by rw [B_size]; exact hl) l.length 0 k 1 (by rw [B_size]; omega) (by omega) (by omega) hk
  rw [show ((0 : Nat) : Int) = 0 from rfl] at h
  rw [h, Option.bind_some]
  show some (wrap64 (2 * dg 1 l)) = _
  rw [w64 (by omega)]

theorem rValid_eq (n : Int) (l : List UInt8) (hn : -9223372036854775808 ≤ n ∧ n ≤ 9223372036854775807) : storagebarterref03_Valid.f n (B l) = some (decide (isSealed n l)) := by
  unfold storagebarterref03_Valid.f
  rw [rLocks_eq n hn, Option.bind_some]
  by_cases h : isLock n
  · rw [if_pos (by simpa using h), B_size]
    by_cases h1 : l.length ≤ 16384
    · rw [decide_eq_true (show (l.length : Int) ≤ 16384 by omega), decide_eq_true (show isSealed n l from ⟨h, h1⟩)]
    · rw [decide_eq_false (show ¬ (l.length : Int) ≤ 16384 by omega), decide_eq_false (show ¬ isSealed n l from fun z => h1 z.2)]
  · rw [if_neg (by simpa using h), decide_eq_false (show ¬ isSealed n l from fun z => h z.1)]

theorem rSum_eq (l : List UInt8) (k : Nat) (hl : l.length ≤ 9223372036854775000) (hk : l.length < k) : storagebarterref02_Sum.f k (B l) = some (dg 1 l) := by
  unfold storagebarterref02_Sum.f
  have h := rSum_l0 (B l) (by rw [B_size]; exact hl) l.length 0 k 1 (by rw [B_size]; omega) (by omega) (by omega) hk
  rw [show ((0 : Nat) : Int) = 0 from rfl] at h
  rw [h]
  rfl

theorem rEncode_eq (n : Int) (l : List UInt8) (k : Nat) (hn : -9223372036854775808 ≤ n ∧ n ≤ 9223372036854775807) (hk : 10 ≤ k) : storagebarterref03_Encode.f k n (B l) = some (if isSealed n l then (B (encS n l), 0) else (B [], 2)) := by
  unfold storagebarterref03_Encode.f
  rw [rValid_eq n l hn, Option.bind_some]
  by_cases h : isSealed n l
  · have hl := h.2
    have hp := putI_len hn
    rw [if_pos (by simpa using h), if_pos h, show (⟨#[]⟩ : ByteArray) = B [] from rfl, ref_PutInt_eq [] n k (by simp) hn hk, Option.bind_some, ref_PutText_eq _ l k (by simp; omega) (by omega) hk, Option.bind_some]
    simp only [List.nil_append]
    rfl
  · rw [if_neg (by simpa using h), if_neg h]; rfl

theorem rDecode_eq (l : List UInt8) (a : Int) (k : Nat) (hl : l.length ≤ 9223372036854775000) (hk : 34 ≤ k) : storagebarterref03_Decode.f k (B l) a = some (sealAt l a) := by
  unfold storagebarterref03_Decode.f sealAt
  have hr := intAt_range l a
  rw [ref_Int_eq (B l) a k (by rw [B_size]; exact hl) hk, Option.bind_some]
  rcases hi : intAt (B l) a with ⟨x, n, e⟩
  rw [hi] at hr
  simp only at hr ⊢
  by_cases he : e = 0
  · rw [if_pos he, if_pos he, ref_Text_eq l n 16384 k hl hk, Option.bind_some]
    rcases ht : textAt l n 16384 with ⟨t, n2, e2⟩
    simp only
    by_cases he2 : e2 = 0
    · obtain ⟨tl, rfl⟩ := exB t
      rw [if_pos he2, if_pos he2, rValid_eq x tl hr, Option.bind_some, B_data]
      by_cases hs : isSealed x tl
      · rw [if_pos (by simpa using hs), if_pos hs]
      · rw [if_neg (by simpa using hs), if_neg hs]; rfl
    · rw [if_neg he2, if_neg he2]; rfl
  · rw [if_neg he, if_neg he]; rfl

theorem encS_len (n : Int) (l : List UInt8) (hn : -9223372036854775808 ≤ n ∧ n ≤ 9223372036854775807) (hl : l.length ≤ 9223372036854775807) : (encS n l).length ≤ 20 + l.length := by
  have h1 := putI_len hn
  have h2 := putI_len (n := (l.length : Int)) (by omega)
  simp only [encS, List.length_append]
  omega

def nameOf (n : Int) (l : List UInt8) : Int × Int × Int := if isSealed n l then (dg 1 (encS n l), ((encS n l).length : Int), 0) else (0, 0, 2)

theorem sName_eq (n : Int) (l : List UInt8) (k : Nat) (hn : -9223372036854775808 ≤ n ∧ n ≤ 9223372036854775807) (hk : 20000 ≤ k) : seal_Name.f k n (B l) = some (nameOf n l) := by
  unfold seal_Name.f nameOf
  rw [Encode_eq n l hn, Option.bind_some]
  by_cases h : isSealed n l
  · have hl := h.2
    have hp := encS_len n l hn (by omega)
    simp only [if_pos h]
    rw [if_pos trivial, Sum_eq _ _ (by omega) (by omega), Option.bind_some, B_size]
  · simp only [if_neg h]
    rw [if_neg (by decide)]

theorem rName_eq (n : Int) (l : List UInt8) (k : Nat) (hn : -9223372036854775808 ≤ n ∧ n ≤ 9223372036854775807) (hk : 20000 ≤ k) : storagebarterref03_Name.f k n (B l) = some (nameOf n l) := by
  unfold storagebarterref03_Name.f nameOf
  rw [rEncode_eq n l k hn (by omega), Option.bind_some]
  by_cases h : isSealed n l
  · have hl := h.2
    have hp := encS_len n l hn (by omega)
    simp only [if_pos h]
    rw [if_pos trivial, rSum_eq _ _ (by omega) (by omega), Option.bind_some, B_size]
  · simp only [if_neg h]
    rw [if_neg (by decide)]

end Go.Proofs.Ytpebhbhdkmpjeaa.Gsr

/- The bytes and the name of a sealed text, and what any bytes mean, or the error; and the row, whose second argument is a struct. -/
namespace Go.Proofs.Ytpebhbhdkmpjeaa.PureSb
open Go Go.RowKit Go.Proofs.Ytpebhbhdkmpjeaa.Gm Go.Proofs.Ytpebhbhdkmpjeaa.Gwa Go.Proofs.Ytpebhbhdkmpjeaa.Gwb Go.Proofs.Ytpebhbhdkmpjeaa.Gsa Go.Proofs.Ytpebhbhdkmpjeaa.Gsb Go.Proofs.Ytpebhbhdkmpjeaa.Gsr Go.Proofs.Ytpebhbhdkmpjeaa.Q Go.Proofs.YtpebhbhdkmpjeaaW.PrintWords Go.Proofs.YtpebhbhdkmpjeaaW.PrintLast

section
variable (x3 : Int) (r0 : Int) (r1 : List UInt8) (s0 : Int) (s1 : List UInt8)

theorem sb_l2 (ys : List S34) (hy : ∀ y ∈ ys, -9223372036854775808 ≤ y.f0 ∧ y.f0 ≤ 9223372036854775807) (hl : ys.length ≤ 100) :
    ∀ (d i k : Nat), ys.length - i = d → i ≤ ys.length → 20001 + d ≤ k → storagebarterlaw03_SealBytes.l2 k ys (ys.length : Int) (i : Int) = some true := by
  intro d
  induction d with
  | zero =>
    intro i k hd hi hk
    obtain ⟨k, rfl⟩ : ∃ m, k = m + 1 := ⟨k - 1, by omega⟩
    rw [storagebarterlaw03_SealBytes.l2, if_neg (by omega)]
  | succ d ih =>
    intro i k hd hi hk
    obtain ⟨k, rfl⟩ : ∃ m, k = m + 1 := ⟨k - 1, by omega⟩
    have hm : rd_T34 ys (i : Int) ∈ ys := by
      unfold rd_T34
      rw [Int.toNat_natCast, List.getD_eq_getElem?_getD, List.getElem?_eq_getElem (show i < ys.length by omega), Option.getD_some]
      exact List.getElem_mem _
    have hr := hy _ hm
    obtain ⟨l, e⟩ := exB (rd_T34 ys (i : Int)).f1
    rw [storagebarterlaw03_SealBytes.l2, if_pos (by omega), if_pos (by omega), if_pos (by omega), e, Encode_eq _ _ hr, Option.bind_some, rEncode_eq _ _ _ hr (by omega), Option.bind_some, sName_eq _ _ _ hr (by omega), Option.bind_some, rName_eq _ _ _ hr (by omega), Option.bind_some, if_pos rfl, if_pos rfl, if_neg (by simp), if_pos rfl,
      w64 (by omega), show ((i : Int) + 1) = ((i + 1 : Nat) : Int) by omega]
    exact ih (i + 1) k (by omega) (by omega) (by omega)

theorem sb_l1 (v : List UInt8) (hv : v.length ≤ 1000000) (x94 : List ByteArray) (x95 x96 : Int) (x106 : List Int) (hl : x106.length ≤ 100) (K : Nat)
    (hc : ∀ k, K ≤ k → storagebarterlaw03_SealBytes.l0 k x3 x94 x95 (wrap64 (x96 + 1)) r0 (B r1) s0 (B s1) = some true) :
    ∀ (d i k : Nat), x106.length - i = d → i ≤ x106.length → K + 40 + d ≤ k → storagebarterlaw03_SealBytes.l1 k x3 (B v) x94 x95 x96 x106 (x106.length : Int) (i : Int) r0 (B r1) s0 (B s1) = some true := by
  intro d
  induction d with
  | zero =>
    intro i k hd hi hk
    obtain ⟨k, rfl⟩ : ∃ m, k = m + 1 := ⟨k - 1, by omega⟩
    rw [storagebarterlaw03_SealBytes.l1, if_neg (by omega)]
    exact hc k (by omega)
  | succ d ih =>
    intro i k hd hi hk
    obtain ⟨k, rfl⟩ : ∃ m, k = m + 1 := ⟨k - 1, by omega⟩
    rw [storagebarterlaw03_SealBytes.l1, if_pos (by omega), if_pos (by omega), if_pos (by omega), Decode_eq v _ _ (by omega) (by omega), Option.bind_some, rDecode_eq v _ _ (by omega) (by omega), Option.bind_some, if_neg (by simp), if_pos rfl, if_pos rfl,
      w64 (by omega), show ((i : Int) + 1) = ((i + 1 : Nat) : Int) by omega]
    exact ih (i + 1) k (by omega) (by omega) (by omega)

theorem sb_l0 (hr : -9223372036854775808 ≤ r0 ∧ r0 ≤ 9223372036854775807) (hs : -9223372036854775808 ≤ s0 ∧ s0 ≤ 9223372036854775807) (x94 : List ByteArray) (hl : x94.length ≤ 100) (hv : ∀ v ∈ x94, v.size ≤ 1000000) :
    ∀ (d i k : Nat), x94.length - i = d → i ≤ x94.length → 30000 + 100 * d ≤ k → storagebarterlaw03_SealBytes.l0 k x3 x94 (x94.length : Int) (i : Int) r0 (B r1) s0 (B s1) = some true := by
  intro d
  induction d with
  | zero =>
    intro i k hd hi hk
    obtain ⟨k, rfl⟩ : ∃ m, k = m + 1 := ⟨k - 1, by omega⟩
    rw [storagebarterlaw03_SealBytes.l0, if_neg (by omega), Option.bind_some]
    refine sb_l2 _ ?_ (by simp) 2 0 k rfl (by simp) (by omega)
    intro y hy
    simp only [List.mem_cons, List.not_mem_nil, or_false] at hy
    rcases hy with rfl | rfl
    · exact hr
    · exact hs
  | succ d ih =>
    intro i k hd hi hk
    obtain ⟨k, rfl⟩ : ∃ m, k = m + 1 := ⟨k - 1, by omega⟩
    have hm : rdOf ByteArray.empty x94 (i : Int) ∈ x94 := by
      unfold rdOf
      rw [Int.toNat_natCast, List.getD_eq_getElem?_getD, List.getElem?_eq_getElem (show i < x94.length by omega), Option.getD_some]
      exact List.getElem_mem _
    have hs := hv _ hm
    obtain ⟨v, e⟩ := exB (rdOf ByteArray.empty x94 (i : Int))
    rw [e] at hs
    rw [B_size] at hs
    rw [storagebarterlaw03_SealBytes.l0, if_pos (by omega), if_pos (by omega), if_pos (by omega), e, B_size, w64 (by omega), mod_eq _ _ (by omega) (by omega), Option.bind_some, Option.bind_some]
    refine sb_l1 x3 r0 r1 s0 s1 v hs x94 _ _ _ (by simp) (30000 + 100 * d) ?_ 3 0 k rfl (by simp) (by omega)
    intro j hj
    rw [w64 (by omega), show ((i : Int) + 1) = ((i + 1 : Nat) : Int) by omega]
    exact ih (i + 1) j (by omega) (by omega) (by omega)

theorem strOfNums_size (l : List Int) : (strOfNums l).size = l.length := by simp [strOfNums, ByteArray.size]

theorem cut_tmod (c : Int) (n : Nat) (hc : 0 ≤ c ∧ c ≤ 255) (hn : 0 < n) : 0 ≤ Int.tmod (wrap64 c) (n : Int) ∧ Int.tmod (wrap64 c) (n : Int) < n := by
  rw [w64 (by omega), Int.tmod_eq_emod_of_nonneg hc.1]
  exact ⟨Int.emod_nonneg c (by omega), Int.emod_lt_of_pos c (by omega)⟩

theorem sb_j0 (hr : -9223372036854775808 ≤ r0 ∧ r0 ≤ 9223372036854775807) (hs : -9223372036854775808 ≤ s0 ∧ s0 ≤ 9223372036854775807) (x2 : List UInt8) (h2 : x2.length ≤ 100000) (x5 : Int) (h5 : 0 ≤ x5 ∧ x5 ≤ 255) (x17 : List UInt8) (h17 : x17.length ≤ 100000) (x19 : List Int) (h19 : x19.length ≤ 300000) (k : Nat) (hk : 40000 ≤ k) :
    storagebarterlaw03_SealBytes.j0 k (B x2) x3 x5 (B x17) x19 r0 (B r1) s0 (B s1) = some true := by
  obtain ⟨k, rfl⟩ : ∃ m, k = m + 1 := ⟨k - 1, by omega⟩
  have hc := cut_tmod x5 (x17.length + 1) h5 (by omega)
  rw [show ((x17.length + 1 : Nat) : Int) = (x17.length : Int) + 1 by omega] at hc
  rw [storagebarterlaw03_SealBytes.j0, B_size, B_size, w64 (x := (x17.length : Int) + 1) (by omega), if_pos (by omega), if_neg (by omega)]
  generalize Int.tmod (wrap64 x5) ((x17.length : Int) + 1) = c at hc
  rw [if_pos hc.1, if_pos (by omega), Option.bind_some]
  refine sb_l0 x3 r0 r1 s0 s1 hr hs _ (by simp) ?_ 5 0 k rfl (by simp) (by omega)
  intro v hv
  simp only [List.mem_cons, List.not_mem_nil, or_false] at hv
  rcases hv with rfl | rfl | rfl | rfl | rfl <;> simp only [B_append, B_extract, B_size, strOfNums_size, List.length_append, List.length_drop, List.length_take] <;> omega
end

theorem SealBytes (a0 : ByteArray) (r0 : Int) (r1 : ByteArray) (a2 : ByteArray) (a3 a4 a5 a6 : Int) (h0 : a0.size ≤ 140737488351232) (h1 : r1.size ≤ 140737488351232) (h2 : a2.size ≤ 140737488351232) (hr : (Lit.int .i64 r0).wf = true) (h5 : (Lit.int .u8 a5).wf = true) : ∃ k, storagebarterlaw03_SealBytes.f k a0 r0 r1 a2 a3 a4 a5 a6 = some true := by
  obtain ⟨x, rfl⟩ := exB a0
  obtain ⟨y, rfl⟩ := exB r1
  obtain ⟨s, rfl⟩ := exB a2
  rw [B_size] at h0 h1 h2
  have hb := bounds_i64 hr
  have hc := bounds_u8 h5
  refine ⟨100000, ?_⟩
  unfold storagebarterlaw03_SealBytes.f
  rw [law03_sane, Option.bind_some, if_pos rfl, B_size, B_size, B_size, w64 (x := (x.length : Int) + y.length) (by omega), w64 (by omega)]
  by_cases hl : (x.length : Int) + y.length + s.length > 40000
  · rw [if_pos hl]
  have hk : isKey (a4 % 4294967294) := by unfold isKey; omega
  have hk' := hk
  unfold isKey at hk'
  rw [if_neg hl, mod_eq _ _ (by omega) (by omega), Option.bind_some, rSeal_eq, Option.bind_some, if_pos hk]
  generalize a4 % 4294967294 = key at hk hk'
  obtain ⟨s0, s1, e9, es, hs0⟩ : ∃ (s0 : Int) (s1 : List UInt8) (e9 : Int), (if x.length > 16384 then ((0 : Int), B [], (4 : Int)) else (3 * key + 1, B x, 0)) = (s0, B s1, e9) ∧ (-9223372036854775808 ≤ s0 ∧ s0 ≤ 9223372036854775807) := by
    by_cases hx : x.length > 16384
    · rw [if_pos hx]; exact ⟨_, _, _, rfl, by omega⟩
    · rw [if_neg hx]; exact ⟨_, _, _, rfl, by omega⟩
  rw [es]
  simp only
  rw [rEncode_eq _ _ _ hs0 (by omega), Option.bind_some]
  obtain ⟨w, e8, ew, hw⟩ : ∃ (w : List UInt8) (e8 : Int), (if isSealed s0 s1 then (B (encS s0 s1), (0 : Int)) else (B [], 2)) = (B w, e8) ∧ w.length ≤ 20000 := by
    by_cases hx : isSealed s0 s1
    · rw [if_pos hx]
      have := hx.2
      have := encS_len s0 s1 hs0 (by omega)
      exact ⟨_, _, rfl, by omega⟩
    · rw [if_neg hx]; exact ⟨_, _, rfl, by simp⟩
  rw [ew]
  simp only
  simp only [B_append, B_size]
  rw [if_pos (by omega), if_pos (by simp only [List.length_nil, List.length_append]; omega), Option.bind_some]
  have hyl : (([] : List Int) ++ bytesOf (B (w ++ s))).length = w.length + s.length := by simp [bytesOf, B]
  generalize ([] : List Int) ++ bytesOf (B (w ++ s)) = q at hyl
  by_cases hq : (q.length : Int) > 0
  · have ht := cut_tmod a5 q.length hc (by omega)
    rw [if_pos hq, if_neg (by omega), if_pos ht.1, if_pos ht.2]
    exact sb_j0 a3 r0 y s0 s1 hb hs0 s (by omega) a5 hc w (by omega) _ (by rw [List.length_set]; omega) 100000 (by omega)
  · rw [if_neg hq]
    exact sb_j0 a3 r0 y s0 s1 hb hs0 s (by omega) a5 hc w (by omega) _ (by omega) 100000 (by omega)

end Go.Proofs.Ytpebhbhdkmpjeaa.PureSb
