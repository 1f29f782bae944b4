/- ScriptStepsSaid -/
import Derived.Test.YtcjdnahgffkbdaaCScriptSteps5
import Derived.Test.YtcjdnahgffkbdaaCScriptSteps4
import Derived.Deep.RegionLaw
import Derived.Test.YtcjdnahgffkbdaaCScriptSteps2
import Derived.Laws.Cover1
import Derived.StillTailTactics
import Derived.Deep.LoopGhost
import Derived.WalkArith
import Derived.Lib.Hide
namespace Go.Proofs.Ytcjdnahgffkbdaa.Ssy
open Go Go.RowKit Go.Proofs Go.Proofs.Ytcjdnahgffkbdaa.Gm Go.Proofs.Ytcjdnahgffkbdaa.Spt Go.Proofs.Ytcjdnahgffkbdaa.Snx Go.Proofs.Ytcjdnahgffkbdaa.Q Go.Proofs.YtcjdnahgffkbdaaW.PrintWords Go.Proofs.YtcjdnahgffkbdaaW.PrintLast Go.Proofs.YtcjdnahgffkbdaaW.PrintMore
set_option linter.unusedVariables false
structure NxV (w W : World) (p0 p1 : Int) : Prop where
  hb : Below w.heap.size w W
  b18 : W.heap[w.heap.size]? = some (.cells #[.int .i64 0, .int .i64 0, .int .i64 0, .int .i64 0, .int .i64 0, .int .i64 0, .int .i64 0, .int .i64 0, .int .i64 0, .int .i64 0, .int .i64 0] 64 (0, 0))
  b20 : W.heap[w.heap.size + 1]? = some (.cells #[.int .i64 p0, .int .i64 p1] 105 (0, 0))
theorem NxV.below {w W W' : World} {p0 p1 : Int} (h : NxV w W p0 p1) (hb : Below W.heap.size W W') : NxV w W' p0 p1 := ⟨below_step h.hb hb, blk_below h.b18 hb, blk_below h.b20 hb⟩
set_option maxRecDepth 100000 in
set_option maxHeartbeats 8000000 in
theorem say1_x (p0 dst tick kind a b c d : Int) (w : World) (h0 : 1 ≤ p0 ∧ p0 ≤ 1000000) (i2 : I64 dst) (i3 : I64 tick) (i4 : I64 kind) (i5 : I64 a) (i6 : I64 b) (i7 : I64 c) (i8 : I64 d) :
    Calls Try.prog 58 #[.int .i64 p0, .int .i64 dst, .int .i64 1, .int .i64 tick, .int .i64 kind, .int .i64 a, .int .i64 b, .int .i64 c, .int .i64 d] w fun e w' =>
      ∃ (x0 x1 x2 x3 x4 x5 x6 x7 x8 x9 x10 : Int), e = .returned (.agg #[.int .i64 x0, .int .i64 x1, .int .i64 x2, .int .i64 x3, .int .i64 x4, .int .i64 x5, .int .i64 x6, .int .i64 x7, .int .i64 x8, .int .i64 x9, .int .i64 x10]) ∧ W11 ⟨x0, x1, x2, x3, x4, x5, x6, x7, x8, x9, x10⟩ ∧ Below w.heap.size w w' := by
  have hu39 := Try.underlying64
  have hu25 := Try.underlying105
  have H1 := Aside0.mk h0
  have HI := Aside0.mk (And.intro i2 (And.intro i3 (And.intro i4 (And.intro i5 (And.intro i6 (And.intro i7 i8))))))
  have hw : IntKind.i64.wrap (100 + p0) = 100 + p0 := by rw [IntWalk.i64_in _ (by omega)]
  clear h0 i2 i3 i4 i5 i6 i7 i8
  go_enter Try.func58, Try.ntmps58
  go_upto_region 3 with fail
  obtain ⟨W1, hW1⟩ : ∃ W1, W1 = (w.alloc (.cells #[.int .i64 0, .int .i64 0, .int .i64 0, .int .i64 0, .int .i64 0, .int .i64 0, .int .i64 0, .int .i64 0, .int .i64 0, .int .i64 0, .int .i64 0] 64)).alloc (.cells #[.int .i64 p0, .int .i64 (100 + p0)] 105) := ⟨_, rfl⟩
  have HX : Aside0 (NxV w W1 p0 (100 + p0)) := ⟨by subst hW1; exact ⟨by repeat (first | exact Below.refl _ _ | (with_reducible apply below_alloc)), blk_alloc (heap_alloc_new w _) _, two_new w _ _ _ _⟩⟩
  rw [← hW1]
  clear hW1
  have hv0 : W1.cell? ⟨w.heap.size + 1, 0, none⟩ = some (.int .i64 p0) := (blk_cell HX.out.b20 0).trans rfl
  have hv1 : W1.cell? ⟨w.heap.size + 1, 1, none⟩ = some (.int .i64 (100 + p0)) := (blk_cell HX.out.b20 1).trans rfl
  have HP : Aside0 ((1 ≤ p0 ∧ p0 ≤ 2147483646) ∧ (1 ≤ 100 + p0 ∧ 100 + p0 ≤ 2147483646)) := ⟨by have := H1.out; omega⟩
  go_wp2
  go_loopw [19, 21] (fun s19 s21 wr => s19 = .slice none 0 0 ∧ s21 = .int .i64 1 ∧ wr = W1) (fun _ _ _ => 0)
  case atStart => exact ⟨rfl, rfl, rfl⟩
  case round =>
    obtain ⟨rfl, rfl, rfl⟩ := hrel
    go_wp2_with (first | (go_at_call 64; go_loud (with_reducible refine (next0_x p0 (100 + p0) dst tick kind a b c d _ HP.out.1 HP.out.2 HI.out.1 HI.out.2.1 HI.out.2.2.1 HI.out.2.2.2.1 HI.out.2.2.2.2.1 HI.out.2.2.2.2.2.1 HI.out.2.2.2.2.2.2).mono ?_); go_loud (rintro e w2 ⟨x0, x1, x2, x3, x4, x5, x6, x7, x8, x9, x10, er, rfl, hW, hb⟩; have HWR := Aside0.mk hW; have n1_ := Aside0.mk (HX.out.below hb); clear HX hW hb; have HX := n1_; clear n1_; have hz2 := blk_lt HX.out.b18; have hq0_ : w2.cell? ⟨w.heap.size, 0, none⟩ = some (.int .i64 0) := (blk_cell HX.out.b18 0).trans rfl; have hf0_ := blk_frozen HX.out.b18 0; have hq1_ : w2.cell? ⟨w.heap.size, 1, none⟩ = some (.int .i64 0) := (blk_cell HX.out.b18 1).trans rfl; have hf1_ := blk_frozen HX.out.b18 1; have hq2_ : w2.cell? ⟨w.heap.size, 2, none⟩ = some (.int .i64 0) := (blk_cell HX.out.b18 2).trans rfl; have hf2_ := blk_frozen HX.out.b18 2; have hq3_ : w2.cell? ⟨w.heap.size, 3, none⟩ = some (.int .i64 0) := (blk_cell HX.out.b18 3).trans rfl; have hf3_ := blk_frozen HX.out.b18 3; have hq4_ : w2.cell? ⟨w.heap.size, 4, none⟩ = some (.int .i64 0) := (blk_cell HX.out.b18 4).trans rfl; have hf4_ := blk_frozen HX.out.b18 4; have hq5_ : w2.cell? ⟨w.heap.size, 5, none⟩ = some (.int .i64 0) := (blk_cell HX.out.b18 5).trans rfl; have hf5_ := blk_frozen HX.out.b18 5; have hq6_ : w2.cell? ⟨w.heap.size, 6, none⟩ = some (.int .i64 0) := (blk_cell HX.out.b18 6).trans rfl; have hf6_ := blk_frozen HX.out.b18 6; have hq7_ : w2.cell? ⟨w.heap.size, 7, none⟩ = some (.int .i64 0) := (blk_cell HX.out.b18 7).trans rfl; have hf7_ := blk_frozen HX.out.b18 7; have hq8_ : w2.cell? ⟨w.heap.size, 8, none⟩ = some (.int .i64 0) := (blk_cell HX.out.b18 8).trans rfl; have hf8_ := blk_frozen HX.out.b18 8; have hq9_ : w2.cell? ⟨w.heap.size, 9, none⟩ = some (.int .i64 0) := (blk_cell HX.out.b18 9).trans rfl; have hf9_ := blk_frozen HX.out.b18 9; have hq10_ : w2.cell? ⟨w.heap.size, 10, none⟩ = some (.int .i64 0) := (blk_cell HX.out.b18 10).trans rfl; have hf10_ := blk_frozen HX.out.b18 10)))
    have HB := Aside0.mk HX.out.hb
    refine bodyPost_ret (results_cell_row rfl _ _ w.heap.size 64 #[.int .i64 x0, .int .i64 x1, .int .i64 x2, .int .i64 x3, .int .i64 x4, .int .i64 x5, .int .i64 x6, .int .i64 x7, .int .i64 x8, .int .i64 x9, .int .i64 x10] (0, 0) _ rfl (by (with_reducible refine blk_alloc ?_ _); (with_reducible exact put11 _ _ _ _ _ _ _ _ _ _ _ _ _ _ _ _ _ _ _ _ _ _ HX.out.b18)) Try.underlying64 rfl (by kernel_rfl)) rfl ?_
    exact ⟨_, _, _, _, _, _, _, _, _, _, _, rfl, HWR.out, by (repeat (with_reducible first | exact HB.out | exact Below.refl _ _ | apply below_alloc | apply pw_below_drewN | apply below_drew1 | refine below_set ?_ (Nat.le_refl _)))⟩
end Go.Proofs.Ytcjdnahgffkbdaa.Ssy

namespace Go.Proofs.Ytcjdnahgffkbdaa.Q
open Go.RowKit Go.Proofs.YtcjdnahgffkbdaaW.PrintWords Go.Proofs.YtcjdnahgffkbdaaW.PrintLast Go.Proofs.YtcjdnahgffkbdaaW.PrintMore Go.Proofs.Ytcjdnahgffkbdaa.Gput Go.Proofs.Ytcjdnahgffkbdaa.Gputl
attribute [local go_sem] max2_int min2_int max_two min_two max_three min_three max_four min_four   -- for this text's walks alone
set_option linter.unusedVariables false
set_option linter.unusedSimpArgs false
def IsS59 (w0 W : World) (g : Nat) (f0 : List Int) (f1 : Int) : Prop := ∃ A0 c0, W.heap[g]? = some (.cells #[.slice A0 f0.length c0, .int .i64 f1] 59 (0, 0)) ∧ w0.heap.size ≤ g ∧ Kd.C (Kd.int .u8) w0 A0 f0.length f0
theorem IsS59.grown {w0 W : World} {g : Nat} {f0 : List Int} {f1 : Int} {W1 : World} {row : Option Nat} (h : IsS59 w0 W g f0 f1) (hw : W.grownBy W1 row) (hne : some g ≠ row) : IsS59 w0 W1 g f0 f1 := by
 obtain ⟨A0, c0, hb, hg, hr0⟩ := h
 exact ⟨A0, c0, blk_grown hb hw hne, hg, hr0⟩
theorem IsS59.kept {w0 W : World} {g : Nat} {f0 : List Int} {f1 : Int} {W1 : World} {S : Nat → Prop} (h : IsS59 w0 W g f0 f1) (hk : Kept W W1 S) (hne : ¬ S g) : IsS59 w0 W1 g f0 f1 := by
 obtain ⟨A0, c0, hb, hg, hr0⟩ := h
 exact ⟨A0, c0, blk_kept hb hk hne, hg, hr0⟩
theorem IsS59.below {w0 W : World} {g : Nat} {f0 : List Int} {f1 : Int} {W1 : World} (h : IsS59 w0 W g f0 f1) (hw : Below W.heap.size W W1) : IsS59 w0 W1 g f0 f1 := h.grown (grown_of_below hw none) (by simp)
theorem IsS59.alloc {w0 W : World} {g : Nat} {f0 : List Int} {f1 : Int} (h : IsS59 w0 W g f0 f1) (o : Obj) : IsS59 w0 (W.alloc o) g f0 f1 := h.below (below_alloc (Below.refl _ _) o)
theorem IsS59.drewN {w0 W : World} {g : Nat} {f0 : List Int} {f1 : Int} (h : IsS59 w0 W g f0 f1) (m : Nat) : IsS59 w0 (W.drewN m) g f0 f1 := h
theorem IsS59.drew {w0 W : World} {g : Nat} {f0 : List Int} {f1 : Int} (h : IsS59 w0 W g f0 f1) : IsS59 w0 W.drew g f0 f1 := h
theorem IsS59.at_ {w0 W : World} {g : Nat} {f0 : List Int} {f1 : Int} {w' : World} {m : Nat} (hq : W.drewN m = w') (h : IsS59 w0 W g f0 f1) : IsS59 w0 w' g f0 f1 := by subst hq; exact IsS59.drewN h m
theorem IsS59.apart {w0 W : World} {g : Nat} {f0 : List Int} {f1 : Int} {α : Type} {d : Kd α} {e : Nat} {base : Nat} {ok : Nat → Prop} {v : Value} {xs : List α} (h : IsS59 w0 W g f0 f1) (ho : d.R e W base ok v xs) (ht : ∀ q, q ∈ e :: d.E → q ≠ 59) : d.R e W base (fun k => ok k ∧ k ≠ g) v xs := by
 obtain ⟨A0, c0, hb, hg, hr0⟩ := h
 exact Kd.R_types ho hb ht
theorem IsS59.own_ne {w0 W : World} {g : Nat} {f0 : List Int} {f1 : Int} {α : Type} {d : Kd α} {e : Nat} {base : Nat} {ok : Nat → Prop} {v : Value} {xs : List α} (h : IsS59 w0 W g f0 f1) (ho : d.R e W base ok v xs) (ht : e ≠ 59) : some g ≠ v.ownBlock := by
 obtain ⟨A0, c0, hb, hg, hr0⟩ := h
 exact Kd.R_ne ho hb ht
theorem IsS59.ge {w0 W : World} {g : Nat} {f0 : List Int} {f1 : Int} (h : IsS59 w0 W g f0 f1) : w0.heap.size ≤ g := by
 obtain ⟨A0, c0, hb, hg, hr0⟩ := h
 exact hg
theorem IsS59.far {w0 W : World} {g : Nat} {f0 : List Int} {f1 : Int} {p : Addr} (h : IsS59 w0 W g f0 f1) (hne : g ≠ p.block) (u : Value) : IsS59 w0 (W.setCell p u) g f0 f1 := by
 obtain ⟨A0, c0, hb, hg, hr0⟩ := h
 exact ⟨A0, c0, blk_far hb hne u, hg, hr0⟩
theorem cellS59_0 {W : World} {g : Nat} {A0 : Option Addr} {c0 : Nat} {f0 : List Int} {f1 : Int} (h : W.heap[g]? = some (.cells #[.slice A0 f0.length c0, .int .i64 f1] 59 (0, 0))) : W.cell? ⟨g, 0, none⟩ = some (.slice A0 f0.length c0) := (blk_cell h 0).trans rfl
theorem cellS59_1 {W : World} {g : Nat} {A0 : Option Addr} {c0 : Nat} {f0 : List Int} {f1 : Int} (h : W.heap[g]? = some (.cells #[.slice A0 f0.length c0, .int .i64 f1] 59 (0, 0))) : W.cell? ⟨g, 1, none⟩ = some (.int .i64 f1) := (blk_cell h 1).trans rfl
theorem IsS59.set_1 {w0 W : World} {g : Nat} {f0 : List Int} {f1 : Int} (h : IsS59 w0 W g f0 f1) (x : Int) : IsS59 w0 (W.setCell ⟨g, 1, none⟩ (.int .i64 x)) g f0 x := by
 obtain ⟨A0, c0, hb, hg, hr0⟩ := h
 exact ⟨A0, c0, by simpa using blk_set hb 1 (.int .i64 x), hg, hr0⟩
theorem IsS59.new (w0 W : World) (A0 : Option Addr) (c0 : Nat) (f0 : List Int) (f1 : Int) (hB : Below w0.heap.size w0 W) (hr0 : Kd.C (Kd.int .u8) w0 A0 f0.length f0) : IsS59 w0 (W.alloc (.cells #[.slice A0 f0.length c0, .int .i64 f1] 59)) W.heap.size f0 f1 := ⟨A0, c0, by simpa using heap_alloc_new W _, hB.size, hr0⟩
def storagebarterplay_New.f (l0 : List Int) : Option (List Int × Int) := if (l0.length : Int) > 300 then (if 300 ≤ (l0.length : Int) then (some (l0.take 300, 0)) else (none)) else (some (l0, 0))
set_option maxHeartbeats 8000000 in
set_option maxRecDepth 100000 in
theorem storagebarterplay_New.calls (A0 : Option Addr) (c0 : Nat) (l0 : List Int) (r1 : List Int) (r2 : Int) (w0 w : World) (hB : Below w0.heap.size w0 w) (hr0 : Kd.C (Kd.int .u8) w0 A0 l0.length l0) (hc0 : l0.length ≤ c0) (h : storagebarterplay_New.f l0 = some (r1, r2)) :
 Calls Try.prog 12 #[.slice A0 l0.length c0] w fun e w' => ∃ g_ : Nat, e = .returned (.pointer (some ⟨g_, 0, none⟩)) ∧ IsS59 w0 w' g_ r1 r2 ∧ Below w0.heap.size w0 w' ∧ Below w.heap.size w w' := by
 have hu59 := Try.underlying59
 have HR0 := Aside0.mk hr0
 have HC0 := Aside0.mk hc0
 clear hr0 hc0
 have HBW := Aside0.mk (Below.refl w.heap.size w)
 have HW0 := Aside0.mk hB.size
 have HB := Aside0.mk hB
 clear hB
 have H : (if (l0.length : Int) > 300 then (if 300 ≤ (l0.length : Int) then (some (l0.take 300, 0)) else (none)) else (some (l0, 0))) = some (r1, r2) := h
 clear h
 by_cases c2 : (l0.length : Int) > 300
 ·rw [if_pos c2] at H
  have c2b0 : decide (300 < (l0.length : Int)) = true := decide_eq_true c2
  have c2b1 : decide (300 < l0.length) = true := decide_eq_true (by omega)
  clear c2
  by_cases c3 : 300 ≤ (l0.length : Int)
  ·rw [if_pos c3] at H
   have c3b0 := eq_true c3
   have c3b1 : decide (300 ≤ (l0.length : Int)) = true := decide_eq_true c3
   clear c3
   simp only [Option.some.injEq, Prod.mk.injEq] at H
   obtain ⟨rfl, rfl⟩ := H
   obtain ⟨i04, hi04, _, hsz4, _⟩ := info_parts info5
   obtain ⟨hcut4, hA4, hC4⟩ := print_take_of (P := Try.prog) (Value.int .u8) 0 23 5 .i64 Try.underlying23 hi04 hsz4 A0 c0 l0 300 (by omega) (of_decide_eq_true (by first | (with_reducible assumption) | assumption)) HC0.out
   have HR205 := Aside0.mk (Kd.C_of_reads (h1 := fun _ => rfl) (hA4 _ (Kd.reads_of_C HR0.out)))
   have HC205 := Aside0.mk hC4
   clear hA4 hC4 hi04 hsz4
   go_enter Try.func12, Try.ntmps12
   go_wp2_with (first | ((with_reducible refine gate_dst (N := 10) rfl ?_); refine box_event ?hg (N := 10) ?hd (cs := #[.slice A0 (l0.take 300).length c0, .int .i64 0]) (t := 59) ?hr ?_; (case hd => rfl); (case hg => rfl); (case hr => first | (go_simp; done) | (go_simp; rfl)); intro gb206 hg w5 hbox hb; have n0_ := Aside0.mk (below_step HBW.out hb); have n1_ := Aside0.mk (below_step (by repeat (first | (with_reducible first | exact HB.out | apply below_alloc | apply pw_below_drewN | apply below_drew1) | exact HB.out)) hb); have n2_ := Aside0.mk (hbox); have n3_ := Aside0.mk ((by rw [hg]; exact (below_size (by repeat (first | (with_reducible first | exact HBW.out | apply below_alloc | apply pw_below_drewN | apply below_drew1) | exact HBW.out))) : w.heap.size ≤ gb206)); have n4_ := Aside0.mk ((Nat.le_trans HW0.out (by rw [hg]; exact (below_size (by repeat (first | (with_reducible first | exact HBW.out | apply below_alloc | apply pw_below_drewN | apply below_drew1) | exact HBW.out))) : w.heap.size ≤ gb206) : w0.heap.size ≤ gb206)); clear HBW; clear HB; have HBW := n0_; have HB := n1_; have BK206 := n2_; have GW206 := n3_; have GE206 := n4_; clear n0_ n1_ n2_ n3_ n4_; clear hb hbox hg))
   go_ret
   exact ⟨_, rfl, (show IsS59 w0 _ gb206 (l0.take 300) 0 from ⟨_, _, by (with_reducible repeat (first | refine blk_drewN ?_ _ | refine blk_drew ?_ | refine blk_alloc ?_ _)); exact BK206.out, GE206.out, HR205.out⟩), by repeat (first | (with_reducible first | exact HB.out | apply below_alloc | apply pw_below_drewN | apply below_drew1 | refine below_set ?_ GE206.out) | exact HB.out), by repeat (first | (with_reducible first | exact HBW.out | apply below_alloc | apply pw_below_drewN | apply below_drew1 | refine below_set ?_ GW206.out) | exact HBW.out)⟩
  ·rw [if_neg c3] at H
   exact absurd H (by simp)
 ·rw [if_neg c2] at H
  have c2b0 : decide (300 < (l0.length : Int)) = false := decide_eq_false c2
  have c2b1 : decide (300 < l0.length) = false := decide_eq_false (by omega)
  clear c2
  simp only [Option.some.injEq, Prod.mk.injEq] at H
  obtain ⟨rfl, rfl⟩ := H
  go_enter Try.func12, Try.ntmps12
  go_wp2_with (first | ((with_reducible refine gate_dst (N := 10) rfl ?_); refine box_event ?hg (N := 10) ?hd (cs := #[.slice A0 l0.length c0, .int .i64 0]) (t := 59) ?hr ?_; (case hd => rfl); (case hg => rfl); (case hr => first | (go_simp; done) | (go_simp; rfl)); intro gb207 hg w6 hbox hb; have n0_ := Aside0.mk (below_step HBW.out hb); have n1_ := Aside0.mk (below_step (by repeat (first | (with_reducible first | exact HB.out | apply below_alloc | apply pw_below_drewN | apply below_drew1) | exact HB.out)) hb); have n2_ := Aside0.mk (hbox); have n3_ := Aside0.mk ((by rw [hg]; exact (below_size (by repeat (first | (with_reducible first | exact HBW.out | apply below_alloc | apply pw_below_drewN | apply below_drew1) | exact HBW.out))) : w.heap.size ≤ gb207)); have n4_ := Aside0.mk ((Nat.le_trans HW0.out (by rw [hg]; exact (below_size (by repeat (first | (with_reducible first | exact HBW.out | apply below_alloc | apply pw_below_drewN | apply below_drew1) | exact HBW.out))) : w.heap.size ≤ gb207) : w0.heap.size ≤ gb207)); clear HBW; clear HB; have HBW := n0_; have HB := n1_; have BK207 := n2_; have GW207 := n3_; have GE207 := n4_; clear n0_ n1_ n2_ n3_ n4_; clear hb hbox hg))
  go_ret
  exact ⟨_, rfl, (show IsS59 w0 _ gb207 l0 0 from ⟨_, _, by (with_reducible repeat (first | refine blk_drewN ?_ _ | refine blk_drew ?_ | refine blk_alloc ?_ _)); exact BK207.out, GE207.out, HR0.out⟩), by repeat (first | (with_reducible first | exact HB.out | apply below_alloc | apply pw_below_drewN | apply below_drew1 | refine below_set ?_ GE207.out) | exact HB.out), by repeat (first | (with_reducible first | exact HBW.out | apply below_alloc | apply pw_below_drewN | apply below_drew1 | refine below_set ?_ GW207.out) | exact HBW.out)⟩
end Go.Proofs.Ytcjdnahgffkbdaa.Q

namespace Go.Proofs.Ytcjdnahgffkbdaa.Q
open Go.RowKit Go.Proofs.YtcjdnahgffkbdaaW.PrintWords Go.Proofs.YtcjdnahgffkbdaaW.PrintLast Go.Proofs.YtcjdnahgffkbdaaW.PrintMore Go.Proofs.Ytcjdnahgffkbdaa.Gput Go.Proofs.Ytcjdnahgffkbdaa.Gputl
attribute [local go_sem] max2_int min2_int max_two min_two max_three min_three max_four min_four   -- for this text's walks alone
set_option linter.unusedVariables false
set_option linter.unusedSimpArgs false
def storagebarterplay_Dice_Pick.f (s0_0 : List Int) (s0_1 : Int) (a1 : Int) : Option (Int × Int) := if s0_1 ≥ (s0_0.length : Int) then (some (0, s0_1)) else (if 0 ≤ (wrap64 ((wrap64 (s0_1 + 1)) - 1)) then (if (wrap64 ((wrap64 (s0_1 + 1)) - 1)) < (s0_0.length : Int) then (if a1 = 0 then (none) else (some (Int.tmod (wrap64 (rd s0_0 (wrap64 ((wrap64 (s0_1 + 1)) - 1)))) a1, wrap64 (s0_1 + 1)))) else (none)) else (none))
set_option maxHeartbeats 8000000 in
set_option maxRecDepth 100000 in
theorem storagebarterplay_Dice_Pick.calls (g : Nat) (s0_0 : List Int) (s0_1 : Int) (a1 : Int) (r1 : Int) (r2 : Int) (w0 w : World) (hI : IsS59 w0 w g s0_0 s0_1) (hB : Below w0.heap.size w0 w) (h : storagebarterplay_Dice_Pick.f s0_0 s0_1 a1 = some (r1, r2)) :
 Calls Try.prog 28 #[.pointer (some ⟨g, 0, none⟩), .int .i64 a1] w fun e w' => e = .returned (.int .i64 r1) ∧ IsS59 w0 w' g s0_0 r2 ∧ Below w0.heap.size w0 w' ∧ KeepBut w w' g none := by
 have HI0 := Aside0.mk hI
 have HK := Aside0.mk (KeepBut.refl w g none)
 have HL := Aside0.mk hB.size
 clear hI
 have HW0 := Aside0.mk hB.size
 have HB := Aside0.mk hB
 clear hB
 have H : (if s0_1 ≥ (s0_0.length : Int) then (some (0, s0_1)) else (if 0 ≤ (wrap64 ((wrap64 (s0_1 + 1)) - 1)) then (if (wrap64 ((wrap64 (s0_1 + 1)) - 1)) < (s0_0.length : Int) then (if a1 = 0 then (none) else (some (Int.tmod (wrap64 (rd s0_0 (wrap64 ((wrap64 (s0_1 + 1)) - 1)))) a1, wrap64 (s0_1 + 1)))) else (none)) else (none))) = some (r1, r2) := h
 clear h
 by_cases c3 : s0_1 ≥ (s0_0.length : Int)
 ·rw [if_pos c3] at H
  have c3b0 : decide ((s0_0.length : Int) ≤ s0_1) = true := decide_eq_true c3
  clear c3
  simp only [Option.some.injEq, Prod.mk.injEq] at H
  obtain ⟨rfl, rfl⟩ := H
  obtain ⟨ASz4_0, cSz4_0, HGz4, hgz4, HSz4_0⟩ := HI0.out
  have hcz4_0 := cellS59_0 HGz4
  have hcz4_1 := cellS59_1 HGz4
  have hfz4_1 := blk_frozen HGz4 1
  clear HGz4 hgz4
  go_enter Try.func28, Try.ntmps28
  go_wp2
  repeat (go_quiet (fail); try go_wp2)
  go_ret
  exact ⟨by first | rfl | (simp [errW_none, errW_some] <;> rfl) | (simp [*, errW_none, errW_some] <;> rfl), by repeat (first | (with_reducible first | exact HI0.out | apply IsS59.alloc | apply IsS59.drewN | apply IsS59.drew | apply IsS59.set_1) | exact HI0.out), by repeat (first | (with_reducible first | exact HB.out | apply below_alloc | apply pw_below_drewN | apply below_drew1 | refine below_set ?_ (IsS59.ge HI0.out)) | exact HB.out), by repeat (first | (with_reducible first | exact HK.out | apply KeepBut.set_ | apply keep_drewN | apply keep_drew | apply keep_alloc) | exact HK.out)⟩
 ·rw [if_neg c3] at H
  have c3b0 : decide ((s0_0.length : Int) ≤ s0_1) = false := decide_eq_false c3
  clear c3
  obtain ⟨ji5, hji5⟩ : ∃ j_ : Int, (wrap64 ((wrap64 (s0_1 + 1)) - 1)) = j_ := ⟨_, rfl⟩
  replace H : (if 0 ≤ (ji5) then (if (ji5) < (s0_0.length : Int) then (if a1 = 0 then (none) else (some (Int.tmod (wrap64 (rd s0_0 (ji5))) a1, wrap64 (s0_1 + 1)))) else (none)) else (none)) = some (r1, r2) := by first | (rw [hji5] at H; exact H) | (simp only [hji5] at H ⊢; exact H)
  have hji5w : (IntKind.i64.wrap ((wrap64 (s0_1 + 1)) - 1)) = ji5 := (i64_w _).trans hji5
  by_cases c6 : 0 ≤ (ji5)
  ·rw [if_pos c6] at H
   have c6b0 : decide (0 ≤ (ji5)) = true := decide_eq_true c6
   clear c6
   by_cases c7 : (ji5) < (s0_0.length : Int)
   ·rw [if_pos c7] at H
    have c7b0 : decide ((ji5) < (s0_0.length : Int)) = true := decide_eq_true c7
    clear c7
    by_cases c8 : a1 = 0
    ·rw [if_pos c8] at H
     exact absurd H (by simp)
    ·rw [if_neg c8] at H
     have c8b0 : (a1 == 0) = false := beq_eq_false_iff_ne.mpr c8
     have c8b1 : (a1 != 0) = true := bne_iff_ne.mpr c8
     simp only [Option.some.injEq, Prod.mk.injEq] at H
     obtain ⟨rfl, rfl⟩ := H
     obtain ⟨ASz9_0, cSz9_0, HGz9, hgz9, HSz9_0⟩ := HI0.out
     have hcz9_0 := cellS59_0 HGz9
     have hcz9_1 := cellS59_1 HGz9
     have hfz9_1 := blk_frozen HGz9 1
     clear HGz9 hgz9
     have p208 : 0 ≤ ((ji5) : Int) := of_decide_eq_true (by first | (with_reducible assumption) | assumption)
     have q208 : (ji5) < (s0_0.length : Int) := of_decide_eq_true (by first | (with_reducible assumption) | assumption)
     obtain ⟨ad208, e208, hx208_0⟩ := Kd.at_int HSz9_0 (ji5) p208 q208
     cases e208
     have hn208_0 : ad208.block ≠ g := Nat.ne_of_lt (Nat.lt_of_lt_of_le (by have := World.block_lt_of_cell? _ _ hx208_0; first | rwa [add_block] at this | exact this) (IsS59.ge HI0.out))
     replace hx208_0 := pw_cell_below HB.out hx208_0
     replace hx208_0 := (cell_far (p := ⟨g, 1, none⟩) (by first | (rw [add_block]; exact hn208_0) | (show (Addr.add _ _).block ≠ _; rw [add_block]; exact hn208_0) | exact hn208_0) (.int .i64 (wrap64 (s0_1 + 1)))).trans hx208_0
     (try have hy208_0 := fun (n_ : Nat) => (show (((w.drewN n_).setCell ⟨g, 1, none⟩ (.int .i64 (wrap64 (s0_1 + 1))))).cell? _ = some _ from hx208_0))
     clear hn208_0
     replace p208 := eq_true p208
     replace q208 := eq_true q208
     go_enter Try.func28, Try.ntmps28
     go_wp2
     repeat (go_quiet (fail); try go_wp2)
     go_ret
     exact ⟨by first | rfl | (simp [errW_none, errW_some] <;> rfl) | (simp only [← hji5]; first | rfl | (simp [errW_none, errW_some] <;> rfl)) | (simp [*, errW_none, errW_some] <;> rfl), by repeat (first | (with_reducible first | exact HI0.out | apply IsS59.alloc | apply IsS59.drewN | apply IsS59.drew | apply IsS59.set_1) | exact HI0.out), by repeat (first | (with_reducible first | exact HB.out | apply below_alloc | apply pw_below_drewN | apply below_drew1 | refine below_set ?_ (IsS59.ge HI0.out)) | exact HB.out), by repeat (first | (with_reducible first | exact HK.out | apply KeepBut.set_ | apply keep_drewN | apply keep_drew | apply keep_alloc) | exact HK.out)⟩
   ·rw [if_neg c7] at H
    exact absurd H (by simp)
  ·rw [if_neg c6] at H
   exact absurd H (by simp)
end Go.Proofs.Ytcjdnahgffkbdaa.Q

namespace Go.Proofs.Ytcjdnahgffkbdaa.Q
open Go.RowKit Go.Proofs.YtcjdnahgffkbdaaW.PrintWords Go.Proofs.YtcjdnahgffkbdaaW.PrintLast Go.Proofs.YtcjdnahgffkbdaaW.PrintMore Go.Proofs.Ytcjdnahgffkbdaa.Gput Go.Proofs.Ytcjdnahgffkbdaa.Gputl
attribute [local go_sem] max2_int min2_int max_two min_two max_three min_three max_four min_four   -- for this text's walks alone
set_option linter.unusedVariables false
set_option linter.unusedSimpArgs false
def storagebarterplay_Dice_Text.l0 : Nat → ByteArray → Int → List Int → Int → Option (ByteArray × Int)
 | 0, _, _, _, _ => none
 | k + 1, x3, x4, x1000, x1001 => if x4 > 0 then ((storagebarterplay_Dice_Pick.f x1000 x1001 26).bind fun bt211 => ((some (([(97 + ((bt211.1) % 256)) % 256] : List Int) : List Int)).bind fun y213 => (if x3.size + (strOfNums y213).size ≤ 9223372036854775807 then (storagebarterplay_Dice_Text.l0 k (x3 ++ (strOfNums y213)) (wrap64 (x4 - 1)) x1000 bt211.2) else (none)))) else (some (x3, x1001))
def storagebarterplay_Dice_Text.f (k : Nat) (s0_0 : List Int) (s0_1 : Int) : Option (ByteArray × Int) := (storagebarterplay_Dice_Pick.f s0_0 s0_1 30).bind fun bt209 => (storagebarterplay_Dice_Text.l0 k (⟨#[]⟩ : ByteArray) bt209.1 s0_0 bt209.2)
theorem storagebarterplay_Dice_Text.mono_l : ∀ k, (∀ y0 y1 y2 y3, LeO (storagebarterplay_Dice_Text.l0 k y0 y1 y2 y3) (storagebarterplay_Dice_Text.l0 (k + 1) y0 y1 y2 y3))
 | 0 => fun _ _ _ _ r h => by simp [storagebarterplay_Dice_Text.l0] at h
 | k + 1 => by
  have ih0 := storagebarterplay_Dice_Text.mono_l k
  ·intro y0 y1 y2 y3
   unfold storagebarterplay_Dice_Text.l0
   repeat' first
   | (with_reducible exact ih0 _ _ _ _)
   | (with_reducible exact LeO.refl _)
   | (with_reducible exact LeO.none _)
   | (with_reducible refine LeO.ite ?_ ?_)
   | (with_reducible refine LeO.bind ?_ (fun _ => ?_))
   | exact ih0 _ _ _ _
   | exact LeO.none _
   | refine LeO.ite ?_ ?_
   | refine LeO.bind ?_ (fun _ => ?_)
theorem storagebarterplay_Dice_Text.mono : ∀ a0 a1 k, LeO (storagebarterplay_Dice_Text.f k a0 a1) (storagebarterplay_Dice_Text.f (k + 1) a0 a1) := by
 intro a0 a1 k
 have ih0 := storagebarterplay_Dice_Text.mono_l k
 unfold storagebarterplay_Dice_Text.f
 repeat' first
  | (with_reducible exact ih0 _ _ _ _)
  | (with_reducible exact LeO.refl _)
  | (with_reducible exact LeO.none _)
  | (with_reducible refine LeO.ite ?_ ?_)
  | (with_reducible refine LeO.bind ?_ (fun _ => ?_))
  | exact ih0 _ _ _ _
  | exact LeO.none _
  | refine LeO.ite ?_ ?_
  | refine LeO.bind ?_ (fun _ => ?_)
set_option maxHeartbeats 8000000 in
set_option maxRecDepth 100000 in
theorem storagebarterplay_Dice_Text.calls (k : Nat) (g : Nat) (s0_0 : List Int) (s0_1 : Int) (r1 : ByteArray) (r2 : Int) (w0 w : World) (hI : IsS59 w0 w g s0_0 s0_1) (hB : Below w0.heap.size w0 w) (h : storagebarterplay_Dice_Text.f k s0_0 s0_1 = some (r1, r2)) :
 Calls Try.prog 48 #[.pointer (some ⟨g, 0, none⟩)] w fun e w' => e = .returned (.string r1) ∧ IsS59 w0 w' g s0_0 r2 ∧ Below w0.heap.size w0 w' ∧ KeepBut w w' g none := by
 have HI0 := Aside0.mk hI
 have HK := Aside0.mk (KeepBut.refl w g none)
 have HL := Aside0.mk hB.size
 clear hI
 have HW0 := Aside0.mk hB.size
 have HB := Aside0.mk hB
 clear hB
 have H : ((storagebarterplay_Dice_Pick.f s0_0 s0_1 30).bind fun bt209 => (storagebarterplay_Dice_Text.l0 k (⟨#[]⟩ : ByteArray) bt209.1 s0_0 bt209.2)) = some (r1, r2) := h
 clear h
 replace H := Option.bind_eq_some_iff.mp H
 obtain ⟨⟨t209, t210⟩, A20, H⟩ := H
 replace H : (storagebarterplay_Dice_Text.l0 k (⟨#[]⟩ : ByteArray) t209 s0_0 t210) = some (r1, r2) := H
 have A2 := Aside0.mk A20
 clear A20
 have H' := Aside0.mk H
 clear H
 go_enter Try.func48, Try.ntmps48
 go_wp2_with (first | ((with_reducible refine gate_callee (f := 28) rfl ?_); refine goesL_ (some 6) rfl rfl Try.func28 (by kernel_rfl) rfl #[.pointer (some ⟨g, 0, none⟩), .int .i64 30] rfl (by (try simp only [List.map_toArray, List.map_cons, List.map_nil]); first | done | rfl | (simp only [List.length_drop, List.length_take]; rfl)) ?_; (with_reducible refine (storagebarterplay_Dice_Pick.calls g s0_0 s0_1 30 t209 t210 w0 _ ?side1 ?side2 A2.out).mono ?_); (case side1 => repeat (first | (with_reducible first | exact HI0.out | apply IsS59.alloc | apply IsS59.drewN | apply IsS59.drew | apply IsS59.set_1) | exact HI0.out)); (case side2 => repeat (first | (with_reducible first | exact HB.out | apply below_alloc | apply pw_below_drewN | apply below_drew1 | refine below_set ?_ (IsS59.ge HI0.out)) | exact HB.out)); rintro e w3 ⟨rfl, hi, hb, hk⟩; refine ⟨_, rfl, ?_⟩; have n0_ := Aside0.mk (KeepBut.trans (by repeat (first | (with_reducible first | exact HK.out | apply KeepBut.set_ | apply keep_drewN | apply keep_drew | apply keep_alloc) | exact HK.out)) hk (.inl rfl)); have n1_ := Aside0.mk (hb); have n2_ := Aside0.mk (hi); clear HK; clear HB; clear HI0; have HK := n0_; have HB := n1_; have HI0 := n2_; clear n0_ n1_ n2_; (try clear hb); (try clear hb2); (try clear hk); (try clear hi)))
 go_loopg [3, 4] k (fun kq v3 v4 w' => ∃ (x3_1 : ByteArray) (x4_1 : Int) (x1001_1 : Int), v3 = .string x3_1 ∧ v4 = .int .i64 x4_1 ∧ Aside0 (storagebarterplay_Dice_Text.l0 kq x3_1 x4_1 s0_0 x1001_1 = some (r1, r2)) ∧ Aside0 (kq ≤ k) ∧ Aside0 (IsS59 w0 w' g s0_0 x1001_1) ∧ Aside0 (KeepBut w w' g none) ∧ Aside0 (Below w0.heap.size w0 w'))
 case atStart => exact ⟨((⟨#[]⟩ : ByteArray)), (t209), (t210), (by first | rfl | (simp; done) | (simp [*]; done)), (by first | rfl | (simp; done) | (simp [*]; done)), H', ⟨Nat.le_refl _⟩, ⟨by repeat (first | (with_reducible first | exact HI0.out | apply IsS59.alloc | apply IsS59.drewN | apply IsS59.drew | apply IsS59.set_1) | exact HI0.out)⟩, ⟨by repeat (first | (with_reducible first | exact HK.out | apply KeepBut.set_ | apply keep_drewN | apply keep_drew | apply keep_alloc) | exact HK.out)⟩, ⟨by repeat (first | (with_reducible first | exact HB.out | apply below_alloc | apply pw_below_drewN | apply below_drew1 | refine below_set ?_ (IsS59.ge HI0.out)) | exact HB.out)⟩⟩
 case round =>
  clear H'
  try clear c2
  try clear p2
  obtain ⟨x3_1, x4_1, x1001_1, rfl, rfl, HA, HK1, HI0, HK, HB⟩ := hrel
  cases gk with
  | zero => exact absurd HA.out (by simp [storagebarterplay_Dice_Text.l0])
  | succ k1 =>
   have H := HA.out
   clear HA
   simp only [storagebarterplay_Dice_Text.l0] at H
   by_cases c4 : x4_1 > 0
   ·rw [if_pos c4] at H
    have c4b0 : decide (0 < x4_1) = true := decide_eq_true c4
    clear c4
    replace H := Option.bind_eq_some_iff.mp H
    obtain ⟨⟨t211, t212⟩, A50, H⟩ := H
    replace H : ((some (([(97 + ((t211) % 256)) % 256] : List Int) : List Int)).bind fun y213 => (if x3_1.size + (strOfNums y213).size ≤ 9223372036854775807 then (storagebarterplay_Dice_Text.l0 k1 (x3_1 ++ (strOfNums y213)) (wrap64 (x4_1 - 1)) s0_0 t212) else (none))) = some (r1, r2) := H
    have A5 := Aside0.mk A50
    clear A50
    obtain ⟨y213, hy213⟩ : ∃ y_ : List Int, y_ = (([(97 + ((t211) % 256)) % 256] : List Int)) := ⟨_, rfl⟩
    replace H : (if x3_1.size + (strOfNums y213).size ≤ 9223372036854775807 then (storagebarterplay_Dice_Text.l0 k1 (x3_1 ++ (strOfNums y213)) (wrap64 (x4_1 - 1)) s0_0 t212) else (none)) = some (r1, r2) := by first | (rw [hy213]; with_reducible exact H) | (have H2_ := (Option.bind_some _ _).symm.trans H; rw [hy213]; with_reducible exact H2_) | (have H2_ := (Option.bind_some _ _).symm.trans H; with_reducible exact H2_) | with_reducible exact H | (rw [hy213]; exact H) | exact H
    have Ny213 := Aside0.mk hy213
    clear hy213
    by_cases c6 : x3_1.size + (strOfNums y213).size ≤ 9223372036854775807
    ·rw [if_pos c6] at H
     have c6b0 := eq_true c6
     have c6b1 : decide (x3_1.size + (strOfNums y213).size ≤ 9223372036854775807) = true := decide_eq_true c6
     try have c6b2 : (9223372036854775807 < x3_1.size + (strOfNums y213).size) = False := eq_false (Nat.not_lt.2 c6)
     have H' := Aside0.mk H
     clear H
     go_wp2_with (first | ((with_reducible refine gate_callee (f := 28) rfl ?_); refine goesL_ (some 13) rfl rfl Try.func28 (by kernel_rfl) rfl #[.pointer (some ⟨g, 0, none⟩), .int .i64 26] rfl (by (try simp only [List.map_toArray, List.map_cons, List.map_nil]); first | done | rfl | (simp only [List.length_drop, List.length_take]; rfl)) ?_; (with_reducible refine (storagebarterplay_Dice_Pick.calls g s0_0 x1001_1 26 t211 t212 w0 _ ?side1 ?side2 A5.out).mono ?_); (case side1 => repeat (first | (with_reducible first | exact HI0.out | apply IsS59.alloc | apply IsS59.drewN | apply IsS59.drew | apply IsS59.set_1) | exact HI0.out)); (case side2 => repeat (first | (with_reducible first | exact HB.out | apply below_alloc | apply pw_below_drewN | apply below_drew1 | refine below_set ?_ (IsS59.ge HI0.out)) | exact HB.out)); rintro e w7 ⟨rfl, hi, hb, hk⟩; refine ⟨_, rfl, ?_⟩; have n0_ := Aside0.mk (KeepBut.trans (by repeat (first | (with_reducible first | exact HK.out | apply KeepBut.set_ | apply keep_drewN | apply keep_drew | apply keep_alloc) | exact HK.out)) hk (.inl rfl)); have n1_ := Aside0.mk (hb); have n2_ := Aside0.mk (hi); clear HK; clear HB; clear HI0; have HK := n0_; have HB := n1_; have HI0 := n2_; clear n0_ n1_ n2_; (try clear hb); (try clear hb2); (try clear hk); (try clear hi)) | ((with_reducible refine gate_dst (N := 16) rfl ?_); refine Kd.R_lit (Kd.int .u8) _ 5 ?hg (N := 16) ?hd (xs := ([(97 + ((t211) % 256)) % 256] : List Int)) (inner := [.int .u8 ((97 + ((t211) % 256)) % 256)]) (ok := fun _ => True) (okp := fun _ => True) ?hr ?hp (fun _ hk => hk) trivial (Below.refl _ _) (Nat.le_refl _) (by simp) ?_; (case hd => rfl); (case hg => rfl); (case hr => first | (go_simp; done) | (go_simp; rfl)); (case hp => exact (Reps.one (show Kd.M (Kd.int .u8) _ _ _ ((97 + ((t211) % 256)) % 256) [.int .u8 ((97 + ((t211) % 256)) % 256)] from rfl) (Reps.none _ _))); intro v214 w8 ho9 hb hg_ hnew_; clear hg_ hnew_; (first | rw [← Ny213.out] at ho9 | (simp only [Int.reduceToNat] at ho9; rw [← Ny213.out] at ho9)); have n0_ := Aside0.mk (Kd.R_lower ho9 (keep_size (w := w) (g := g) (row := none) (by repeat (first | (with_reducible first | exact HK.out | apply KeepBut.set_ | apply keep_drewN | apply keep_drew | apply keep_alloc) | exact HK.out)))); have n1_ := Aside0.mk (IsS59.below (by repeat (first | (with_reducible first | exact HI0.out | apply IsS59.alloc | apply IsS59.drewN | apply IsS59.drew | apply IsS59.set_1) | exact HI0.out)) hb); have n2_ := Aside0.mk (KeepBut.trans (by repeat (first | (with_reducible first | exact HK.out | apply KeepBut.set_ | apply keep_drewN | apply keep_drew | apply keep_alloc) | exact HK.out)) (KeepBut.of_below hb g none) (.inl rfl)); have n3_ := Aside0.mk (below_step (by repeat (first | (with_reducible first | exact HB.out | apply below_alloc | apply pw_below_drewN | apply below_drew1 | refine below_set ?_ (IsS59.ge HI0.out)) | exact HB.out)) hb); clear HI0; clear HK; clear HB; have HO215 := n0_; have HI0 := n1_; have HK := n2_; have HB := n3_; clear n0_ n1_ n2_ n3_; clear hb ho9; have hcv10 := own_string (P := Try.prog) Try.underlying23 Try.underlying5 Try.underlying9 (Kd.own_of_R HO215.out)))
     go_roundg k1
     case measure => have := HK1.out; omega
     case rel => exact ⟨(x3_1 ++ (strOfNums y213)), (wrap64 (x4_1 - 1)), (t212), (by first | rfl | (simp; done) | (simp [*]; done)), (by first | rfl | (simp; done) | (simp [*]; done)), H', ⟨by have := HK1.out; omega⟩, ⟨by repeat (first | (with_reducible first | exact HI0.out | apply IsS59.alloc | apply IsS59.drewN | apply IsS59.drew | apply IsS59.set_1) | exact HI0.out)⟩, ⟨by repeat (first | (with_reducible first | exact HK.out | apply KeepBut.set_ | apply keep_drewN | apply keep_drew | apply keep_alloc) | exact HK.out)⟩, ⟨by repeat (first | (with_reducible first | exact HB.out | apply below_alloc | apply pw_below_drewN | apply below_drew1 | refine below_set ?_ (IsS59.ge HI0.out)) | exact HB.out)⟩⟩
    ·rw [if_neg c6] at H
     exact absurd H (by simp)
   ·rw [if_neg c4] at H
    have c4b0 : decide (0 < x4_1) = false := decide_eq_false c4
    clear c4
    simp only [Option.some.injEq, Prod.mk.injEq] at H
    obtain ⟨rfl, rfl⟩ := H
    go_wp2
    go_ret
    exact ⟨by first | rfl | (simp [errW_none, errW_some] <;> rfl) | (simp [*, errW_none, errW_some] <;> rfl), by repeat (first | (with_reducible first | exact HI0.out | apply IsS59.alloc | apply IsS59.drewN | apply IsS59.drew | apply IsS59.set_1) | exact HI0.out), by repeat (first | (with_reducible first | exact HB.out | apply below_alloc | apply pw_below_drewN | apply below_drew1 | refine below_set ?_ (IsS59.ge HI0.out)) | exact HB.out), by repeat (first | (with_reducible first | exact HK.out | apply KeepBut.set_ | apply keep_drewN | apply keep_drew | apply keep_alloc) | exact HK.out)⟩
end Go.Proofs.Ytcjdnahgffkbdaa.Q

namespace Go.Proofs.Ytcjdnahgffkbdaa.Spd
open Go Go.RowKit Go.Proofs Go.Proofs.Ytcjdnahgffkbdaa.Gm Go.Proofs.Ytcjdnahgffkbdaa.Spt Go.Proofs.Ytcjdnahgffkbdaa.Snx Go.Proofs.Ytcjdnahgffkbdaa.Ssy Go.Proofs.Ytcjdnahgffkbdaa.Q Go.Proofs.YtcjdnahgffkbdaaW.PrintWords Go.Proofs.YtcjdnahgffkbdaaW.PrintLast Go.Proofs.YtcjdnahgffkbdaaW.PrintMore
set_option linter.unusedVariables false
structure DL (L : List Int) : Prop where
  len : L.length ≤ 1000000
  by_ : ∀ x ∈ L, 0 ≤ x ∧ x ≤ 255
theorem pick_ok {L : List Int} (h : DL L) (a n : Int) (h0 : 0 ≤ a ∧ a ≤ L.length) (hn : 1 ≤ n) : ∃ t b, storagebarterplay_Dice_Pick.f L a n = some (t, b) ∧ (0 ≤ t ∧ t < n) ∧ (0 ≤ b ∧ b ≤ L.length) := by
  have hl := h.len
  unfold storagebarterplay_Dice_Pick.f
  by_cases h1 : a ≥ (L.length : Int)
  · rw [if_pos h1]
    exact ⟨_, _, rfl, by omega, by omega⟩
  · have e : wrap64 ((wrap64 (a + 1)) - 1) = a := by rw [w64 (x := a + 1) (by omega), w64 (by omega)]; omega
    have e1 : wrap64 (a + 1) = a + 1 := w64 (by omega)
    rw [if_neg h1, e, e1, if_pos (by omega), if_pos (by omega), if_neg (by omega)]
    obtain ⟨j, rfl⟩ : ∃ j : Nat, a = (j : Int) := ⟨a.toNat, by omega⟩
    have hj : j < L.length := by omega
    have er : rd L (j : Int) = L[j] := by simp [rd, List.getD, hj]
    have hb := h.by_ _ (List.getElem_mem hj)
    rw [er, w64 (x := L[j]) (by omega)]
    have := Int.tmod_nonneg n hb.1
    have := Int.tmod_lt_of_pos L[j] (show 0 < n by omega)
    exact ⟨_, _, rfl, by omega, by omega⟩
theorem text_l0 {L : List Int} (h : DL L) : ∀ (n k : Nat) (b : ByteArray) (a : Int), 0 ≤ a ∧ a ≤ L.length → n < k → b.size + n ≤ 1000000 → ∃ t c, storagebarterplay_Dice_Text.l0 k b (n : Int) L a = some (t, c) ∧ t.size = b.size + n ∧ (0 ≤ c ∧ c ≤ L.length) := by
  intro n
  induction n with
  | zero =>
    intro k b a ha hk hb
    obtain ⟨k, rfl⟩ : ∃ m, k = m + 1 := ⟨k - 1, by omega⟩
    rw [storagebarterplay_Dice_Text.l0, if_neg (by omega)]
    exact ⟨_, _, rfl, by omega, ha⟩
  | succ n ih =>
    intro k b a ha hk hb
    obtain ⟨k, rfl⟩ : ∃ m, k = m + 1 := ⟨k - 1, by omega⟩
    obtain ⟨t, c, hp, ht, hc⟩ := pick_ok h a 26 ha (by omega)
    have hs : ∀ x : Int, (strOfNums [x]).size = 1 := fun x => rfl
    rw [storagebarterplay_Dice_Text.l0, if_pos (by omega), hp, Option.bind_some, Option.bind_some, if_pos (by rw [hs]; omega), w64 (by omega), show (((n + 1 : Nat) : Int) - 1) = (n : Int) by omega]
    obtain ⟨t', c', e, es, hc'⟩ := ih k (b ++ strOfNums [(97 + (t % 256)) % 256]) c hc (by omega) (by rw [ByteArray.size_append, hs]; omega)
    exact ⟨t', c', e, by rw [es, ByteArray.size_append, hs]; omega, hc'⟩
theorem text_ok {L : List Int} (h : DL L) (a : Int) (h0 : 0 ≤ a ∧ a ≤ L.length) : ∃ t b, storagebarterplay_Dice_Text.f 40 L a = some (t, b) ∧ t.size ≤ 30 ∧ (0 ≤ b ∧ b ≤ L.length) := by
  unfold storagebarterplay_Dice_Text.f
  obtain ⟨t, c, hp, ht, hc⟩ := pick_ok h a 30 h0 (by omega)
  rw [hp, Option.bind_some]
  obtain ⟨n, rfl⟩ : ∃ n : Nat, t = (n : Int) := ⟨t.toNat, by omega⟩
  obtain ⟨t', c', e, es, hc'⟩ := text_l0 h n 40 ⟨#[]⟩ c hc (by omega) (by show 0 + n ≤ _; omega)
  exact ⟨t', c', e, by rw [es]; show 0 + n ≤ 30; omega, hc'⟩
structure DI (w W : World) (gd : Nat) (L : List Int) : Prop where
  hb : Below w.heap.size w W
  dk : ∃ a : Int, (0 ≤ a ∧ a ≤ L.length) ∧ IsS59 w W gd L a
  L : DL L
section
variable {w W W' : World} {gd : Nat} {L : List Int}
theorem DI.below (h : DI w W gd L) (hb : Below W.heap.size W W') : DI w W' gd L := by
  obtain ⟨a, h0, hd⟩ := h.dk
  exact ⟨below_step h.hb hb, ⟨a, h0, hd.below hb⟩, h.L⟩
theorem DI.blk (h : DI w W gd L) : ∃ cs, W.heap[gd]? = some (.cells cs 59 (0, 0)) := by
  obtain ⟨a, h0, A0, c0, hb, -, -⟩ := h.dk
  exact ⟨_, hb⟩
theorem DI.ge (h : DI w W gd L) : w.heap.size ≤ gd := by obtain ⟨a, h0, hd⟩ := h.dk; exact hd.ge
theorem DI.ne (h : DI w W gd L) {g : Nat} {t : TypeId} {cs : Array Value} {z : Nat × Nat} (hc : W.heap[g]? = some (.cells cs t z)) (ht : t ≠ 59) : g ≠ gd := by
  obtain ⟨cs2, hbg⟩ := h.blk
  rintro rfl
  rw [hbg] at hc
  injection hc with hc
  injection hc with _ hc
  exact ht hc.symm
theorem DI.far (h : DI w W gd L) {g : Nat} (hg : w.heap.size ≤ g) (hne : g ≠ gd) (i : Nat) (v : Value) : DI w (W.setCell ⟨g, i, none⟩ v) gd L := by
  obtain ⟨a, h0, hd⟩ := h.dk
  exact ⟨below_set h.hb hg, ⟨a, h0, hd.far (fun e => hne e.symm) v⟩, h.L⟩
theorem DI.app (h : DI w W gd L) {α : Type} {d : Kd α} {e base : Nat} {ok : Nat → Prop} {v : Value} {xs : List α} (hr : d.R e W base ok v xs) (ht : e ≠ 59) (hb : Below w.heap.size w W') (hg : W.grownBy W' v.ownBlock) : DI w W' gd L := by
  obtain ⟨a, h0, hd⟩ := h.dk
  exact ⟨hb, ⟨a, h0, hd.grown hg (hd.own_ne hr ht)⟩, h.L⟩
end
theorem pick_x {w W : World} {gd : Nat} {L : List Int} (h : DI w W gd L) (n : Int) (hn : 1 ≤ n) : Calls Try.prog 28 #[.pointer (some ⟨gd, 0, none⟩), .int .i64 n] W fun e w' => ∃ t : Int, e = .returned (.int .i64 t) ∧ (0 ≤ t ∧ t < n) ∧ DI w w' gd L ∧ KeepBut W w' gd none := by
  obtain ⟨a, h0, hd⟩ := h.dk
  obtain ⟨t, b, e, ht, hb⟩ := pick_ok h.L a n h0 hn
  refine (storagebarterplay_Dice_Pick.calls gd L a n t b w W hd h.hb e).mono fun e' w' z => ?_
  obtain ⟨rfl, z1, z2, z3⟩ := z
  exact ⟨t, rfl, ht, ⟨z2, ⟨b, hb, z1⟩, h.L⟩, z3⟩
theorem text_x {w W : World} {gd : Nat} {L : List Int} (h : DI w W gd L) : Calls Try.prog 48 #[.pointer (some ⟨gd, 0, none⟩)] W fun e w' => ∃ t : ByteArray, e = .returned (.string t) ∧ t.size ≤ 30 ∧ DI w w' gd L ∧ KeepBut W w' gd none := by
  obtain ⟨a, h0, hd⟩ := h.dk
  obtain ⟨t, b, e, ht, hb⟩ := text_ok h.L a h0
  refine (storagebarterplay_Dice_Text.calls 40 gd L a t b w W hd h.hb e).mono fun e' w' z => ?_
  obtain ⟨rfl, z1, z2, z3⟩ := z
  exact ⟨t, rfl, ht, ⟨z2, ⟨b, hb, z1⟩, h.L⟩, z3⟩
theorem R_of_block {α : Type} {d : Kd α} {e : Nat} {w : World} {base : Nat} {ok : Nat → Prop} {xs : List α} {g n c : Nat} {cur : Array Value} (h1 : xs.length = n) (hok : ok g) (hg : base ≤ g) (hb : w.heap[g]? = some (.cells cur e (0, 0))) (h2 : n ≤ c) (h3 : c ≤ maxLen) (h4 : cur.size = c * d.sz) (hr : Reps (d.M w base (fun k => ok k ∧ some k ≠ (Value.slice (some ⟨g, 0, none⟩) n c).ownBlock)) d.sz xs (cur.toList.take (n * d.sz))) : d.R e w base ok (.slice (some ⟨g, 0, none⟩) n c) xs := by
  subst h1
  refine ⟨fun k hk => by simp [Value.ownBlock] at hk; subst hk; exact hok, _, ⟨?_, .inr ⟨g, c, cur, rfl, hg, hb, h2, h3, h4, rfl⟩⟩, hr⟩
  have := Nat.mul_le_mul_right d.sz h2
  have hcl : cur.toList.length = c * d.sz := (Array.length_toList (xs := cur)).trans h4
  show (List.take (xs.length * d.sz) cur.toList).length = xs.length * d.sz
  rw [List.length_take, hcl]
  omega
theorem R_two {w : World} {base g : Nat} (hg : base ≤ g) (x0 x1 x2 x3 x4 x5 x6 x7 x8 x9 xa y0 y1 y2 y3 y4 y5 y6 y7 y8 y9 ya : Int)
    (hb : w.heap[g]? = some (.cells #[.int .i64 x0, .int .i64 x1, .int .i64 x2, .int .i64 x3, .int .i64 x4, .int .i64 x5, .int .i64 x6, .int .i64 x7, .int .i64 x8, .int .i64 x9, .int .i64 xa, .int .i64 y0, .int .i64 y1, .int .i64 y2, .int .i64 y3, .int .i64 y4, .int .i64 y5, .int .i64 y6, .int .i64 y7, .int .i64 y8, .int .i64 y9, .int .i64 ya] 64 (0, 0))) :
    Kd.R k64 64 w base (fun _ => True) (.slice (some ⟨g, 0, none⟩) 2 2) [⟨x0, x1, x2, x3, x4, x5, x6, x7, x8, x9, xa⟩, ⟨y0, y1, y2, y3, y4, y5, y6, y7, y8, y9, ya⟩] :=
  R_of_block rfl trivial hg hb (Nat.le_refl _) (by decide) rfl (Reps.snoc (Reps.snoc (Reps.none _ _) (k64_mkM _ _ _ ⟨x0, x1, x2, x3, x4, x5, x6, x7, x8, x9, xa⟩) rfl) (k64_mkM _ _ _ ⟨y0, y1, y2, y3, y4, y5, y6, y7, y8, y9, ya⟩) rfl)
end Go.Proofs.Ytcjdnahgffkbdaa.Spd

namespace Go.Proofs.Ytcjdnahgffkbdaa.Spf
open Go Go.RowKit Go.Proofs Go.Proofs.Ytcjdnahgffkbdaa.Gm Go.Proofs.Ytcjdnahgffkbdaa.Spt Go.Proofs.Ytcjdnahgffkbdaa.Snx Go.Proofs.Ytcjdnahgffkbdaa.Ssy Go.Proofs.Ytcjdnahgffkbdaa.Spd Go.Proofs.Ytcjdnahgffkbdaa.Q Go.Proofs.YtcjdnahgffkbdaaW.PrintWords Go.Proofs.YtcjdnahgffkbdaaW.PrintLast Go.Proofs.YtcjdnahgffkbdaaW.PrintMore
set_option linter.unusedVariables false
theorem I64_2 : I64 2 := by unfold I64; omega
theorem I64_3 : I64 3 := by unfold I64; omega
theorem I64_wrap (x : Int) : I64 (IntKind.i64.wrap x) := by
  rw [IntWalk.i64_left]
  unfold wrap64 I64
  omega
theorem W11_last {x0 x1 x2 x3 x4 x5 x6 x7 x8 x9 xa : Int} (h : W11 ⟨x0, x1, x2, x3, x4, x5, x6, x7, x8, x9, xa⟩) (y : Int) (hy : I64 y) : W11 ⟨x0, x1, x2, x3, x4, x5, x6, x7, x8, x9, y⟩ := by
  intro x hx
  simp only [Spt.nums, List.mem_cons, List.not_mem_nil, or_false] at hx
  rcases hx with rfl | rfl | rfl | rfl | rfl | rfl | rfl | rfl | rfl | rfl | rfl <;> first | exact hy | exact h _ (by simp [Spt.nums])
theorem two_all {s u : S64} (h : W11 s) (k : W11 u) : ∀ x ∈ [s, u], W11 x := by
  intro x hx
  simp only [List.mem_cons, List.not_mem_nil, or_false] at hx
  rcases hx with rfl | rfl <;> assumption
structure FW (w W0 W : World) (gd : Nat) (L : List Int) (g4 gs g6 : Nat) (cs c6 : Array Value) : Prop where
  d : DI w W gd L
  k : KeepBut W0 W gd none
  le : w.heap.size ≤ W0.heap.size
  l4 : W0.heap.size ≤ g4
  ls : g4 < gs
  l6 : gs < g6
  b4 : W.heap[g4]? = some (.cells #[.int .i64 0, .int .i64 0, .slice none 0 0] 26 (0, 0))
  bs : W.heap[gs]? = some (.cells cs 64 (0, 0))
  b6 : W.heap[g6]? = some (.cells c6 26 (0, 0))
section
variable {w W0 W W' : World} {gd : Nat} {L : List Int} {g4 gs g6 : Nat} {cs c6 : Array Value}
theorem FW.mk2 {w2 : World} (h : DI w W0 gd L) (hb : Below W0.heap.size W0 w2) (hs : W0.heap.size < w2.heap.size) (h4 : w2.heap[W0.heap.size]? = some (.cells #[.int .i64 0, .int .i64 0, .slice none 0 0] 26 (0, 0))) (cs c6 : Array Value) : FW w W0 ((w2.alloc (.cells cs 64)).alloc (.cells c6 26)) gd L W0.heap.size w2.heap.size (w2.heap.size + 1) cs c6 := by
  have hb2 : Below W0.heap.size W0 ((w2.alloc (.cells cs 64)).alloc (.cells c6 26)) := below_alloc (below_alloc hb _) _
  exact ⟨h.below hb2, KeepBut.of_below hb2 gd none, h.hb.size, Nat.le_refl _, hs, Nat.lt_succ_self _, blk_alloc (blk_alloc h4 _) _, blk_alloc (heap_alloc_new _ _) _, Snx.two_new _ _ _ _ _⟩
theorem FW.step (h : FW w W0 W gd L g4 gs g6 cs c6) (hd : DI w W' gd L) (hk : KeepBut W W' gd none) : FW w W0 W' gd L g4 gs g6 cs c6 := by
  have e4 := h.d.ne h.b4 (by decide)
  have es := h.d.ne h.bs (by decide)
  have e6 := h.d.ne h.b6 (by decide)
  exact ⟨hd, h.k.trans hk (.inl rfl), h.le, h.l4, h.ls, h.l6, (hk.2 _ (blk_lt h.b4) e4 (by simp)).trans h.b4, (hk.2 _ (blk_lt h.bs) es (by simp)).trans h.bs, (hk.2 _ (blk_lt h.b6) e6 (by simp)).trans h.b6⟩
theorem FW.sets (h : FW w W0 W gd L g4 gs g6 cs c6) (i : Nat) (v : Value) : FW w W0 (W.setCell ⟨gs, i, none⟩ v) gd L g4 gs g6 (cs.setIfInBounds i v) c6 := by
  have l1 := h.l4
  have l2 := h.ls
  have l3 := h.l6
  exact ⟨h.d.far (by have := h.le; omega) (h.d.ne h.bs (by decide)) i v, keep_far h.k (p := ⟨gs, i, none⟩) (by show W0.heap.size ≤ gs; omega) v, h.le, h.l4, h.ls, h.l6, blk_far (p := ⟨gs, i, none⟩) h.b4 (by show g4 ≠ gs; omega) v, blk_put h.bs i v rfl, blk_far (p := ⟨gs, i, none⟩) h.b6 (by show g6 ≠ gs; omega) v⟩
theorem FW.set6 (h : FW w W0 W gd L g4 gs g6 cs c6) (i : Nat) (v : Value) : FW w W0 (W.setCell ⟨g6, i, none⟩ v) gd L g4 gs g6 cs (c6.setIfInBounds i v) := by
  have l1 := h.l4
  have l2 := h.ls
  have l3 := h.l6
  exact ⟨h.d.far (by have := h.le; omega) (h.d.ne h.b6 (by decide)) i v, keep_far h.k (p := ⟨g6, i, none⟩) (by show W0.heap.size ≤ g6; omega) v, h.le, h.l4, h.ls, h.l6, blk_far (p := ⟨g6, i, none⟩) h.b4 (by show g4 ≠ g6; omega) v, blk_far (p := ⟨g6, i, none⟩) h.bs (by show gs ≠ g6; omega) v, blk_put h.b6 i v rfl⟩
end
theorem blk_drew {W : World} {g : Nat} {v : Option Obj} (h : W.heap[g]? = v) : W.drew.heap[g]? = v := h
theorem put3 {W : World} {g : Nat} {t : TypeId} {x0 x1 x2 v0 v1 v2 : Value} (h : W.heap[g]? = some (.cells #[x0, x1, x2] t (0, 0))) : (((W.setCell ⟨g, 0, none⟩ v0).setCell ⟨g, 1, none⟩ v1).setCell ⟨g, 2, none⟩ v2).heap[g]? = some (.cells #[v0, v1, v2] t (0, 0)) := by
  have h0 : (W.setCell ⟨g, 0, none⟩ v0).heap[g]? = some (.cells #[v0, x1, x2] t (0, 0)) := blk_put h 0 v0 rfl
  have h1 : ((W.setCell ⟨g, 0, none⟩ v0).setCell ⟨g, 1, none⟩ v1).heap[g]? = some (.cells #[v0, v1, x2] t (0, 0)) := blk_put h0 1 v1 rfl
  exact blk_put h1 2 v2 rfl
section
variable {w W0 W : World} {gd : Nat} {L : List Int} {g4 gs g6 : Nat} {cs c6 : Array Value}
theorem dfar3 (h : FW w W0 W gd L g4 gs g6 cs c6) {v0 v1 v2 : Value} : DI w (((W.setCell ⟨g4, 0, none⟩ v0).setCell ⟨g4, 1, none⟩ v1).setCell ⟨g4, 2, none⟩ v2) gd L := by
  have l0 : w.heap.size ≤ g4 := Nat.le_trans h.le h.l4
  have e := h.d.ne h.b4 (by decide)
  exact ((h.d.far l0 e 0 v0).far l0 e 1 v1).far l0 e 2 v2
theorem keep_far3 (h : FW w W0 W gd L g4 gs g6 cs c6) {v0 v1 v2 : Value} : KeepBut W0 (((W.setCell ⟨g4, 0, none⟩ v0).setCell ⟨g4, 1, none⟩ v1).setCell ⟨g4, 2, none⟩ v2) gd none :=
  keep_far (keep_far (keep_far h.k (p := ⟨g4, 0, none⟩) h.l4 v0) (p := ⟨g4, 1, none⟩) h.l4 v1) (p := ⟨g4, 2, none⟩) h.l4 v2
theorem R_far1 {ss : List S64} {g : Nat} (hr : Kd.R k64 64 W W0.heap.size (fun _ => True) (.slice (some ⟨gs, 0, none⟩) 2 2) ss) (hne : g ≠ gs) (i : Nat) (v : Value) : Kd.R k64 64 (W.setCell ⟨g, i, none⟩ v) W0.heap.size (fun _ => True) (.slice (some ⟨gs, 0, none⟩) 2 2) ss := by
  have h2 : Kd.R k64 64 W W0.heap.size (fun k => k ≠ g) (.slice (some ⟨gs, 0, none⟩) 2 2) ss := ⟨fun k hk e => by simp [Value.ownBlock] at hk; omega, hr.2.imp_ (fun p c hm => by rw [k64_openM hm]; exact k64_mkM _ _ _ _)⟩
  exact Kd.R_mono (Kd.R_far (p := ⟨g, i, none⟩) h2 (fun _ hk => hk) v) (fun _ _ => trivial)
theorem R_far3 (h : FW w W0 W gd L g4 gs g6 cs c6) {ss : List S64} (hr : Kd.R k64 64 W W0.heap.size (fun _ => True) (.slice (some ⟨gs, 0, none⟩) 2 2) ss) {v0 v1 v2 : Value} : Kd.R k64 64 (((W.setCell ⟨g4, 0, none⟩ v0).setCell ⟨g4, 1, none⟩ v1).setCell ⟨g4, 2, none⟩ v2) W0.heap.size (fun _ => True) (.slice (some ⟨gs, 0, none⟩) 2 2) ss :=
  R_far1 (R_far1 (R_far1 hr (Nat.ne_of_lt h.ls) 0 v0) (Nat.ne_of_lt h.ls) 1 v1) (Nat.ne_of_lt h.ls) 2 v2
end
theorem FW.copy {w W0 W : World} {gd : Nat} {L : List Int} {g4 gs g6 : Nat} {c6 : Array Value} {x0 x1 x2 x3 x4 x5 x6 x7 x8 x9 xa y0 y1 y2 y3 y4 y5 y6 y7 y8 y9 ya : Int} (h : FW w W0 W gd L g4 gs g6 #[.int .i64 x0, .int .i64 x1, .int .i64 x2, .int .i64 x3, .int .i64 x4, .int .i64 x5, .int .i64 x6, .int .i64 x7, .int .i64 x8, .int .i64 x9, .int .i64 xa, .int .i64 y0, .int .i64 y1, .int .i64 y2, .int .i64 y3, .int .i64 y4, .int .i64 y5, .int .i64 y6, .int .i64 y7, .int .i64 y8, .int .i64 y9, .int .i64 ya] c6) : FW w W0 (((((((((((W.setCell ⟨gs, 11, none⟩ (.int .i64 x0)).setCell ⟨gs, 12, none⟩ (.int .i64 x1)).setCell ⟨gs, 13, none⟩ (.int .i64 x2)).setCell ⟨gs, 14, none⟩ (.int .i64 x3)).setCell ⟨gs, 15, none⟩ (.int .i64 x4)).setCell ⟨gs, 16, none⟩ (.int .i64 x5)).setCell ⟨gs, 17, none⟩ (.int .i64 x6)).setCell ⟨gs, 18, none⟩ (.int .i64 x7)).setCell ⟨gs, 19, none⟩ (.int .i64 x8)).setCell ⟨gs, 20, none⟩ (.int .i64 x9)).setCell ⟨gs, 21, none⟩ (.int .i64 xa)) gd L g4 gs g6 #[.int .i64 x0, .int .i64 x1, .int .i64 x2, .int .i64 x3, .int .i64 x4, .int .i64 x5, .int .i64 x6, .int .i64 x7, .int .i64 x8, .int .i64 x9, .int .i64 xa, .int .i64 x0, .int .i64 x1, .int .i64 x2, .int .i64 x3, .int .i64 x4, .int .i64 x5, .int .i64 x6, .int .i64 x7, .int .i64 x8, .int .i64 x9, .int .i64 xa] c6 := by
  have h0 : FW w W0 (W.setCell ⟨gs, 11, none⟩ (.int .i64 x0)) gd L g4 gs g6 #[.int .i64 x0, .int .i64 x1, .int .i64 x2, .int .i64 x3, .int .i64 x4, .int .i64 x5, .int .i64 x6, .int .i64 x7, .int .i64 x8, .int .i64 x9, .int .i64 xa, .int .i64 x0, .int .i64 y1, .int .i64 y2, .int .i64 y3, .int .i64 y4, .int .i64 y5, .int .i64 y6, .int .i64 y7, .int .i64 y8, .int .i64 y9, .int .i64 ya] c6 := h.sets 11 (.int .i64 x0)
  have h1 : FW w W0 ((W.setCell ⟨gs, 11, none⟩ (.int .i64 x0)).setCell ⟨gs, 12, none⟩ (.int .i64 x1)) gd L g4 gs g6 #[.int .i64 x0, .int .i64 x1, .int .i64 x2, .int .i64 x3, .int .i64 x4, .int .i64 x5, .int .i64 x6, .int .i64 x7, .int .i64 x8, .int .i64 x9, .int .i64 xa, .int .i64 x0, .int .i64 x1, .int .i64 y2, .int .i64 y3, .int .i64 y4, .int .i64 y5, .int .i64 y6, .int .i64 y7, .int .i64 y8, .int .i64 y9, .int .i64 ya] c6 := h0.sets 12 (.int .i64 x1)
  have h2 : FW w W0 (((W.setCell ⟨gs, 11, none⟩ (.int .i64 x0)).setCell ⟨gs, 12, none⟩ (.int .i64 x1)).setCell ⟨gs, 13, none⟩ (.int .i64 x2)) gd L g4 gs g6 #[.int .i64 x0, .int .i64 x1, .int .i64 x2, .int .i64 x3, .int .i64 x4, .int .i64 x5, .int .i64 x6, .int .i64 x7, .int .i64 x8, .int .i64 x9, .int .i64 xa, .int .i64 x0, .int .i64 x1, .int .i64 x2, .int .i64 y3, .int .i64 y4, .int .i64 y5, .int .i64 y6, .int .i64 y7, .int .i64 y8, .int .i64 y9, .int .i64 ya] c6 := h1.sets 13 (.int .i64 x2)
  have h3 : FW w W0 ((((W.setCell ⟨gs, 11, none⟩ (.int .i64 x0)).setCell ⟨gs, 12, none⟩ (.int .i64 x1)).setCell ⟨gs, 13, none⟩ (.int .i64 x2)).setCell ⟨gs, 14, none⟩ (.int .i64 x3)) gd L g4 gs g6 #[.int .i64 x0, .int .i64 x1, .int .i64 x2, .int .i64 x3, .int .i64 x4, .int .i64 x5, .int .i64 x6, .int .i64 x7, .int .i64 x8, .int .i64 x9, .int .i64 xa, .int .i64 x0, .int .i64 x1, .int .i64 x2, .int .i64 x3, .int .i64 y4, .int .i64 y5, .int .i64 y6, .int .i64 y7, .int .i64 y8, .int .i64 y9, .int .i64 ya] c6 := h2.sets 14 (.int .i64 x3)
  have h4 : FW w W0 (((((W.setCell ⟨gs, 11, none⟩ (.int .i64 x0)).setCell ⟨gs, 12, none⟩ (.int .i64 x1)).setCell ⟨gs, 13, none⟩ (.int .i64 x2)).setCell ⟨gs, 14, none⟩ (.int .i64 x3)).setCell ⟨gs, 15, none⟩ (.int .i64 x4)) gd L g4 gs g6 #[.int .i64 x0, .int .i64 x1, .int .i64 x2, .int .i64 x3, .int .i64 x4, .int .i64 x5, .int .i64 x6, .int .i64 x7, .int .i64 x8, .int .i64 x9, .int .i64 xa, .int .i64 x0, .int .i64 x1, .int .i64 x2, .int .i64 x3, .int .i64 x4, .int .i64 y5, .int .i64 y6, .int .i64 y7, .int .i64 y8, .int .i64 y9, .int .i64 ya] c6 := h3.sets 15 (.int .i64 x4)
  have h5 : FW w W0 ((((((W.setCell ⟨gs, 11, none⟩ (.int .i64 x0)).setCell ⟨gs, 12, none⟩ (.int .i64 x1)).setCell ⟨gs, 13, none⟩ (.int .i64 x2)).setCell ⟨gs, 14, none⟩ (.int .i64 x3)).setCell ⟨gs, 15, none⟩ (.int .i64 x4)).setCell ⟨gs, 16, none⟩ (.int .i64 x5)) gd L g4 gs g6 #[.int .i64 x0, .int .i64 x1, .int .i64 x2, .int .i64 x3, .int .i64 x4, .int .i64 x5, .int .i64 x6, .int .i64 x7, .int .i64 x8, .int .i64 x9, .int .i64 xa, .int .i64 x0, .int .i64 x1, .int .i64 x2, .int .i64 x3, .int .i64 x4, .int .i64 x5, .int .i64 y6, .int .i64 y7, .int .i64 y8, .int .i64 y9, .int .i64 ya] c6 := h4.sets 16 (.int .i64 x5)
  have h6 : FW w W0 (((((((W.setCell ⟨gs, 11, none⟩ (.int .i64 x0)).setCell ⟨gs, 12, none⟩ (.int .i64 x1)).setCell ⟨gs, 13, none⟩ (.int .i64 x2)).setCell ⟨gs, 14, none⟩ (.int .i64 x3)).setCell ⟨gs, 15, none⟩ (.int .i64 x4)).setCell ⟨gs, 16, none⟩ (.int .i64 x5)).setCell ⟨gs, 17, none⟩ (.int .i64 x6)) gd L g4 gs g6 #[.int .i64 x0, .int .i64 x1, .int .i64 x2, .int .i64 x3, .int .i64 x4, .int .i64 x5, .int .i64 x6, .int .i64 x7, .int .i64 x8, .int .i64 x9, .int .i64 xa, .int .i64 x0, .int .i64 x1, .int .i64 x2, .int .i64 x3, .int .i64 x4, .int .i64 x5, .int .i64 x6, .int .i64 y7, .int .i64 y8, .int .i64 y9, .int .i64 ya] c6 := h5.sets 17 (.int .i64 x6)
  have h7 : FW w W0 ((((((((W.setCell ⟨gs, 11, none⟩ (.int .i64 x0)).setCell ⟨gs, 12, none⟩ (.int .i64 x1)).setCell ⟨gs, 13, none⟩ (.int .i64 x2)).setCell ⟨gs, 14, none⟩ (.int .i64 x3)).setCell ⟨gs, 15, none⟩ (.int .i64 x4)).setCell ⟨gs, 16, none⟩ (.int .i64 x5)).setCell ⟨gs, 17, none⟩ (.int .i64 x6)).setCell ⟨gs, 18, none⟩ (.int .i64 x7)) gd L g4 gs g6 #[.int .i64 x0, .int .i64 x1, .int .i64 x2, .int .i64 x3, .int .i64 x4, .int .i64 x5, .int .i64 x6, .int .i64 x7, .int .i64 x8, .int .i64 x9, .int .i64 xa, .int .i64 x0, .int .i64 x1, .int .i64 x2, .int .i64 x3, .int .i64 x4, .int .i64 x5, .int .i64 x6, .int .i64 x7, .int .i64 y8, .int .i64 y9, .int .i64 ya] c6 := h6.sets 18 (.int .i64 x7)
  have h8 : FW w W0 (((((((((W.setCell ⟨gs, 11, none⟩ (.int .i64 x0)).setCell ⟨gs, 12, none⟩ (.int .i64 x1)).setCell ⟨gs, 13, none⟩ (.int .i64 x2)).setCell ⟨gs, 14, none⟩ (.int .i64 x3)).setCell ⟨gs, 15, none⟩ (.int .i64 x4)).setCell ⟨gs, 16, none⟩ (.int .i64 x5)).setCell ⟨gs, 17, none⟩ (.int .i64 x6)).setCell ⟨gs, 18, none⟩ (.int .i64 x7)).setCell ⟨gs, 19, none⟩ (.int .i64 x8)) gd L g4 gs g6 #[.int .i64 x0, .int .i64 x1, .int .i64 x2, .int .i64 x3, .int .i64 x4, .int .i64 x5, .int .i64 x6, .int .i64 x7, .int .i64 x8, .int .i64 x9, .int .i64 xa, .int .i64 x0, .int .i64 x1, .int .i64 x2, .int .i64 x3, .int .i64 x4, .int .i64 x5, .int .i64 x6, .int .i64 x7, .int .i64 x8, .int .i64 y9, .int .i64 ya] c6 := h7.sets 19 (.int .i64 x8)
  have h9 : FW w W0 ((((((((((W.setCell ⟨gs, 11, none⟩ (.int .i64 x0)).setCell ⟨gs, 12, none⟩ (.int .i64 x1)).setCell ⟨gs, 13, none⟩ (.int .i64 x2)).setCell ⟨gs, 14, none⟩ (.int .i64 x3)).setCell ⟨gs, 15, none⟩ (.int .i64 x4)).setCell ⟨gs, 16, none⟩ (.int .i64 x5)).setCell ⟨gs, 17, none⟩ (.int .i64 x6)).setCell ⟨gs, 18, none⟩ (.int .i64 x7)).setCell ⟨gs, 19, none⟩ (.int .i64 x8)).setCell ⟨gs, 20, none⟩ (.int .i64 x9)) gd L g4 gs g6 #[.int .i64 x0, .int .i64 x1, .int .i64 x2, .int .i64 x3, .int .i64 x4, .int .i64 x5, .int .i64 x6, .int .i64 x7, .int .i64 x8, .int .i64 x9, .int .i64 xa, .int .i64 x0, .int .i64 x1, .int .i64 x2, .int .i64 x3, .int .i64 x4, .int .i64 x5, .int .i64 x6, .int .i64 x7, .int .i64 x8, .int .i64 x9, .int .i64 ya] c6 := h8.sets 20 (.int .i64 x9)
  have h10 : FW w W0 (((((((((((W.setCell ⟨gs, 11, none⟩ (.int .i64 x0)).setCell ⟨gs, 12, none⟩ (.int .i64 x1)).setCell ⟨gs, 13, none⟩ (.int .i64 x2)).setCell ⟨gs, 14, none⟩ (.int .i64 x3)).setCell ⟨gs, 15, none⟩ (.int .i64 x4)).setCell ⟨gs, 16, none⟩ (.int .i64 x5)).setCell ⟨gs, 17, none⟩ (.int .i64 x6)).setCell ⟨gs, 18, none⟩ (.int .i64 x7)).setCell ⟨gs, 19, none⟩ (.int .i64 x8)).setCell ⟨gs, 20, none⟩ (.int .i64 x9)).setCell ⟨gs, 21, none⟩ (.int .i64 xa)) gd L g4 gs g6 #[.int .i64 x0, .int .i64 x1, .int .i64 x2, .int .i64 x3, .int .i64 x4, .int .i64 x5, .int .i64 x6, .int .i64 x7, .int .i64 x8, .int .i64 x9, .int .i64 xa, .int .i64 x0, .int .i64 x1, .int .i64 x2, .int .i64 x3, .int .i64 x4, .int .i64 x5, .int .i64 x6, .int .i64 x7, .int .i64 x8, .int .i64 x9, .int .i64 xa] c6 := h9.sets 21 (.int .i64 xa)
  exact h10
set_option maxRecDepth 100000 in
set_option maxHeartbeats 8000000 in
theorem proof_x {w W : World} {gd : Nat} {L : List Int} (h : DI w W gd L) (acc : Int) (ha : 1 ≤ acc ∧ acc ≤ 1000) : Calls Try.prog 49 #[.pointer (some ⟨gd, 0, none⟩), .int .i64 acc] W fun e w' =>
    ∃ (y5 y6 : Int) (g : Nat) (ss : List S64), e = .returned (.agg #[.int .i64 y5, .int .i64 y6, .slice (some ⟨g, 0, none⟩) 2 2]) ∧ (I64 y5 ∧ I64 y6) ∧ Kd.R k64 64 w' W.heap.size (fun _ => True) (.slice (some ⟨g, 0, none⟩) 2 2) ss ∧ ss.length = 2 ∧ (∀ s ∈ ss, W11 s) ∧ DI w w' gd L ∧ KeepBut W w' gd none := by
  have hu39 := Try.underlying64
  have hu26 := Try.underlying26
  have HD := Aside0.mk h
  have HA := Aside0.mk (show 1 ≤ acc ∧ acc ≤ 1000000 by omega)
  have hr := Int.tmod_nonneg 6 (show 0 ≤ acc by omega)
  have hr2 := Int.tmod_lt_of_pos acc (show (0:Int) < 6 by omega)
  obtain ⟨to_, hto⟩ : ∃ t, t = 1 + Int.tmod acc 6 := ⟨_, rfl⟩
  have hwr : IntKind.i64.wrap (1 + Int.tmod acc 6) = to_ := by rw [IntWalk.i64_in _ (by omega)]; exact hto.symm
  have HT : Aside0 (I64 to_) := ⟨by unfold I64; omega⟩
  have HB0 := Aside0.mk (below_alloc (Below.refl W.heap.size W) (.cells #[.int .i64 0, .int .i64 0, .slice none 0 0] 26))
  clear h ha hr hr2 hto
  go_enter Try.func49, Try.ntmps49
  go_upto_region 3 with (first | (go_at_call 58; go_loud (with_reducible refine (say1_x acc to_ 3 3 1 0 0 0 _ HA.out HT.out I64_3 I64_3 I64_1 I64_0 I64_0 I64_0).mono ?_); go_loud (rintro e w1 ⟨x0, x1, x2, x3, x4, x5, x6, x7, x8, x9, xa, rfl, hW, hb⟩; have HW1 := Aside0.mk hW; have HB1 := Aside0.mk (below_step HB0.out hb); have HN4 := Aside0.mk (blk_below (heap_alloc_new W (.cells #[.int .i64 0, .int .i64 0, .slice none 0 0] 26)) hb); clear hW hb HB0)) | (go_at_call 58; go_loud (with_reducible refine (say1_x acc to_ 3 3 2 0 0 0 _ HA.out HT.out I64_3 I64_3 I64_2 I64_0 I64_0 I64_0).mono ?_); go_loud (rintro e w2 ⟨y0, y1, y2, y3, y4, y5, y6, y7, y8, y9, ya, rfl, hW, hb⟩; have HW2 := Aside0.mk hW; have HB2 := Aside0.mk (below_step HB1.out hb); have n_ := Aside0.mk (blk_below HN4.out hb); clear hW hb HB1 HN4; have HN4 := n_; clear n_)))
  have HF0 := Aside0.mk (FW.mk2 HD.out HB2.out (blk_lt HN4.out) HN4.out #[.int .i64 x0, .int .i64 x1, .int .i64 x2, .int .i64 x3, .int .i64 x4, .int .i64 x5, .int .i64 x6, .int .i64 x7, .int .i64 x8, .int .i64 x9, .int .i64 xa, .int .i64 y0, .int .i64 y1, .int .i64 y2, .int .i64 y3, .int .i64 y4, .int .i64 y5, .int .i64 y6, .int .i64 y7, .int .i64 y8, .int .i64 y9, .int .i64 ya] #[.int .i64 1, .int .i64 acc, .slice (some ⟨w2.heap.size, 0, none⟩) 2 2])
  obtain ⟨g4, hg4⟩ : ∃ g, W.heap.size = g := ⟨_, rfl⟩
  obtain ⟨gs, hgs⟩ : ∃ g, w2.heap.size = g := ⟨_, rfl⟩
  obtain ⟨W3, hW3⟩ : ∃ W3, W3 = (w2.alloc (.cells #[.int .i64 x0, .int .i64 x1, .int .i64 x2, .int .i64 x3, .int .i64 x4, .int .i64 x5, .int .i64 x6, .int .i64 x7, .int .i64 x8, .int .i64 x9, .int .i64 xa, .int .i64 y0, .int .i64 y1, .int .i64 y2, .int .i64 y3, .int .i64 y4, .int .i64 y5, .int .i64 y6, .int .i64 y7, .int .i64 y8, .int .i64 y9, .int .i64 ya] 64)).alloc (.cells #[.int .i64 1, .int .i64 acc, .slice (some ⟨w2.heap.size, 0, none⟩) 2 2] 26) := ⟨_, rfl⟩
  rw [← hW3] at HF0 ⊢
  rw [hg4, hgs] at HF0 ⊢
  clear hW3 HB2 HD
  go_upto_region 4 with (first | (go_at_call 28; go_loud (with_reducible refine (pick_x HF0.out.d 6 (by decide)).mono ?_); go_loud (rintro e w3 ⟨t, rfl, ht, hd, hk⟩; have HF := Aside0.mk (HF0.out.step hd hk); clear hd hk HF0 ht)))
  have q6_0 : w3.cell? ⟨gs + 1, 0, none⟩ = some (.int .i64 1) := (blk_cell HF.out.b6 0).trans rfl
  have q6_1 : w3.cell? ⟨gs + 1, 1, none⟩ = some (.int .i64 acc) := (blk_cell HF.out.b6 1).trans rfl
  have q6_2 : w3.cell? ⟨gs + 1, 2, none⟩ = some (.slice (some ⟨gs, 0, none⟩) 2 2) := (blk_cell HF.out.b6 2).trans rfl
  have z6_0 := blk_frozen HF.out.b6 0
  have z6_1 := blk_frozen HF.out.b6 1
  have z6_2 := blk_frozen HF.out.b6 2
  have qs_0 : w3.cell? ⟨gs, 0, none⟩ = some (.int .i64 x0) := (blk_cell HF.out.bs 0).trans rfl
  have qs_1 : w3.cell? ⟨gs, 1, none⟩ = some (.int .i64 x1) := (blk_cell HF.out.bs 1).trans rfl
  have qs_2 : w3.cell? ⟨gs, 2, none⟩ = some (.int .i64 x2) := (blk_cell HF.out.bs 2).trans rfl
  have qs_3 : w3.cell? ⟨gs, 3, none⟩ = some (.int .i64 x3) := (blk_cell HF.out.bs 3).trans rfl
  have qs_4 : w3.cell? ⟨gs, 4, none⟩ = some (.int .i64 x4) := (blk_cell HF.out.bs 4).trans rfl
  have qs_5 : w3.cell? ⟨gs, 5, none⟩ = some (.int .i64 x5) := (blk_cell HF.out.bs 5).trans rfl
  have qs_6 : w3.cell? ⟨gs, 6, none⟩ = some (.int .i64 x6) := (blk_cell HF.out.bs 6).trans rfl
  have qs_7 : w3.cell? ⟨gs, 7, none⟩ = some (.int .i64 x7) := (blk_cell HF.out.bs 7).trans rfl
  have qs_8 : w3.cell? ⟨gs, 8, none⟩ = some (.int .i64 x8) := (blk_cell HF.out.bs 8).trans rfl
  have qs_9 : w3.cell? ⟨gs, 9, none⟩ = some (.int .i64 x9) := (blk_cell HF.out.bs 9).trans rfl
  have qs_10 : w3.cell? ⟨gs, 10, none⟩ = some (.int .i64 xa) := (blk_cell HF.out.bs 10).trans rfl
  have qs_11 : w3.cell? ⟨gs, 11, none⟩ = some (.int .i64 y0) := (blk_cell HF.out.bs 11).trans rfl
  have qs_12 : w3.cell? ⟨gs, 12, none⟩ = some (.int .i64 y1) := (blk_cell HF.out.bs 12).trans rfl
  have qs_13 : w3.cell? ⟨gs, 13, none⟩ = some (.int .i64 y2) := (blk_cell HF.out.bs 13).trans rfl
  have qs_14 : w3.cell? ⟨gs, 14, none⟩ = some (.int .i64 y3) := (blk_cell HF.out.bs 14).trans rfl
  have qs_15 : w3.cell? ⟨gs, 15, none⟩ = some (.int .i64 y4) := (blk_cell HF.out.bs 15).trans rfl
  have qs_16 : w3.cell? ⟨gs, 16, none⟩ = some (.int .i64 y5) := (blk_cell HF.out.bs 16).trans rfl
  have qs_17 : w3.cell? ⟨gs, 17, none⟩ = some (.int .i64 y6) := (blk_cell HF.out.bs 17).trans rfl
  have qs_18 : w3.cell? ⟨gs, 18, none⟩ = some (.int .i64 y7) := (blk_cell HF.out.bs 18).trans rfl
  have qs_19 : w3.cell? ⟨gs, 19, none⟩ = some (.int .i64 y8) := (blk_cell HF.out.bs 19).trans rfl
  have qs_20 : w3.cell? ⟨gs, 20, none⟩ = some (.int .i64 y9) := (blk_cell HF.out.bs 20).trans rfl
  have qs_21 : w3.cell? ⟨gs, 21, none⟩ = some (.int .i64 ya) := (blk_cell HF.out.bs 21).trans rfl
  have zs_0 := blk_frozen HF.out.bs 0
  have zs_1 := blk_frozen HF.out.bs 1
  have zs_2 := blk_frozen HF.out.bs 2
  have zs_3 := blk_frozen HF.out.bs 3
  have zs_4 := blk_frozen HF.out.bs 4
  have zs_5 := blk_frozen HF.out.bs 5
  have zs_6 := blk_frozen HF.out.bs 6
  have zs_7 := blk_frozen HF.out.bs 7
  have zs_8 := blk_frozen HF.out.bs 8
  have zs_9 := blk_frozen HF.out.bs 9
  have zs_10 := blk_frozen HF.out.bs 10
  have zs_11 := blk_frozen HF.out.bs 11
  have zs_12 := blk_frozen HF.out.bs 12
  have zs_13 := blk_frozen HF.out.bs 13
  have zs_14 := blk_frozen HF.out.bs 14
  have zs_15 := blk_frozen HF.out.bs 15
  have zs_16 := blk_frozen HF.out.bs 16
  have zs_17 := blk_frozen HF.out.bs 17
  have zs_18 := blk_frozen HF.out.bs 18
  have zs_19 := blk_frozen HF.out.bs 19
  have zs_20 := blk_frozen HF.out.bs 20
  have zs_21 := blk_frozen HF.out.bs 21
  have q4_0 : w3.cell? ⟨g4, 0, none⟩ = some (.int .i64 0) := (blk_cell HF.out.b4 0).trans rfl
  have q4_1 : w3.cell? ⟨g4, 1, none⟩ = some (.int .i64 0) := (blk_cell HF.out.b4 1).trans rfl
  have q4_2 : w3.cell? ⟨g4, 2, none⟩ = some (.slice none 0 0) := (blk_cell HF.out.b4 2).trans rfl
  have z4_0 := blk_frozen HF.out.b4 0
  have z4_1 := blk_frozen HF.out.b4 1
  have z4_2 := blk_frozen HF.out.b4 2
  have n46 : g4 ≠ gs + 1 := by have := HF.out.ls; omega
  have n4s : g4 ≠ gs := by have := HF.out.ls; omega
  have n64 : gs + 1 ≠ g4 := by omega
  have ns4 : gs ≠ g4 := by omega
  have n4 := blk_lt HF.out.b4
  have n6 := blk_lt HF.out.b6
  have ns := blk_lt HF.out.bs
  obtain ⟨yb, hyb⟩ : ∃ z, IntKind.i64.wrap (ya + 1) = z := ⟨_, rfl⟩
  have hib : I64 yb := by rw [← hyb]; exact I64_wrap _
  have IA := Aside0.mk (show I64 acc by have := HA.out; unfold I64; omega)
  have HWY := Aside0.mk (W11_last HW2.out yb hib)
  clear hib
  by_cases h0 : t = 0
  case pos =>
    have g0 : (t == 0) = true := beq_iff_eq.2 h0
    clear h0
    go_wp2
    have hb4 := put3 (v0 := .int .i64 1) (v1 := .int .i64 acc) (v2 := .slice (some ⟨gs, 0, none⟩) 2 2) (HF.out.sets 21 (.int .i64 yb)).b4
    refine bodyPost_ret (results_cell_row rfl _ _ g4 26 #[.int .i64 1, .int .i64 acc, .slice (some ⟨gs, 0, none⟩) 2 2] (0, 0) _ rfl hb4 Try.underlying26 rfl (by kernel_rfl)) rfl ?_
    exact ⟨1, acc, gs, [⟨x0, x1, x2, x3, x4, x5, x6, x7, x8, x9, xa⟩, ⟨y0, y1, y2, y3, y4, y5, y6, y7, y8, y9, yb⟩], rfl, ⟨I64_1, IA.out⟩, R_far3 (HF.out.sets 21 (.int .i64 yb)) (R_two (by have := HF.out.l4; have := HF.out.ls; omega) x0 x1 x2 x3 x4 x5 x6 x7 x8 x9 xa y0 y1 y2 y3 y4 y5 y6 y7 y8 y9 yb (HF.out.sets 21 (.int .i64 yb)).bs), rfl, two_all HW1.out HWY.out, dfar3 (HF.out.sets 21 (.int .i64 yb)), keep_far3 (HF.out.sets 21 (.int .i64 yb))⟩
  case neg =>
  have g0 : (t == 0) = false := beq_eq_false_iff_ne.2 h0
  by_cases h1 : t = 1
  case pos =>
    have g1 : (t == 1) = true := beq_iff_eq.2 h1
    clear h0 h1
    go_wp2
    go_region
    all_goals (go_wp2_with fail)
    have HC := Aside0.mk HF.out.copy
    have hb4 := put3 (v0 := .int .i64 1) (v1 := .int .i64 acc) (v2 := .slice (some ⟨gs, 0, none⟩) 2 2) (HC.out).b4
    refine bodyPost_ret (results_cell_row rfl _ _ g4 26 #[.int .i64 1, .int .i64 acc, .slice (some ⟨gs, 0, none⟩) 2 2] (0, 0) _ rfl (blk_drew hb4) Try.underlying26 rfl (by kernel_rfl)) rfl ?_
    exact ⟨1, acc, gs, [⟨x0, x1, x2, x3, x4, x5, x6, x7, x8, x9, xa⟩, ⟨x0, x1, x2, x3, x4, x5, x6, x7, x8, x9, xa⟩], rfl, ⟨I64_1, IA.out⟩, Kd.R_below (R_far3 (HC.out) (R_two (by have := HF.out.l4; have := HF.out.ls; omega) x0 x1 x2 x3 x4 x5 x6 x7 x8 x9 xa x0 x1 x2 x3 x4 x5 x6 x7 x8 x9 xa (HC.out).bs)) (below_drew1 (Below.refl _ _)), rfl, two_all HW1.out HW1.out, (dfar3 (HC.out)).below (below_drew1 (Below.refl _ _)), (keep_far3 (HC.out)).trans (KeepBut.of_below (below_drew1 (Below.refl _ _)) gd none) (.inl rfl)⟩
  case neg =>
  have g1 : (t == 1) = false := beq_eq_false_iff_ne.2 h1
  by_cases h2 : t = 2
  case pos =>
    have g2 : (t == 2) = true := beq_iff_eq.2 h2
    clear h0 h1 h2
    go_wp2
    have hb4 := put3 (v0 := .int .i64 1) (v1 := .int .i64 to_) (v2 := .slice (some ⟨gs, 0, none⟩) 2 2) (HF.out.set6 1 (.int .i64 to_)).b4
    refine bodyPost_ret (results_cell_row rfl _ _ g4 26 #[.int .i64 1, .int .i64 to_, .slice (some ⟨gs, 0, none⟩) 2 2] (0, 0) _ rfl hb4 Try.underlying26 rfl (by kernel_rfl)) rfl ?_
    exact ⟨1, to_, gs, [⟨x0, x1, x2, x3, x4, x5, x6, x7, x8, x9, xa⟩, ⟨y0, y1, y2, y3, y4, y5, y6, y7, y8, y9, ya⟩], rfl, ⟨I64_1, HT.out⟩, R_far3 (HF.out.set6 1 (.int .i64 to_)) (R_two (by have := HF.out.l4; have := HF.out.ls; omega) x0 x1 x2 x3 x4 x5 x6 x7 x8 x9 xa y0 y1 y2 y3 y4 y5 y6 y7 y8 y9 ya (HF.out.set6 1 (.int .i64 to_)).bs), rfl, two_all HW1.out HW2.out, dfar3 (HF.out.set6 1 (.int .i64 to_)), keep_far3 (HF.out.set6 1 (.int .i64 to_))⟩
  case neg =>
    have g2 : (t == 2) = false := beq_eq_false_iff_ne.2 h2
    clear h0 h1 h2
    go_wp2
    have hb4 := put3 (v0 := .int .i64 1) (v1 := .int .i64 acc) (v2 := .slice (some ⟨gs, 0, none⟩) 2 2) (HF.out).b4
    refine bodyPost_ret (results_cell_row rfl _ _ g4 26 #[.int .i64 1, .int .i64 acc, .slice (some ⟨gs, 0, none⟩) 2 2] (0, 0) _ rfl hb4 Try.underlying26 rfl (by kernel_rfl)) rfl ?_
    exact ⟨1, acc, gs, [⟨x0, x1, x2, x3, x4, x5, x6, x7, x8, x9, xa⟩, ⟨y0, y1, y2, y3, y4, y5, y6, y7, y8, y9, ya⟩], rfl, ⟨I64_1, IA.out⟩, R_far3 (HF.out) (R_two (by have := HF.out.l4; have := HF.out.ls; omega) x0 x1 x2 x3 x4 x5 x6 x7 x8 x9 xa y0 y1 y2 y3 y4 y5 y6 y7 y8 y9 ya (HF.out).bs), rfl, two_all HW1.out HW2.out, dfar3 (HF.out), keep_far3 (HF.out)⟩
end Go.Proofs.Ytcjdnahgffkbdaa.Spf

namespace Go.Proofs.Ytcjdnahgffkbdaa.Sev
open Go Go.RowKit Go.Proofs Go.Proofs.Ytcjdnahgffkbdaa.Gm Go.Proofs.Ytcjdnahgffkbdaa.Gwa Go.Proofs.Ytcjdnahgffkbdaa.Gwb Go.Proofs.Ytcjdnahgffkbdaa.Gwd Go.Proofs.Ytcjdnahgffkbdaa.Srd Go.Proofs.Ytcjdnahgffkbdaa.Srs Go.Proofs.Ytcjdnahgffkbdaa.Sst Go.Proofs.Ytcjdnahgffkbdaa.Q Go.Proofs.YtcjdnahgffkbdaaW.PrintWords Go.Proofs.YtcjdnahgffkbdaaW.PrintLast Go.Proofs.YtcjdnahgffkbdaaW.PrintMore
set_option linter.unusedVariables false
def stI (l : List UInt8) (a er : Int) : Nat → Int × Int
  | 0 => (a, er)
  | i + 1 => (rI l (stI l a er i).1 (stI l a er i).2).2
def nmI (l : List UInt8) (a er : Int) (i : Nat) : Int := (rI l (stI l a er i).1 (stI l a er i).2).1
theorem nm_step (l : List UInt8) (a er : Int) (i : Nat) : rI l (stI l a er i).1 (stI l a er i).2 = (nmI l a er i, (stI l a er (i + 1)).1, (stI l a er (i + 1)).2) := rfl
def rSs (l : List UInt8) : Nat → List S64 → Int → Int → List S64 × Int × Int
  | 0, acc, a, er => (acc, a, er)
  | n + 1, acc, a, er => if er = 0 then rSs l n (acc ++ [(rS l a er).1]) (rS l a er).2.1 (rS l a er).2.2 else (acc, a, er)
def evT (l : List UInt8) (a er : Int) : ByteArray × Int × Int := th (⟨#[]⟩ : ByteArray) (textAt l (stI l a er 4).1 16384) (stI l a er 4).1 (stI l a er 4).2
def evC (l : List UInt8) (a er : Int) : Int × Int × Int := rC l (stI l (evT l a er).2.1 (evT l a er).2.2 2).1 (stI l (evT l a er).2.1 (evT l a er).2.2 2).2 256
def rE (l : List UInt8) (a er : Int) : S28 × Int × Int :=
  let t := evT l a er
  let ss := rSs l (evC l a er).1.toNat [] (evC l a er).2.1 (evC l a er).2.2
  (⟨nmI l a er 0, nmI l a er 1, nmI l a er 2, nmI l a er 3, t.1, ⟨nmI l t.2.1 t.2.2 0, nmI l t.2.1 t.2.2 1, ss.1⟩⟩, ss.2.1, ss.2.2)
def part4 (f : Nat → Int) (k : Nat) : Array Value := #[.int .i64 (if 0 < k then f 0 else 0), .int .i64 (if 1 < k then f 1 else 0), .int .i64 (if 2 < k then f 2 else 0), .int .i64 (if 3 < k then f 3 else 0), .string ⟨#[]⟩, .int .i64 0, .int .i64 0, .slice none 0 0]
theorem part4_zero (f : Nat → Int) : part4 f 0 = #[.int .i64 0, .int .i64 0, .int .i64 0, .int .i64 0, .string ⟨#[]⟩, .int .i64 0, .int .i64 0, .slice none 0 0] := by simp [part4]
theorem part4_full (f : Nat → Int) : part4 f 4 = #[.int .i64 (f 0), .int .i64 (f 1), .int .i64 (f 2), .int .i64 (f 3), .string ⟨#[]⟩, .int .i64 0, .int .i64 0, .slice none 0 0] := by simp [part4]
theorem k4 {k : Nat} (h : k < 4) : k = 0 ∨ k = 1 ∨ k = 2 ∨ k = 3 := by omega
theorem part4_set (f : Nat → Int) (k : Nat) (h : k < 4) : (part4 f k).setIfInBounds k (.int .i64 (f k)) = part4 f (k + 1) := by
  obtain rfl | rfl | rfl | rfl := k4 h <;> simp [part4]
theorem part4_at (f : Nat → Int) (k : Nat) (h : k < 4) : (part4 f k)[k]? = some (.int .i64 0) := by
  obtain rfl | rfl | rfl | rfl := k4 h <;> simp [part4]
theorem ix4 (ge k : Nat) (hk : k < 4) (W : World) : (Instr.index 86 (.agg #[.pointer (some ⟨ge, 0, none⟩), .pointer (some ⟨ge, 1, none⟩), .pointer (some ⟨ge, 2, none⟩), .pointer (some ⟨ge, 3, none⟩)]) (.int .i64 (k : Int))).run Try.prog W = .ok (.pointer (some ⟨ge, k, none⟩)) W := by
  have h := Try.underlying86
  have hi0 : (Try.prog.info? 65).map (fun i => i.size) = some 1 := by kernel_rfl
  obtain ⟨i0, hi, hsz⟩ := Option.map_eq_some_iff.1 hi0
  obtain rfl | rfl | rfl | rfl := k4 hk <;> simp [Instr.index, run_underlying h, asIntOf, sizeOf, typeInfo, go_sem, hi, hsz]
structure VW (w W0 W : World) (g : Nat) (l : List UInt8) (a er : Int) (gz ge : Nat) (cs : Array Value) (v : Value) (ss : List S64) : Prop where
  rd : RD w W g l a er
  kp : KeepBut W0 W g none
  bz : W.heap[gz]? = some (.cells #[.int .i64 0, .int .i64 0, .int .i64 0, .int .i64 0, .string ⟨#[]⟩, .int .i64 0, .int .i64 0, .slice none 0 0] 28 (0, 0))
  lz : W0.heap.size ≤ gz
  be : W.heap[ge]? = some (.cells cs 28 (0, 0))
  le : W0.heap.size ≤ ge
  nz : gz ≠ ge
  cr : Kd.R k64 64 W W0.heap.size (fun _ => True) v ss
section
variable {w W0 W W' : World} {g : Nat} {l : List UInt8} {a er a1 w1 : Int} {gz ge : Nat} {cs : Array Value} {v : Value} {ss : List S64}
theorem VW.ne (h : VW w W0 W g l a er gz ge cs v ss) {i : Nat} {ds : Array Value} {t : TypeId} (hb : W.heap[i]? = some (.cells ds t (0, 0))) (ht : 64 ≠ t) : some i ≠ v.ownBlock := Kd.R_ne h.cr hb ht
theorem VW.below (h : VW w W0 W g l a er gz ge cs v ss) (hb : Below W.heap.size W W') : VW w W0 W' g l a er gz ge cs v ss :=
  ⟨h.rd.below hb, h.kp.trans (KeepBut.of_below hb g none) (.inl rfl), blk_below h.bz hb, h.lz, blk_below h.be hb, h.le, h.nz, Kd.R_below h.cr hb⟩
theorem VW.drew (h : VW w W0 W g l a er gz ge cs v ss) : VW w W0 W.drew g l a er gz ge cs v ss := h.below (below_drew1 (Below.refl _ _))
theorem VW.step (h : VW w W0 W g l a er gz ge cs v ss) (hg : g < W0.heap.size) (hd : RD w W' g l a1 w1) (hk : KeepBut W W' g none) : VW w W0 W' g l a1 w1 gz ge cs v ss :=
  ⟨hd, h.kp.trans hk (.inl rfl), hk.blk h.bz (by have := h.lz; omega) (by simp), h.lz, hk.blk h.be (by have := h.le; omega) (by simp), h.le, h.nz, Kd.R_mono (Kd.R_keep (Kd.R_types h.cr h.rd.bk (by first | decide | (intro q hq; rcases List.mem_cons.1 hq with h_ | h_; (subst h_; decide); (first | (cases h_; done) | (simp [k64] at h_))))) hk (fun _ z => z.2)) (fun _ z => z.1)⟩
theorem VW.set (h : VW w W0 W g l a er gz ge cs v ss) (h0 : w.heap.size ≤ W0.heap.size) (hg : g < W0.heap.size) (i : Nat) (u : Value) : VW w W0 (W.setCell ⟨ge, i, none⟩ u) g l a er gz ge (cs.setIfInBounds i u) v ss :=
  ⟨rd_far h.rd (p := ⟨ge, i, none⟩) (show g ≠ ge by have := h.le; omega) (Nat.le_trans h0 h.le) u, keep_far h.kp (p := ⟨ge, i, none⟩) h.le u, blk_far h.bz h.nz u, h.lz, blk_put h.be i u rfl, h.le, h.nz,
    Kd.R_mono (Kd.R_far (p := ⟨ge, i, none⟩) (Kd.R_types h.cr h.be (by first | decide | (intro q hq; rcases List.mem_cons.1 hq with h_ | h_; (subst h_; decide); (first | (cases h_; done) | (simp [k64] at h_))))) (fun _ hk => hk.2) u) (fun _ z => z.1)⟩
theorem VW.app {W' : World} {v1 : Value} {ss' : List S64} (h : VW w W0 W g l a er gz ge cs v ss) (h0 : w.heap.size ≤ W0.heap.size) (hr : Kd.R k64 64 W' W0.heap.size (fun _ => True) v1 ss') (hg : W.grownBy W' v.ownBlock) : VW w W0 W' g l a er gz ge cs v1 ss' := by
  have hb : ∀ b, v.ownBlock = some b → W0.heap.size ≤ b := fun b e => by
    obtain ⟨hok, inner, ho, hr⟩ := h.cr
    rcases ho.2 with ⟨rfl, -⟩ | ⟨g', cap, cur, rfl, hg', -⟩
    · cases e
    · simp [Value.ownBlock] at e
      subst e
      exact hg'
  exact ⟨⟨h.rd.hb.grown hg h.rd.hb.size (fun b e => Nat.le_trans h0 (hb b e)), h.rd.lo, blk_grown h.rd.bk hg (Kd.R_ne h.cr h.rd.bk (by decide))⟩, h.kp.trans (KeepBut.of_grown hg g) (by
    cases hv : v.ownBlock with
    | none => exact .inl rfl
    | some b => exact .inr ⟨b, rfl, hb b hv⟩), blk_grown h.bz hg (Kd.R_ne h.cr h.bz (by decide)), h.lz, blk_grown h.be hg (Kd.R_ne h.cr h.be (by decide)), h.le, h.nz, hr⟩
end
theorem info64 : (Try.prog.info? 64).map (fun i => (i.zero, i.size, i.bytes)) = some (some (.agg #[.int .i64 0, .int .i64 0, .int .i64 0, .int .i64 0, .int .i64 0, .int .i64 0, .int .i64 0, .int .i64 0, .int .i64 0, .int .i64 0, .int .i64 0]), 11, 88) := by kernel_rfl
theorem put8 {W : World} {g : Nat} {t : TypeId} (x0 x1 x2 x3 x4 x5 x6 x7 v0 v1 v2 v3 v4 v5 v6 v7 : Value) (h : W.heap[g]? = some (.cells #[x0, x1, x2, x3, x4, x5, x6, x7] t (0, 0))) : ((((((((W.setCell ⟨g, 0, none⟩ v0).setCell ⟨g, 1, none⟩ v1).setCell ⟨g, 2, none⟩ v2).setCell ⟨g, 3, none⟩ v3).setCell ⟨g, 4, none⟩ v4).setCell ⟨g, 5, none⟩ v5).setCell ⟨g, 6, none⟩ v6).setCell ⟨g, 7, none⟩ v7).heap[g]? = some (.cells #[v0, v1, v2, v3, v4, v5, v6, v7] t (0, 0)) := by
  have h0_ : (W.setCell ⟨g, 0, none⟩ v0).heap[g]? = some (.cells #[v0, x1, x2, x3, x4, x5, x6, x7] t (0, 0)) := blk_put h 0 v0 rfl
  have h1_ : ((W.setCell ⟨g, 0, none⟩ v0).setCell ⟨g, 1, none⟩ v1).heap[g]? = some (.cells #[v0, v1, x2, x3, x4, x5, x6, x7] t (0, 0)) := blk_put h0_ 1 v1 rfl
  have h2_ : (((W.setCell ⟨g, 0, none⟩ v0).setCell ⟨g, 1, none⟩ v1).setCell ⟨g, 2, none⟩ v2).heap[g]? = some (.cells #[v0, v1, v2, x3, x4, x5, x6, x7] t (0, 0)) := blk_put h1_ 2 v2 rfl
  have h3_ : ((((W.setCell ⟨g, 0, none⟩ v0).setCell ⟨g, 1, none⟩ v1).setCell ⟨g, 2, none⟩ v2).setCell ⟨g, 3, none⟩ v3).heap[g]? = some (.cells #[v0, v1, v2, v3, x4, x5, x6, x7] t (0, 0)) := blk_put h2_ 3 v3 rfl
  have h4_ : (((((W.setCell ⟨g, 0, none⟩ v0).setCell ⟨g, 1, none⟩ v1).setCell ⟨g, 2, none⟩ v2).setCell ⟨g, 3, none⟩ v3).setCell ⟨g, 4, none⟩ v4).heap[g]? = some (.cells #[v0, v1, v2, v3, v4, x5, x6, x7] t (0, 0)) := blk_put h3_ 4 v4 rfl
  have h5_ : ((((((W.setCell ⟨g, 0, none⟩ v0).setCell ⟨g, 1, none⟩ v1).setCell ⟨g, 2, none⟩ v2).setCell ⟨g, 3, none⟩ v3).setCell ⟨g, 4, none⟩ v4).setCell ⟨g, 5, none⟩ v5).heap[g]? = some (.cells #[v0, v1, v2, v3, v4, v5, x6, x7] t (0, 0)) := blk_put h4_ 5 v5 rfl
  have h6_ : (((((((W.setCell ⟨g, 0, none⟩ v0).setCell ⟨g, 1, none⟩ v1).setCell ⟨g, 2, none⟩ v2).setCell ⟨g, 3, none⟩ v3).setCell ⟨g, 4, none⟩ v4).setCell ⟨g, 5, none⟩ v5).setCell ⟨g, 6, none⟩ v6).heap[g]? = some (.cells #[v0, v1, v2, v3, v4, v5, v6, x7] t (0, 0)) := blk_put h5_ 6 v6 rfl
  have h7_ : ((((((((W.setCell ⟨g, 0, none⟩ v0).setCell ⟨g, 1, none⟩ v1).setCell ⟨g, 2, none⟩ v2).setCell ⟨g, 3, none⟩ v3).setCell ⟨g, 4, none⟩ v4).setCell ⟨g, 5, none⟩ v5).setCell ⟨g, 6, none⟩ v6).setCell ⟨g, 7, none⟩ v7).heap[g]? = some (.cells #[v0, v1, v2, v3, v4, v5, v6, v7] t (0, 0)) := blk_put h6_ 7 v7 rfl
  exact h7_
theorem far8 {w W0 W : World} {g gz : Nat} {l : List UInt8} {a wr : Int} {v : Value} {ss : List S64} {ge : Nat} {cs : Array Value} (h : VW w W0 W g l a wr gz ge cs v ss) (h0 : w.heap.size ≤ W0.heap.size) (hg : g < W0.heap.size) (v0 v1 v2 v3 v4 v5 v6 v7 : Value) : RD w ((((((((W.setCell ⟨gz, 0, none⟩ v0).setCell ⟨gz, 1, none⟩ v1).setCell ⟨gz, 2, none⟩ v2).setCell ⟨gz, 3, none⟩ v3).setCell ⟨gz, 4, none⟩ v4).setCell ⟨gz, 5, none⟩ v5).setCell ⟨gz, 6, none⟩ v6).setCell ⟨gz, 7, none⟩ v7) g l a wr ∧ KeepBut W0 ((((((((W.setCell ⟨gz, 0, none⟩ v0).setCell ⟨gz, 1, none⟩ v1).setCell ⟨gz, 2, none⟩ v2).setCell ⟨gz, 3, none⟩ v3).setCell ⟨gz, 4, none⟩ v4).setCell ⟨gz, 5, none⟩ v5).setCell ⟨gz, 6, none⟩ v6).setCell ⟨gz, 7, none⟩ v7) g none ∧ Kd.R k64 64 ((((((((W.setCell ⟨gz, 0, none⟩ v0).setCell ⟨gz, 1, none⟩ v1).setCell ⟨gz, 2, none⟩ v2).setCell ⟨gz, 3, none⟩ v3).setCell ⟨gz, 4, none⟩ v4).setCell ⟨gz, 5, none⟩ v5).setCell ⟨gz, 6, none⟩ v6).setCell ⟨gz, 7, none⟩ v7) W0.heap.size (fun _ => True) v ss := by
  have hne : g ≠ gz := by have := h.lz; omega
  have hw : w.heap.size ≤ gz := Nat.le_trans h0 h.lz
  have hz := h.lz
  have b0 := h.bz
  have r0 := h.rd
  have k0 := h.kp
  have c0 := Kd.R_mono (Kd.R_types h.cr h.bz (by first | decide | (intro q hq; rcases List.mem_cons.1 hq with h_ | h_; (subst h_; decide); (first | (cases h_; done) | (simp [k64] at h_))))) (fun k z => (z : True ∧ k ≠ gz))
  have r1 := rd_far r0 (p := ⟨gz, 0, none⟩) hne hw v0
  have k1 := keep_far k0 (p := ⟨gz, 0, none⟩) hz v0
  have c1 := Kd.R_far (p := ⟨gz, 0, none⟩) c0 (fun _ hk => hk.2) v0
  have r2 := rd_far r1 (p := ⟨gz, 1, none⟩) hne hw v1
  have k2 := keep_far k1 (p := ⟨gz, 1, none⟩) hz v1
  have c2 := Kd.R_far (p := ⟨gz, 1, none⟩) c1 (fun _ hk => hk.2) v1
  have r3 := rd_far r2 (p := ⟨gz, 2, none⟩) hne hw v2
  have k3 := keep_far k2 (p := ⟨gz, 2, none⟩) hz v2
  have c3 := Kd.R_far (p := ⟨gz, 2, none⟩) c2 (fun _ hk => hk.2) v2
  have r4 := rd_far r3 (p := ⟨gz, 3, none⟩) hne hw v3
  have k4 := keep_far k3 (p := ⟨gz, 3, none⟩) hz v3
  have c4 := Kd.R_far (p := ⟨gz, 3, none⟩) c3 (fun _ hk => hk.2) v3
  have r5 := rd_far r4 (p := ⟨gz, 4, none⟩) hne hw v4
  have k5 := keep_far k4 (p := ⟨gz, 4, none⟩) hz v4
  have c5 := Kd.R_far (p := ⟨gz, 4, none⟩) c4 (fun _ hk => hk.2) v4
  have r6 := rd_far r5 (p := ⟨gz, 5, none⟩) hne hw v5
  have k6 := keep_far k5 (p := ⟨gz, 5, none⟩) hz v5
  have c6 := Kd.R_far (p := ⟨gz, 5, none⟩) c5 (fun _ hk => hk.2) v5
  have r7 := rd_far r6 (p := ⟨gz, 6, none⟩) hne hw v6
  have k7 := keep_far k6 (p := ⟨gz, 6, none⟩) hz v6
  have c7 := Kd.R_far (p := ⟨gz, 6, none⟩) c6 (fun _ hk => hk.2) v6
  have r8 := rd_far r7 (p := ⟨gz, 7, none⟩) hne hw v7
  have k8 := keep_far k7 (p := ⟨gz, 7, none⟩) hz v7
  have c8 := Kd.R_far (p := ⟨gz, 7, none⟩) c7 (fun _ hk => hk.2) v7
  exact ⟨r8, k8, Kd.R_mono c8 (fun _ z => z.1)⟩
theorem rC_range {l : List UInt8} {a er n b v : Int} (h : rC l a er 256 = (n, b, v)) : 0 ≤ n ∧ n ≤ 256 := by
  unfold rC at h
  split at h
  · simp only [Prod.mk.injEq] at h
    omega
  case isFalse hn =>
    rw [h] at hn
    simp only at hn
    unfold rI th at h
    split at h
    · simp only [Prod.mk.injEq] at h
      omega
    · split at h
      · simp only [Prod.mk.injEq] at h
        omega
      · simp only [Prod.mk.injEq] at h
        have h3 : v = 0 := h.2.2.symm
        have h4 : ¬ (n < 0 ∨ 256 < n) := fun z => hn ⟨h3, z⟩
        omega
set_option maxRecDepth 100000 in
set_option maxHeartbeats 8000000 in
theorem revent_x (w W : World) (g : Nat) (l : List UInt8) (a er : Int) (h : RD w W g l a er) (hs : l.length ≤ 17592186044416) (x : S28) (a1 w1 : Int) (hr : rE l a er = (x, a1, w1)) :
    Calls Try.prog 27 #[.pointer (some ⟨g, 0, none⟩)] W fun e w' => ∃ v : Value, e = .returned (.agg #[.int .i64 x.f0, .int .i64 x.f1, .int .i64 x.f2, .int .i64 x.f3, .string x.f4, .int .i64 x.f5.f0, .int .i64 x.f5.f1, v]) ∧ Kd.R k64 64 w' W.heap.size (fun _ => True) v x.f5.f2 ∧ RD w w' g l a1 w1 ∧ KeepBut W w' g none := by
  have mixed : (Try.prog).follows .mixedOrders = true := by kernel_rfl
  have hu55 := Try.underlying55
  have hu28 := Try.underlying28
  have hu26 := Try.underlying26
  have huP := Try.underlying86
  obtain ⟨t, tb, te, hT⟩ : ∃ t tb te, evT l a er = (t, tb, te) := ⟨_, _, _, rfl⟩
  obtain ⟨n, nb, ne_, hC⟩ : ∃ n nb ne_, evC l a er = (n, nb, ne_) := ⟨_, _, _, rfl⟩
  obtain ⟨ss, sb, se, hS⟩ : ∃ ss sb se, rSs l n.toNat [] nb ne_ = (ss, sb, se) := ⟨_, _, _, rfl⟩
  have HTX : Hid (th (⟨#[]⟩ : ByteArray) (textAt l (stI l a er 4).1 16384) (stI l a er 4).1 (stI l a er 4).2 = (t, tb, te)) := Lib.hid hT
  have HCX : Hid (rC l (stI l tb te 2).1 (stI l tb te 2).2 256 = (n, nb, ne_)) := Lib.hid (by have h := hC; unfold evC at h; rw [hT] at h; exact h)
  have HSX := Lib.hid hS
  have hnr := rC_range HCX.out
  obtain ⟨rfl, rfl, rfl⟩ : (⟨nmI l a er 0, nmI l a er 1, nmI l a er 2, nmI l a er 3, t, ⟨nmI l tb te 0, nmI l tb te 1, ss⟩⟩ : S28) = x ∧ sb = a1 ∧ se = w1 := by
    have h := hr
    unfold rE at h
    simp only [hT, hC, hS, Prod.mk.injEq] at h
    exact ⟨h.1, h.2.1, h.2.2⟩
  have HG : Aside0 (g < W.heap.size) := ⟨rd_lt h⟩
  have HW : Aside0 (w.heap.size ≤ W.heap.size) := ⟨h.hb.size⟩
  have HX : Aside0 (VW w W ((W.alloc (.cells #[.int .i64 0, .int .i64 0, .int .i64 0, .int .i64 0, .string ⟨#[]⟩, .int .i64 0, .int .i64 0, .slice none 0 0] 28)).alloc (.cells #[.int .i64 0, .int .i64 0, .int .i64 0, .int .i64 0, .string ⟨#[]⟩, .int .i64 0, .int .i64 0, .slice none 0 0] 28)) g l a er W.heap.size (W.heap.size + 1) #[.int .i64 0, .int .i64 0, .int .i64 0, .int .i64 0, .string ⟨#[]⟩, .int .i64 0, .int .i64 0, .slice none 0 0] (.slice none 0 0) []) :=
    ⟨⟨(h.alloc _).alloc _, KeepBut.of_below (below_alloc (below_alloc (Below.refl _ _) _) _) g none, blk_alloc (heap_alloc_new W _) _, Nat.le_refl _, by have := heap_alloc_new (W.alloc (.cells #[.int .i64 0, .int .i64 0, .int .i64 0, .int .i64 0, .string ⟨#[]⟩, .int .i64 0, .int .i64 0, .slice none 0 0] 28)) (.cells #[.int .i64 0, .int .i64 0, .int .i64 0, .int .i64 0, .string ⟨#[]⟩, .int .i64 0, .int .i64 0, .slice none 0 0] 28); simpa using this, Nat.le_succ _, by omega, Kd.R_nil _ _ _ _ _⟩⟩
  clear h hr hT hC hS
  have HN0 : Hid (rI l tb te = (nmI l tb te 0, (stI l tb te 1).1, (stI l tb te 1).2)) := Lib.hid (nm_step l tb te 0)
  have HN1 : Hid (rI l (stI l tb te 1).1 (stI l tb te 1).2 = (nmI l tb te 1, (stI l tb te 2).1, (stI l tb te 2).2)) := Lib.hid (nm_step l tb te 1)
  go_enter Try.func27, Try.ntmps27
  go_upto_region 2 with fail
  obtain ⟨W1, hW1⟩ : ∃ W1, W1 = (W.alloc (.cells #[.int .i64 0, .int .i64 0, .int .i64 0, .int .i64 0, .string ⟨#[]⟩, .int .i64 0, .int .i64 0, .slice none 0 0] 28)).alloc (.cells #[.int .i64 0, .int .i64 0, .int .i64 0, .int .i64 0, .string ⟨#[]⟩, .int .i64 0, .int .i64 0, .slice none 0 0] 28) := ⟨_, rfl⟩
  rw [← hW1] at HX ⊢
  clear hW1
  obtain ⟨ge, hge⟩ : ∃ ge, W.heap.size + 1 = ge := ⟨_, rfl⟩
  rw [hge] at HX ⊢
  clear hge
  obtain ⟨gz, hgz⟩ : ∃ gz, W.heap.size = gz := ⟨_, rfl⟩
  have HX2 : Aside0 (VW w W W1 g l a er gz ge #[.int .i64 0, .int .i64 0, .int .i64 0, .int .i64 0, .string ⟨#[]⟩, .int .i64 0, .int .i64 0, .slice none 0 0] (.slice none 0 0) []) := ⟨by rw [← hgz]; exact HX.out⟩
  rw [hgz]
  clear HX hgz
  go_wp2
  go_loopw [12] (fun s12 wr => ∃ k : Nat, k ≤ 4 ∧ s12 = .int .i64 k ∧ Aside0 (VW w W wr g l (stI l a er k).1 (stI l a er k).2 gz ge (part4 (nmI l a er) k) (.slice none 0 0) [])) (fun s12 _ => 4 - (intOf s12).toNat)
  case atStart => exact ⟨0, by omega, rfl, by rw [part4_zero]; exact HX2⟩
  case round =>
    clear HX2
    obtain ⟨k, hk, rfl, HX⟩ := hrel
    have hgl := rd_lt HX.out.rd
    by_cases hk4 : k < 4
    case pos =>
      have hk4i : (k : Int) < 4 := by omega
      have hrix : ∀ W', (Instr.index 86 (.agg #[.pointer (some ⟨ge, 0, none⟩), .pointer (some ⟨ge, 1, none⟩), .pointer (some ⟨ge, 2, none⟩), .pointer (some ⟨ge, 3, none⟩)]) (.int .i64 (k : Int))).run Try.prog W' = .ok (.pointer (some ⟨ge, k, none⟩)) W' := fun W' => ix4 ge k hk4 W'
      go_wp2_with (first | (go_at_call 43; with_reducible refine (rint_x w _ g l _ _ HX.out.rd hs _ _ _ (nm_step l a er k)).mono ?_; rintro e w' ⟨rfl, hd, hk⟩; have n_ := Aside0.mk (VW.step HX.out HG.out hd hk); clear HX hd hk; have HX := n_; clear n_ hgl; have hgl := rd_lt HX.out.rd; have hc_ : w'.cell? ⟨ge, k, none⟩ = some (.int .i64 0) := (blk_cell HX.out.be k).trans (part4_at _ k hk4); have hf_ := blk_frozen HX.out.be k))
      go_roundw
      case rel => exact ⟨k + 1, by omega, by go_num, ⟨by have h := HX.out.set HW.out HG.out k (.int .i64 (nmI l a er k)); rw [part4_set _ k hk4] at h; exact h⟩⟩
      case measure => simp only [intOf]; omega
    case neg =>
    obtain rfl : k = 4 := by omega
    rw [part4_full] at HX
    go_upto_region 8 with (first | (go_at_call 44; with_reducible refine (then_text w _ g l _ _ HX.out.rd hs t tb te HTX.out).mono ?_; rintro e w' ⟨rfl, hd, hk⟩; have n_ := Aside0.mk (VW.step HX.out HG.out hd hk); clear HX hd hk; have HX := n_; clear n_ hgl; have hgl := rd_lt HX.out.rd; have hc4_ : w'.cell? ⟨ge, 4, none⟩ = some (.string ⟨#[]⟩) := (blk_cell HX.out.be 4).trans rfl; have hf4_ := blk_frozen HX.out.be 4))
    have HX1 : Aside0 (VW w W (w'.setCell ⟨ge, 4, none⟩ (.string t)) g l tb te gz ge #[.int .i64 (nmI l a er 0), .int .i64 (nmI l a er 1), .int .i64 (nmI l a er 2), .int .i64 (nmI l a er 3), .string t, .int .i64 0, .int .i64 0, .slice none 0 0] (.slice none 0 0) []) := ⟨by have h := HX.out.set HW.out HG.out 4 (.string t); exact h⟩
    clear HX hgl hc4_ hf4_
    have HX := HX1
    clear HX1
    generalize w'.setCell ⟨ge, 4, none⟩ (.string t) = W4 at HX ⊢
    go_upto_region 9 with (first | (go_at_call 43; go_loud (with_reducible refine (rint_x w W4 g l tb te HX.out.rd hs (nmI l tb te 0) (stI l tb te 1).1 (stI l tb te 1).2 HN0.out).mono ?_); go_loud (rintro e w' ⟨rfl, hd, hk⟩; have n_ := Aside0.mk (VW.step HX.out HG.out hd hk); clear HX hd hk; have HX := n_; clear n_); have hgl := rd_lt HX.out.rd) | (go_at_call 43; with_reducible refine (rint_x w _ g l _ _ HX.out.rd hs (nmI l tb te 1) (stI l tb te 2).1 (stI l tb te 2).2 HN1.out).mono ?_; rintro e w' ⟨rfl, hd, hk⟩; have n_ := Aside0.mk (VW.step HX.out HG.out hd hk); clear HX hd hk; have HX := n_; clear n_ hgl; have hgl := rd_lt HX.out.rd; have hc5_ : w'.cell? ⟨ge, 5, none⟩ = some (.int .i64 0) := (blk_cell HX.out.be 5).trans rfl; have hf5_ := blk_frozen HX.out.be 5; have hc6_ : w'.cell? ⟨ge, 6, none⟩ = some (.int .i64 0) := (blk_cell HX.out.be 6).trans rfl; have hf6_ := blk_frozen HX.out.be 6))
    have HX1 : Aside0 (VW w W ((w'.setCell ⟨ge, 5, none⟩ (.int .i64 (nmI l tb te 0))).setCell ⟨ge, 6, none⟩ (.int .i64 (nmI l tb te 1))) g l (stI l tb te 2).1 (stI l tb te 2).2 gz ge #[.int .i64 (nmI l a er 0), .int .i64 (nmI l a er 1), .int .i64 (nmI l a er 2), .int .i64 (nmI l a er 3), .string t, .int .i64 (nmI l tb te 0), .int .i64 (nmI l tb te 1), .slice none 0 0] (.slice none 0 0) []) := ⟨by have h := (HX.out.set HW.out HG.out 5 (.int .i64 (nmI l tb te 0))).set HW.out HG.out 6 (.int .i64 (nmI l tb te 1)); exact h⟩
    clear HX hgl hc5_ hf5_ hc6_ hf6_
    have HX := HX1
    clear HX1
    generalize (w'.setCell ⟨ge, 5, none⟩ (.int .i64 (nmI l tb te 0))).setCell ⟨ge, 6, none⟩ (.int .i64 (nmI l tb te 1)) = W6 at HX ⊢
    go_wp2_with (first | (go_at_call 26; with_reducible refine (rcount_x w _ g l _ _ 256 HX.out.rd hs n nb ne_ HCX.out).mono ?_; rintro e w' ⟨rfl, hd, hk⟩; have n_ := Aside0.mk (VW.step HX.out HG.out hd hk); clear HX hd hk; have HX := n_; clear n_; have hgl := rd_lt HX.out.rd))
    obtain ⟨m0, rfl⟩ : ∃ m0 : Nat, n = (m0 : Int) := ⟨n.toNat, by omega⟩
    have HSX2 : Hid (rSs l m0 [] nb ne_ = (ss, sb, se)) := Lib.hid (by have h := HSX.out; rw [Int.toNat_natCast] at h; exact h)
    clear HSX hgl
    go_loopw [6] (fun s6 wr => ∃ (m : Nat) (acc : List S64) (v : Value) (aa ee : Int), s6 = .int .i64 m ∧ m ≤ 256 ∧ acc.length + m ≤ 256 ∧ Hid (rSs l m acc aa ee = (ss, sb, se)) ∧ Aside0 (VW w W wr g l aa ee gz ge #[.int .i64 (nmI l a er 0), .int .i64 (nmI l a er 1), .int .i64 (nmI l a er 2), .int .i64 (nmI l a er 3), .string t, .int .i64 (nmI l tb te 0), .int .i64 (nmI l tb te 1), v] v acc)) (fun s6 _ => (intOf s6).toNat)
    case atStart => exact ⟨m0, [], _, nb, ne_, rfl, by omega, by simp; omega, HSX2, HX⟩
    case round =>
      clear HX HSX2
      obtain ⟨m, acc, v, aa, ee, rfl, hm, hac, HS, HX⟩ := hrel
      obtain ⟨A, c, hv⟩ := Kd.R_slice HX.out.cr
      subst hv
      have hgl := rd_lt HX.out.rd
      have hq2 : wr.cell? ⟨g, 2, none⟩ = some (.int .i64 ee) := (blk_cell HX.out.rd.bk 2).trans rfl
      by_cases hm0 : m = 0
      case pos =>
        subst hm0
        obtain ⟨rfl, rfl, rfl⟩ : acc = ss ∧ aa = sb ∧ ee = se := by have h := HS.out; rw [rSs] at h; simpa using h
        rw [show ((0 : Nat) : Int) = 0 from rfl]
        have he0_ : wr.cell? ⟨ge, 0, none⟩ = some (.int .i64 (nmI l a er 0)) := (blk_cell HX.out.be 0).trans rfl
        have he1_ : wr.cell? ⟨ge, 1, none⟩ = some (.int .i64 (nmI l a er 1)) := (blk_cell HX.out.be 1).trans rfl
        have he2_ : wr.cell? ⟨ge, 2, none⟩ = some (.int .i64 (nmI l a er 2)) := (blk_cell HX.out.be 2).trans rfl
        have he3_ : wr.cell? ⟨ge, 3, none⟩ = some (.int .i64 (nmI l a er 3)) := (blk_cell HX.out.be 3).trans rfl
        have he4_ : wr.cell? ⟨ge, 4, none⟩ = some (.string t) := (blk_cell HX.out.be 4).trans rfl
        have he5_ : wr.cell? ⟨ge, 5, none⟩ = some (.int .i64 (nmI l tb te 0)) := (blk_cell HX.out.be 5).trans rfl
        have he6_ : wr.cell? ⟨ge, 6, none⟩ = some (.int .i64 (nmI l tb te 1)) := (blk_cell HX.out.be 6).trans rfl
        have he7_ : wr.cell? ⟨ge, 7, none⟩ = some (.slice A acc.length c) := (blk_cell HX.out.be 7).trans rfl
        have hz0_ : wr.cell? ⟨gz, 0, none⟩ = some (.int .i64 0) := (blk_cell HX.out.bz 0).trans rfl
        have hz1_ : wr.cell? ⟨gz, 1, none⟩ = some (.int .i64 0) := (blk_cell HX.out.bz 1).trans rfl
        have hz2_ : wr.cell? ⟨gz, 2, none⟩ = some (.int .i64 0) := (blk_cell HX.out.bz 2).trans rfl
        have hz3_ : wr.cell? ⟨gz, 3, none⟩ = some (.int .i64 0) := (blk_cell HX.out.bz 3).trans rfl
        have hz4_ : wr.cell? ⟨gz, 4, none⟩ = some (.string ⟨#[]⟩) := (blk_cell HX.out.bz 4).trans rfl
        have hz5_ : wr.cell? ⟨gz, 5, none⟩ = some (.int .i64 0) := (blk_cell HX.out.bz 5).trans rfl
        have hz6_ : wr.cell? ⟨gz, 6, none⟩ = some (.int .i64 0) := (blk_cell HX.out.bz 6).trans rfl
        have hz7_ : wr.cell? ⟨gz, 7, none⟩ = some (.slice none 0 0) := (blk_cell HX.out.bz 7).trans rfl
        have hfz0_ := blk_frozen HX.out.bz 0
        have hfz1_ := blk_frozen HX.out.bz 1
        have hfz2_ := blk_frozen HX.out.bz 2
        have hfz3_ := blk_frozen HX.out.bz 3
        have hfz4_ := blk_frozen HX.out.bz 4
        have hfz5_ := blk_frozen HX.out.bz 5
        have hfz6_ := blk_frozen HX.out.bz 6
        have hfz7_ := blk_frozen HX.out.bz 7
        have hgz_ := blk_lt HX.out.bz
        have hge_ := blk_lt HX.out.be
        go_wp2
        refine bodyPost_ret (results_cell_row rfl _ _ gz 28 #[.int .i64 (nmI l a er 0), .int .i64 (nmI l a er 1), .int .i64 (nmI l a er 2), .int .i64 (nmI l a er 3), .string t, .int .i64 (nmI l tb te 0), .int .i64 (nmI l tb te 1), .slice A acc.length c] (0, 0) _ rfl (by with_reducible exact put8 _ _ _ _ _ _ _ _ _ _ _ _ _ _ _ _ HX.out.bz) Try.underlying28 rfl (by kernel_rfl)) rfl ?_
        have hf := far8 HX.out HW.out HG.out (.int .i64 (nmI l a er 0)) (.int .i64 (nmI l a er 1)) (.int .i64 (nmI l a er 2)) (.int .i64 (nmI l a er 3)) (.string t) (.int .i64 (nmI l tb te 0)) (.int .i64 (nmI l tb te 1)) (.slice A acc.length c)
        exact ⟨_, rfl, hf.2.2, hf.1, hf.2.1⟩
      case neg =>
      have d0 : decide (0 < (m : Int)) = true := decide_eq_true (by omega)
      by_cases he : ee = 0
      case neg =>
        obtain ⟨rfl, rfl, rfl⟩ : acc = ss ∧ aa = sb ∧ ee = se := by
          have h := HS.out
          obtain ⟨m', rfl⟩ : ∃ m', m = m' + 1 := ⟨m - 1, by omega⟩
          rw [rSs, if_neg he] at h
          simpa using h
        have g0 := beq_eq_false_iff_ne.2 he
        clear he
        have he0_ : wr.cell? ⟨ge, 0, none⟩ = some (.int .i64 (nmI l a er 0)) := (blk_cell HX.out.be 0).trans rfl
        have he1_ : wr.cell? ⟨ge, 1, none⟩ = some (.int .i64 (nmI l a er 1)) := (blk_cell HX.out.be 1).trans rfl
        have he2_ : wr.cell? ⟨ge, 2, none⟩ = some (.int .i64 (nmI l a er 2)) := (blk_cell HX.out.be 2).trans rfl
        have he3_ : wr.cell? ⟨ge, 3, none⟩ = some (.int .i64 (nmI l a er 3)) := (blk_cell HX.out.be 3).trans rfl
        have he4_ : wr.cell? ⟨ge, 4, none⟩ = some (.string t) := (blk_cell HX.out.be 4).trans rfl
        have he5_ : wr.cell? ⟨ge, 5, none⟩ = some (.int .i64 (nmI l tb te 0)) := (blk_cell HX.out.be 5).trans rfl
        have he6_ : wr.cell? ⟨ge, 6, none⟩ = some (.int .i64 (nmI l tb te 1)) := (blk_cell HX.out.be 6).trans rfl
        have he7_ : wr.cell? ⟨ge, 7, none⟩ = some (.slice A acc.length c) := (blk_cell HX.out.be 7).trans rfl
        have hz0_ : wr.cell? ⟨gz, 0, none⟩ = some (.int .i64 0) := (blk_cell HX.out.bz 0).trans rfl
        have hz1_ : wr.cell? ⟨gz, 1, none⟩ = some (.int .i64 0) := (blk_cell HX.out.bz 1).trans rfl
        have hz2_ : wr.cell? ⟨gz, 2, none⟩ = some (.int .i64 0) := (blk_cell HX.out.bz 2).trans rfl
        have hz3_ : wr.cell? ⟨gz, 3, none⟩ = some (.int .i64 0) := (blk_cell HX.out.bz 3).trans rfl
        have hz4_ : wr.cell? ⟨gz, 4, none⟩ = some (.string ⟨#[]⟩) := (blk_cell HX.out.bz 4).trans rfl
        have hz5_ : wr.cell? ⟨gz, 5, none⟩ = some (.int .i64 0) := (blk_cell HX.out.bz 5).trans rfl
        have hz6_ : wr.cell? ⟨gz, 6, none⟩ = some (.int .i64 0) := (blk_cell HX.out.bz 6).trans rfl
        have hz7_ : wr.cell? ⟨gz, 7, none⟩ = some (.slice none 0 0) := (blk_cell HX.out.bz 7).trans rfl
        have hfz0_ := blk_frozen HX.out.bz 0
        have hfz1_ := blk_frozen HX.out.bz 1
        have hfz2_ := blk_frozen HX.out.bz 2
        have hfz3_ := blk_frozen HX.out.bz 3
        have hfz4_ := blk_frozen HX.out.bz 4
        have hfz5_ := blk_frozen HX.out.bz 5
        have hfz6_ := blk_frozen HX.out.bz 6
        have hfz7_ := blk_frozen HX.out.bz 7
        have hgz_ := blk_lt HX.out.bz
        have hge_ := blk_lt HX.out.be
        go_wp2
        refine bodyPost_ret (results_cell_row rfl _ _ gz 28 #[.int .i64 (nmI l a er 0), .int .i64 (nmI l a er 1), .int .i64 (nmI l a er 2), .int .i64 (nmI l a er 3), .string t, .int .i64 (nmI l tb te 0), .int .i64 (nmI l tb te 1), .slice A acc.length c] (0, 0) _ rfl (by with_reducible exact put8 _ _ _ _ _ _ _ _ _ _ _ _ _ _ _ _ HX.out.bz) Try.underlying28 rfl (by kernel_rfl)) rfl ?_
        have hf := far8 HX.out HW.out HG.out (.int .i64 (nmI l a er 0)) (.int .i64 (nmI l a er 1)) (.int .i64 (nmI l a er 2)) (.int .i64 (nmI l a er 3)) (.string t) (.int .i64 (nmI l tb te 0)) (.int .i64 (nmI l tb te 1)) (.slice A acc.length c)
        exact ⟨_, rfl, hf.2.2, hf.1, hf.2.1⟩
      case pos =>
        subst he
        obtain ⟨⟨s0, s1, s2, s3, s4, s5, s6, s7, s8, s9, s10⟩, a2, e2, hsr⟩ : ∃ s a2 e2, rS l aa 0 = (s, a2, e2) := ⟨_, _, _, rfl⟩
        have HSR := Lib.hid hsr
        have HSM : Hid (rSs l (m - 1) (acc ++ [(⟨s0, s1, s2, s3, s4, s5, s6, s7, s8, s9, s10⟩ : S64)]) a2 e2 = (ss, sb, se)) := Lib.hid (by
          have h := HS.out
          obtain ⟨m', rfl⟩ : ∃ m', m = m' + 1 := ⟨m - 1, by omega⟩
          rw [rSs, if_pos rfl, hsr] at h
          exact h)
        clear hsr HS
        have hle : (acc.length + 1) * 88 ≤ 140737488355328 := by omega
        have hm1 : IntKind.i64.wrap ((m : Int) - 1) = ((m - 1 : Nat) : Int) := by rw [IntWalk.i64_in _ (by omega)]; omega
        have hc7 : wr.cell? ⟨ge, 7, none⟩ = some (.slice A acc.length c) := (blk_cell HX.out.be 7).trans rfl
        have hf7 := blk_frozen HX.out.be 7
        go_upto_region 12 with fail
        go_region_law (first | (go_loud (refine Kd.R_append_step k64 (w0 := w') (W := w') W.heap.size rfl (.tmp 46) (.tmp 49) 24 64 (.agg #[.int .i64 0, .int .i64 0, .int .i64 0, .int .i64 0, .int .i64 0, .int .i64 0, .int .i64 0, .int .i64 0, .int .i64 0, .int .i64 0, .int .i64 0]) 88 rfl Try.underlying24 info64 rfl (by decide) (by omega) (.slice A acc.length c) acc (⟨s0, s1, s2, s3, s4, s5, s6, s7, s8, s9, s10⟩ : S64) [.int .i64 s0, .int .i64 s1, .int .i64 s2, .int .i64 s3, .int .i64 s4, .int .i64 s5, .int .i64 s6, .int .i64 s7, .int .i64 s8, .int .i64 s9, .int .i64 s10] (fun _ => True) (fun _ => False) ?hs ?hx (k64_mkM _ _ _ _) (fun _ h => h.elim) (fun _ _ => trivial) HX.out.cr (Below.refl _ _) HX.out.kp.1 hle ?_); go_loud (case hs => first | rfl | go_simp); go_loud (case hx => first | rfl | go_simp); go_loud (intro v1 w2_ ho hb hg hat; obtain ⟨A2, c2, e2_⟩ := Kd.R_slice ho; subst e2_; have n_ := Aside0.mk (VW.app HX.out HW.out ho hg); clear HX ho hb hg hat hgl; have HX := n_; clear n_; have hc7_ : w2_.cell? ⟨ge, 7, none⟩ = some (.slice A acc.length c) := (blk_cell HX.out.be 7).trans rfl; have hf7_ := blk_frozen HX.out.be 7; have hgl := rd_lt HX.out.rd; have hgel_ := blk_lt HX.out.be)) | (go_simp; go_at_call 47; go_loud (with_reducible refine (rstat_x w _ g l aa 0 HX.out.drew.rd hs (⟨s0, s1, s2, s3, s4, s5, s6, s7, s8, s9, s10⟩ : S64) a2 e2 HSR.out).mono ?_); go_loud (rintro e w' ⟨rfl, hd, hk⟩; have n_ := Aside0.mk (VW.step HX.out.drew HG.out hd hk); clear HX hd hk hgl; have HX := n_; clear n_; have hc7_ : w'.cell? ⟨ge, 7, none⟩ = some (.slice A acc.length c) := (blk_cell HX.out.be 7).trans rfl; have hf7_ := blk_frozen HX.out.be 7; have hgl := rd_lt HX.out.rd; have hgel_ := blk_lt HX.out.be)))
        all_goals
          have HX3 : Aside0 (VW w W (w2_.setCell ⟨ge, 7, none⟩ (.slice A2 (acc.length + 1) c2)) g l a2 e2 gz ge #[.int .i64 (nmI l a er 0), .int .i64 (nmI l a er 1), .int .i64 (nmI l a er 2), .int .i64 (nmI l a er 3), .string t, .int .i64 (nmI l tb te 0), .int .i64 (nmI l tb te 1), .slice A2 (acc.length + 1) c2] (.slice A2 (acc.length + 1) c2) (acc ++ [(⟨s0, s1, s2, s3, s4, s5, s6, s7, s8, s9, s10⟩ : S64)])) := ⟨by
            have h := HX.out.set HW.out HG.out 7 (.slice A2 (acc.length + 1) c2)
            rw [List.length_append, List.length_singleton] at h
            exact h⟩
          generalize w2_.setCell ⟨ge, 7, none⟩ (.slice A2 (acc.length + 1) c2) = W7 at HX3 ⊢
          clear HX hgl hc7 hf7 hc7_ hf7_
          go_wp2_with fail
          go_roundw
          case rel => exact ⟨m - 1, acc ++ [(⟨s0, s1, s2, s3, s4, s5, s6, s7, s8, s9, s10⟩ : S64)], _, a2, e2, by go_num, by omega, by simp; omega, HSM, HX3⟩
          case measure => simp only [intOf]; omega
end Go.Proofs.Ytcjdnahgffkbdaa.Sev

namespace Go.Proofs.Ytcjdnahgffkbdaa.Sgt
open Go Go.RowKit Go.Proofs Go.Proofs.Ytcjdnahgffkbdaa.Gm Go.Proofs.Ytcjdnahgffkbdaa.Gwa Go.Proofs.Ytcjdnahgffkbdaa.Gwb Go.Proofs.Ytcjdnahgffkbdaa.Gwd Go.Proofs.Ytcjdnahgffkbdaa.Srd Go.Proofs.Ytcjdnahgffkbdaa.Srs Go.Proofs.Ytcjdnahgffkbdaa.Sst Go.Proofs.Ytcjdnahgffkbdaa.Sev Go.Proofs.Ytcjdnahgffkbdaa.Q Go.Proofs.YtcjdnahgffkbdaaW.PrintWords Go.Proofs.YtcjdnahgffkbdaaW.PrintLast Go.Proofs.YtcjdnahgffkbdaaW.PrintMore
set_option linter.unusedVariables false
def getR (l : List UInt8) (a : Int) : S28 × Int × Int := if (rE l a 0).2.2 ≠ 0 then (z28, 0, (rE l a 0).2.2) else ((rE l a 0).1, (rE l a 0).2.1, 0)
theorem R_far8 {W : World} {base gz : Nat} {ds : Array Value} {v : Value} {ss : List S64} (h : Kd.R k64 64 W base (fun _ => True) v ss) (hz : W.heap[gz]? = some (.cells ds 28 (0, 0))) (v0 v1 v2 v3 v4 v5 v6 v7 : Value) : Kd.R k64 64 ((((((((W.setCell ⟨gz, 0, none⟩ v0).setCell ⟨gz, 1, none⟩ v1).setCell ⟨gz, 2, none⟩ v2).setCell ⟨gz, 3, none⟩ v3).setCell ⟨gz, 4, none⟩ v4).setCell ⟨gz, 5, none⟩ v5).setCell ⟨gz, 6, none⟩ v6).setCell ⟨gz, 7, none⟩ v7) base (fun _ => True) v ss := by
  have c0 := Kd.R_mono (Kd.R_types h hz (by first | decide | (intro q hq; rcases List.mem_cons.1 hq with h_ | h_; (subst h_; decide); (first | (cases h_; done) | (simp [k64] at h_))))) (fun k z => (z : True ∧ k ≠ gz))
  have c1 := Kd.R_far (p := ⟨gz, 0, none⟩) c0 (fun _ hk => hk.2) v0
  have c2 := Kd.R_far (p := ⟨gz, 1, none⟩) c1 (fun _ hk => hk.2) v1
  have c3 := Kd.R_far (p := ⟨gz, 2, none⟩) c2 (fun _ hk => hk.2) v2
  have c4 := Kd.R_far (p := ⟨gz, 3, none⟩) c3 (fun _ hk => hk.2) v3
  have c5 := Kd.R_far (p := ⟨gz, 4, none⟩) c4 (fun _ hk => hk.2) v4
  have c6 := Kd.R_far (p := ⟨gz, 5, none⟩) c5 (fun _ hk => hk.2) v5
  have c7 := Kd.R_far (p := ⟨gz, 6, none⟩) c6 (fun _ hk => hk.2) v6
  have c8 := Kd.R_far (p := ⟨gz, 7, none⟩) c7 (fun _ hk => hk.2) v7
  exact Kd.R_mono c8 (fun _ z => z.1)
set_option maxRecDepth 100000 in
set_option maxHeartbeats 8000000 in
theorem get_x (l : List UInt8) (a : Int) (hs : l.length ≤ 17592186044416) (w : World) (x : S28) (b e : Int) (hr : getR l a = (x, b, e)) :
    Calls Try.prog 15 #[.string (B l), .int .i64 a] w fun e' w' => ∃ v : Value, e' = .returned (.tuple #[.agg #[.int .i64 x.f0, .int .i64 x.f1, .int .i64 x.f2, .int .i64 x.f3, .string x.f4, .int .i64 x.f5.f0, .int .i64 x.f5.f1, v], .int .i64 b, .int .i64 e]) ∧ Kd.R k64 64 w' w.heap.size (fun _ => True) v x.f5.f2 ∧ Below w.heap.size w w' := by
  have mixed : (Try.prog).follows .mixedOrders = true := by kernel_rfl
  have hu55 := Try.underlying55
  have hu28 := Try.underlying28
  have hu26 := Try.underlying26
  obtain ⟨⟨x0, x1, x2, x3, x4, ⟨x5, x6, ss⟩⟩, rb, re, hE⟩ : ∃ x b e, rE l a 0 = (x, b, e) := ⟨_, _, _, rfl⟩
  have HE := Lib.hid hE
  have HR : Hid ((if re ≠ 0 then (z28, 0, re) else ((⟨x0, x1, x2, x3, x4, ⟨x5, x6, ss⟩⟩ : S28), rb, 0)) = (x, b, e)) := Lib.hid (by rw [← hr]; unfold getR; rw [hE])
  have HD : Aside0 (RD w ((w.alloc (.cells #[.int .i64 0, .int .i64 0, .int .i64 0, .int .i64 0, .string ⟨#[]⟩, .int .i64 0, .int .i64 0, .slice none 0 0] 28)).alloc (.cells #[.string (B l), .int .i64 a, .int .i64 0] 55)) (w.heap.size + 1) l a 0) :=
    ⟨⟨below_alloc (below_alloc (Below.refl _ _) _) _, Nat.le_succ _, by have := heap_alloc_new (w.alloc (.cells #[.int .i64 0, .int .i64 0, .int .i64 0, .int .i64 0, .string ⟨#[]⟩, .int .i64 0, .int .i64 0, .slice none 0 0] 28)) (.cells #[.string (B l), .int .i64 a, .int .i64 0] 55); simpa using this⟩⟩
  have HZ : Aside0 (((w.alloc (.cells #[.int .i64 0, .int .i64 0, .int .i64 0, .int .i64 0, .string ⟨#[]⟩, .int .i64 0, .int .i64 0, .slice none 0 0] 28)).alloc (.cells #[.string (B l), .int .i64 a, .int .i64 0] 55)).heap[w.heap.size]? = some (.cells #[.int .i64 0, .int .i64 0, .int .i64 0, .int .i64 0, .string ⟨#[]⟩, .int .i64 0, .int .i64 0, .slice none 0 0] 28 (0, 0))) := ⟨blk_alloc (heap_alloc_new w _) _⟩
  have hZZ : Aside0 (w.heap.size ≠ w.heap.size + 1 ∧ w.heap.size ≤ ((w.alloc (.cells #[.int .i64 0, .int .i64 0, .int .i64 0, .int .i64 0, .string ⟨#[]⟩, .int .i64 0, .int .i64 0, .slice none 0 0] 28)).alloc (.cells #[.string (B l), .int .i64 a, .int .i64 0] 55)).heap.size) := ⟨by simp; omega⟩
  clear hr hE
  go_enter Try.func15, Try.ntmps15
  go_upto_region 3 with (first | (go_at_call 27; go_loud (with_reducible refine (revent_x w _ _ l a 0 HD.out hs _ rb re HE.out).mono ?_); go_loud (rintro e' w1_ ⟨v, rfl, hR, hd, hk⟩; obtain ⟨A, c, ev⟩ := Kd.R_slice hR; subst ev; have HV := Aside0.mk hd; have n_ := Aside0.mk (hk.blk HZ.out hZZ.out.1 (by simp)); have HL := Aside0.mk (Kd.R_lower hR hZZ.out.2); clear HD HZ hd hk hR; have HZ := n_; clear n_; (try dsimp only))))
  have HVA := Aside0.mk (HV.out.alloc (.cells #[.int .i64 x0, .int .i64 x1, .int .i64 x2, .int .i64 x3, .string x4, .int .i64 x5, .int .i64 x6, .slice A ss.length c] 28))
  have HZA := Aside0.mk (blk_alloc HZ.out (.cells #[.int .i64 x0, .int .i64 x1, .int .i64 x2, .int .i64 x3, .string x4, .int .i64 x5, .int .i64 x6, .slice A ss.length c] 28))
  have HLA := Aside0.mk (Kd.R_below HL.out (below_alloc (Below.refl w1_.heap.size w1_) (.cells #[.int .i64 x0, .int .i64 x1, .int .i64 x2, .int .i64 x3, .string x4, .int .i64 x5, .int .i64 x6, .slice A ss.length c] 28)))
  have HEA := Aside0.mk (heap_alloc_new w1_ (.cells #[.int .i64 x0, .int .i64 x1, .int .i64 x2, .int .i64 x3, .string x4, .int .i64 x5, .int .i64 x6, .slice A ss.length c] 28))
  obtain ⟨W2, hW2⟩ : ∃ W2, W2 = w1_.alloc (.cells #[.int .i64 x0, .int .i64 x1, .int .i64 x2, .int .i64 x3, .string x4, .int .i64 x5, .int .i64 x6, .slice A ss.length c] 28) := ⟨_, rfl⟩
  rw [← hW2] at HVA HZA HLA HEA ⊢
  have hlt1 := blk_lt HZ.out
  clear hW2 HV HZ HL hZZ
  obtain ⟨g, hg⟩ : ∃ g, w.heap.size + 1 = g := ⟨_, rfl⟩
  rw [hg] at HVA ⊢
  have HGG : Aside0 (w.heap.size + 1 = g) := ⟨hg⟩
  clear hg
  obtain ⟨ge, hge⟩ : ∃ ge, w1_.heap.size = ge := ⟨_, rfl⟩
  rw [hge] at HEA ⊢
  obtain ⟨gz, hgz⟩ : ∃ gz, w.heap.size = gz := ⟨_, rfl⟩
  have HZ2 : Aside0 (W2.heap[gz]? = some (.cells #[.int .i64 0, .int .i64 0, .int .i64 0, .int .i64 0, .string ⟨#[]⟩, .int .i64 0, .int .i64 0, .slice none 0 0] 28 (0, 0))) := ⟨by rw [← hgz]; exact HZA.out⟩
  have HZL : Aside0 (w.heap.size ≤ gz) := ⟨Nat.le_of_eq hgz⟩
  have HL2 : Aside0 (Kd.R k64 64 W2 w.heap.size (fun _ => True) (.slice A ss.length c) ss) := ⟨HLA.out⟩
  have HB2 : Aside0 (Below w.heap.size w W2) := ⟨HVA.out.hb⟩
  rw [hgz]
  have hne1 : gz ≠ g := by have := HGG.out; omega
  have hne2 : g ≠ gz := fun e => hne1 e.symm
  have hne3 : ge ≠ gz := by omega
  have hne4 : gz ≠ ge := fun e => hne3 e.symm
  clear HZA HLA hgz hge hlt1
  have hq1_ : W2.cell? ⟨g, 1, none⟩ = some (.int .i64 rb) := (blk_cell HVA.out.bk 1).trans rfl
  have hq2_ : W2.cell? ⟨g, 2, none⟩ = some (.int .i64 re) := (blk_cell HVA.out.bk 2).trans rfl
  have hz0_ : W2.cell? ⟨gz, 0, none⟩ = some (.int .i64 0) := (blk_cell HZ2.out 0).trans rfl
  have hfz0_ := blk_frozen HZ2.out 0
  have hz1_ : W2.cell? ⟨gz, 1, none⟩ = some (.int .i64 0) := (blk_cell HZ2.out 1).trans rfl
  have hfz1_ := blk_frozen HZ2.out 1
  have hz2_ : W2.cell? ⟨gz, 2, none⟩ = some (.int .i64 0) := (blk_cell HZ2.out 2).trans rfl
  have hfz2_ := blk_frozen HZ2.out 2
  have hz3_ : W2.cell? ⟨gz, 3, none⟩ = some (.int .i64 0) := (blk_cell HZ2.out 3).trans rfl
  have hfz3_ := blk_frozen HZ2.out 3
  have hz4_ : W2.cell? ⟨gz, 4, none⟩ = some (.string ⟨#[]⟩) := (blk_cell HZ2.out 4).trans rfl
  have hfz4_ := blk_frozen HZ2.out 4
  have hz5_ : W2.cell? ⟨gz, 5, none⟩ = some (.int .i64 0) := (blk_cell HZ2.out 5).trans rfl
  have hfz5_ := blk_frozen HZ2.out 5
  have hz6_ : W2.cell? ⟨gz, 6, none⟩ = some (.int .i64 0) := (blk_cell HZ2.out 6).trans rfl
  have hfz6_ := blk_frozen HZ2.out 6
  have hz7_ : W2.cell? ⟨gz, 7, none⟩ = some (.slice none 0 0) := (blk_cell HZ2.out 7).trans rfl
  have hfz7_ := blk_frozen HZ2.out 7
  have hgl_ := rd_lt HVA.out
  have hgz_ := blk_lt HZ2.out
  have hge_ := blk_lt HEA.out
  by_cases h0 : re = 0
  case neg =>
    have g0 := bne_t h0
    obtain ⟨rfl, rfl, rfl⟩ : z28 = x ∧ 0 = b ∧ re = e := by have h := HR.out; rw [if_pos h0] at h; simpa using h
    clear h0
    go_upto_region 4 with fail
    go_region
    all_goals (go_wp2_with fail)
    all_goals refine bodyPost_ret (results_ctt rfl _ _ gz 28 #[.int .i64 0, .int .i64 0, .int .i64 0, .int .i64 0, .string ⟨#[]⟩, .int .i64 0, .int .i64 0, .slice none 0 0] (0, 0) _ rfl (by first | with_reducible exact blk_drew HZ2.out | with_reducible exact blk_drew (put8 _ _ _ _ _ _ _ _ _ _ _ _ _ _ _ _ HZ2.out) | with_reducible exact put8 _ _ _ _ _ _ _ _ _ _ _ _ _ _ _ _ HZ2.out) Try.underlying28 rfl (by kernel_rfl)) rfl ?_
    all_goals exact ⟨_, rfl, Kd.R_nil _ _ _ _ _, by repeat (with_reducible first | exact HB2.out | apply below_drew1 | refine below_set ?_ HZL.out)⟩
  case pos =>
    have g0 := bne_f h0
    obtain ⟨rfl, rfl, rfl⟩ : (⟨x0, x1, x2, x3, x4, ⟨x5, x6, ss⟩⟩ : S28) = x ∧ rb = b ∧ 0 = e := by have h := HR.out; rw [if_neg (fun z => z h0)] at h; simpa using h
    clear h0
    have he0_ : W2.cell? ⟨ge, 0, none⟩ = some (.int .i64 x0) := (blk_cell HEA.out 0).trans rfl
    have he1_ : W2.cell? ⟨ge, 1, none⟩ = some (.int .i64 x1) := (blk_cell HEA.out 1).trans rfl
    have he2_ : W2.cell? ⟨ge, 2, none⟩ = some (.int .i64 x2) := (blk_cell HEA.out 2).trans rfl
    have he3_ : W2.cell? ⟨ge, 3, none⟩ = some (.int .i64 x3) := (blk_cell HEA.out 3).trans rfl
    have he4_ : W2.cell? ⟨ge, 4, none⟩ = some (.string x4) := (blk_cell HEA.out 4).trans rfl
    have he5_ : W2.cell? ⟨ge, 5, none⟩ = some (.int .i64 x5) := (blk_cell HEA.out 5).trans rfl
    have he6_ : W2.cell? ⟨ge, 6, none⟩ = some (.int .i64 x6) := (blk_cell HEA.out 6).trans rfl
    have he7_ : W2.cell? ⟨ge, 7, none⟩ = some (.slice A ss.length c) := (blk_cell HEA.out 7).trans rfl
    go_upto_region 5 with fail
    go_region
    all_goals (go_wp2_with fail)
    all_goals refine bodyPost_ret (results_ctt rfl _ _ gz 28 #[.int .i64 x0, .int .i64 x1, .int .i64 x2, .int .i64 x3, .string x4, .int .i64 x5, .int .i64 x6, .slice A ss.length c] (0, 0) _ rfl (by first | with_reducible exact blk_drew (put8 _ _ _ _ _ _ _ _ _ _ _ _ _ _ _ _ HZ2.out) | with_reducible exact put8 _ _ _ _ _ _ _ _ _ _ _ _ _ _ _ _ HZ2.out) Try.underlying28 rfl (by kernel_rfl)) rfl ?_
    all_goals exact ⟨_, rfl, by first | with_reducible exact Kd.R_below (R_far8 HL2.out HZ2.out _ _ _ _ _ _ _ _) (below_drew1 (Below.refl _ _)) | with_reducible exact R_far8 HL2.out HZ2.out _ _ _ _ _ _ _ _, by repeat (with_reducible first | exact HB2.out | apply below_drew1 | refine below_set ?_ HZL.out)⟩
end Go.Proofs.Ytcjdnahgffkbdaa.Sgt

namespace Go.Proofs.Ytcjdnahgffkbdaa.Sdc
open Go Go.RowKit Go.Proofs Go.Proofs.Ytcjdnahgffkbdaa.Gm Go.Proofs.Ytcjdnahgffkbdaa.Gwa Go.Proofs.Ytcjdnahgffkbdaa.Gwb Go.Proofs.Ytcjdnahgffkbdaa.Gwd Go.Proofs.Ytcjdnahgffkbdaa.Srd Go.Proofs.Ytcjdnahgffkbdaa.Srs Go.Proofs.Ytcjdnahgffkbdaa.Sst Go.Proofs.Ytcjdnahgffkbdaa.Sev Go.Proofs.Ytcjdnahgffkbdaa.Sgt Go.Proofs.Ytcjdnahgffkbdaa.Q Go.Proofs.YtcjdnahgffkbdaaW.PrintWords Go.Proofs.YtcjdnahgffkbdaaW.PrintLast Go.Proofs.YtcjdnahgffkbdaaW.PrintMore
set_option linter.unusedVariables false
def rEs (l : List UInt8) : Nat → List S28 → Int → Int → List S28 × Int × Int
  | 0, acc, a, er => (acc, a, er)
  | n + 1, acc, a, er => if er = 0 then rEs l n (acc ++ [(rE l a er).1]) (rE l a er).2.1 (rE l a er).2.2 else (acc, a, er)
def decR (l : List UInt8) : List S28 × Int :=
  let p := rEs l (rC l 0 0 256).1.toNat [] (rC l 0 0 256).2.1 (rC l 0 0 256).2.2
  if p.2.2 ≠ 0 then ([], p.2.2) else if p.2.1 ≠ l.length then ([], 2) else (p.1, 0)
structure DW (w W : World) (g : Nat) (l : List UInt8) (a er : Int) (v : Value) (es : List S28) : Prop where
  rd : RD w W g l a er
  cr : Kd.R k28 28 W w.heap.size (fun _ => True) v es
section
variable {w W W' : World} {g : Nat} {l : List UInt8} {a er a1 w1 : Int} {v v1 : Value} {es es' : List S28}
theorem DW.below (h : DW w W g l a er v es) (hb : Below W.heap.size W W') : DW w W' g l a er v es := ⟨h.rd.below hb, Kd.R_below h.cr hb⟩
theorem DW.step (h : DW w W g l a er v es) (hd : RD w W' g l a1 w1) (hk : KeepBut W W' g none) : DW w W' g l a1 w1 v es :=
  ⟨hd, Kd.R_mono (Kd.R_keep (Kd.R_types h.cr h.rd.bk (by first | decide | (intro q hq; rcases List.mem_cons.1 hq with h_ | h_; (subst h_; decide); (first | (cases h_; done) | (simp [k28, k26, k64] at h_; first | done | (subst h_; decide)))))) hk (fun _ z => z.2)) (fun _ z => z.1)⟩
theorem DW.app (h : DW w W g l a er v es) (hr : Kd.R k28 28 W' w.heap.size (fun _ => True) v1 es') (hg : W.grownBy W' v.ownBlock) : DW w W' g l a er v1 es' :=
  ⟨⟨h.rd.hb.grown hg h.rd.hb.size (fun b e => Kd.R_base h.cr b e), h.rd.lo, blk_grown h.rd.bk hg (Kd.R_ne h.cr h.rd.bk (by decide))⟩, hr⟩
theorem DW.set (h : DW w W g l a er v es) (i : Nat) (u : Value) (hd : RD w (W.setCell ⟨g, i, none⟩ u) g l a1 w1) : DW w (W.setCell ⟨g, i, none⟩ u) g l a1 w1 v es :=
  ⟨hd, Kd.R_mono (Kd.R_far (p := ⟨g, i, none⟩) (Kd.R_types h.cr h.rd.bk (by first | decide | (intro q hq; rcases List.mem_cons.1 hq with h_ | h_; (subst h_; decide); (first | (cases h_; done) | (simp [k28, k26, k64] at h_; first | done | (subst h_; decide)))))) (fun _ hk => hk.2) u) (fun _ z => z.1)⟩
end
theorem info28 : (Try.prog.info? 28).map (fun i => (i.zero, i.size, i.bytes)) = some (some (.agg #[.int .i64 0, .int .i64 0, .int .i64 0, .int .i64 0, .string ⟨#[]⟩, .int .i64 0, .int .i64 0, .slice none 0 0]), 8, 88) := by kernel_rfl
set_option maxRecDepth 100000 in
set_option maxHeartbeats 8000000 in
theorem dec_x (l : List UInt8) (hs : l.length ≤ 17592186044416) (w : World) (x : List S28) (e : Int) (hr : decR l = (x, e)) :
    Calls Try.prog 10 #[.string (B l)] w fun e' w' => ∃ v : Value, e' = .returned (.tuple #[v, .int .i64 e]) ∧ Kd.R k28 28 w' w.heap.size (fun _ => True) v x ∧ Below w.heap.size w w' := by
  have mixed : (Try.prog).follows .mixedOrders = true := by kernel_rfl
  have hu55 := Try.underlying55
  have hu28 := Try.underlying28
  have hu26 := Try.underlying26
  obtain ⟨n, nb, ne_, hC⟩ : ∃ n nb ne_, rC l 0 0 256 = (n, nb, ne_) := ⟨_, _, _, rfl⟩
  obtain ⟨es, sb, se, hS⟩ : ∃ es sb se, rEs l n.toNat [] nb ne_ = (es, sb, se) := ⟨_, _, _, rfl⟩
  have HC := Lib.hid hC
  have HSX := Lib.hid hS
  have hnr := rC_range hC
  have HR : Hid ((if se ≠ 0 then ([], se) else if sb ≠ l.length then ([], 2) else (es, 0)) = (x, e)) := Lib.hid (by rw [← hr]; unfold decR; simp only [hC, hS])
  have HX : Aside0 (DW w (w.alloc (.cells #[.string (B l), .int .i64 0, .int .i64 0] 55)) w.heap.size l 0 0 (.slice none 0 0) []) := ⟨⟨⟨below_alloc (Below.refl _ _) _, Nat.le_refl _, heap_alloc_new w _⟩, Kd.R_nil _ _ _ _ _⟩⟩
  have hbl : (B l).size = l.length := B_size l
  clear hr hC hS
  go_enter Try.func10, Try.ntmps10
  go_upto_region 3 with fail
  obtain ⟨W1, hW1⟩ : ∃ W1, W1 = w.alloc (.cells #[.string (B l), .int .i64 0, .int .i64 0] 55) := ⟨_, rfl⟩
  rw [← hW1] at HX ⊢
  clear hW1
  obtain ⟨g, hg⟩ : ∃ g, w.heap.size = g := ⟨_, rfl⟩
  have HX2 : Aside0 (DW w W1 g l 0 0 (.slice none 0 0) []) := ⟨by rw [← hg]; exact HX.out⟩
  rw [hg]
  clear HX hg
  go_wp2_with (first | (go_at_call 26; with_reducible refine (rcount_x w _ g l _ _ 256 HX2.out.rd hs n nb ne_ HC.out).mono ?_; rintro e w' ⟨rfl, hd, hk⟩; have HX := Aside0.mk (DW.step HX2.out hd hk); clear HX2 hd hk; have hgl := rd_lt HX.out.rd))
  obtain ⟨m0, rfl⟩ : ∃ m0 : Nat, n = (m0 : Int) := ⟨n.toNat, by omega⟩
  have HSX2 : Hid (rEs l m0 [] nb ne_ = (es, sb, se)) := Lib.hid (by have h := HSX.out; rw [Int.toNat_natCast] at h; exact h)
  clear HSX hgl
  go_loopw [5, 6] (fun s5 s6 wr => ∃ (m : Nat) (acc : List S28) (v : Value) (aa ee : Int), s5 = v ∧ s6 = .int .i64 m ∧ m ≤ 256 ∧ acc.length + m ≤ 256 ∧ Hid (rEs l m acc aa ee = (es, sb, se)) ∧ Aside0 (DW w wr g l aa ee v acc)) (fun _ s6 _ => (intOf s6).toNat)
  case atStart => exact ⟨m0, [], _, nb, ne_, rfl, rfl, by omega, by simp; omega, HSX2, HX⟩
  case round =>
    clear HX HSX2
    obtain ⟨m, acc, v, aa, ee, rfl, rfl, hm, hac, HS, HX⟩ := hrel
    obtain ⟨A, c, hv⟩ := Kd.R_slice HX.out.cr
    subst hv
    have hgl := rd_lt HX.out.rd
    have hq1 : wr.cell? ⟨g, 1, none⟩ = some (.int .i64 aa) := (blk_cell HX.out.rd.bk 1).trans rfl
    have hq2 : wr.cell? ⟨g, 2, none⟩ = some (.int .i64 ee) := (blk_cell HX.out.rd.bk 2).trans rfl
    have hf2 := blk_frozen HX.out.rd.bk 2
    by_cases hm0 : m = 0
    case pos =>
      subst hm0
      obtain ⟨rfl, rfl, rfl⟩ : acc = es ∧ aa = sb ∧ ee = se := by have h := HS.out; rw [rEs] at h; simpa using h
      rw [show ((0 : Nat) : Int) = 0 from rfl]
      by_cases he : ee = 0
      case neg =>
        have g0 := beq_eq_false_iff_ne.2 he
        have g1 := bne_t he
        obtain ⟨rfl, rfl⟩ : [] = x ∧ ee = e := by have h := HR.out; rw [if_pos he] at h; simpa using h
        clear he
        go_upto_region 10 with fail
        go_region
        all_goals (go_wp2_with fail)
        all_goals go_ret2
        all_goals exact ⟨_, rfl, Kd.R_nil _ _ _ _ _, by repeat (with_reducible first | exact HX.out.rd.hb | apply below_drew1 | refine below_set ?_ HX.out.rd.lo)⟩
      case pos =>
      have g0 : (ee == 0) = true := beq_iff_eq.2 he
      have g1 := bne_f he
      by_cases ha : aa = l.length
      case neg =>
        have d1 : (aa != ((B l).size : Int)) = true := bne_iff_ne.2 (by rw [hbl]; exact ha)
        obtain ⟨rfl, rfl⟩ : [] = x ∧ 2 = e := by have h := HR.out; rw [if_neg (fun z => z he), if_pos ha] at h; simpa using h
        clear ha he
        go_upto_region 10 with fail
        go_region
        all_goals (go_wp2_with fail)
        all_goals go_ret2
        all_goals exact ⟨_, rfl, Kd.R_nil _ _ _ _ _, by repeat (with_reducible first | exact HX.out.rd.hb | apply below_drew1 | refine below_set ?_ HX.out.rd.lo)⟩
      case pos =>
      have d1 : (aa != ((B l).size : Int)) = false := bne_eq_false_iff_eq.2 (by rw [hbl]; exact ha)
      obtain ⟨rfl, rfl⟩ : acc = x ∧ 0 = e := by have h := HR.out; rw [if_neg (fun z => z he), if_neg (fun z => z ha)] at h; simpa using h
      clear ha
      subst he
      go_wp2
      go_ret2
      exact ⟨_, rfl, HX.out.cr, HX.out.rd.hb⟩
    case neg =>
    have d0 : decide (0 < (m : Int)) = true := decide_eq_true (by omega)
    by_cases he : ee = 0
    case neg =>
      obtain ⟨rfl, rfl, rfl⟩ : acc = es ∧ aa = sb ∧ ee = se := by
        have h := HS.out
        obtain ⟨m', rfl⟩ : ∃ m', m = m' + 1 := ⟨m - 1, by omega⟩
        rw [rEs, if_neg he] at h
        simpa using h
      have g0 := beq_eq_false_iff_ne.2 he
      have g1 := bne_t he
      obtain ⟨rfl, rfl⟩ : [] = x ∧ ee = e := by have h := HR.out; rw [if_pos he] at h; simpa using h
      clear he
      go_upto_region 10 with fail
      go_region
      all_goals (go_wp2_with fail)
      all_goals go_ret2
      all_goals exact ⟨_, rfl, Kd.R_nil _ _ _ _ _, by repeat (with_reducible first | exact HX.out.rd.hb | apply below_drew1 | refine below_set ?_ HX.out.rd.lo)⟩
    case pos =>
      subst he
      obtain ⟨⟨x0, x1, x2, x3, x4, ⟨x5, x6, ss⟩⟩, a2, e2, hse⟩ : ∃ s a2 e2, rE l aa 0 = (s, a2, e2) := ⟨_, _, _, rfl⟩
      have HSE := Lib.hid hse
      have HSM : Hid (rEs l (m - 1) (acc ++ [(⟨x0, x1, x2, x3, x4, ⟨x5, x6, ss⟩⟩ : S28)]) a2 e2 = (es, sb, se)) := Lib.hid (by
        have h := HS.out
        obtain ⟨m', rfl⟩ : ∃ m', m = m' + 1 := ⟨m - 1, by omega⟩
        rw [rEs, if_pos rfl, hse] at h
        exact h)
      clear hse HS
      have hle : (acc.length + 1) * 88 ≤ 140737488355328 := by omega
      have hm1 : IntKind.i64.wrap ((m : Int) - 1) = ((m - 1 : Nat) : Int) := by rw [IntWalk.i64_in _ (by omega)]; omega
      go_wp2_with (first | (at_builtin; go_loud (refine Kd.R_append k28 (w0 := w') (W := w') w.heap.size rfl (.tmp 23) (.tmp 26) 29 28 (.agg #[.int .i64 0, .int .i64 0, .int .i64 0, .int .i64 0, .string ⟨#[]⟩, .int .i64 0, .int .i64 0, .slice none 0 0]) 88 rfl Try.underlying29 info28 rfl (by decide) (by omega) (.slice A acc.length c) acc (⟨x0, x1, x2, x3, x4, ⟨x5, x6, ss⟩⟩ : S28) [.int .i64 x0, .int .i64 x1, .int .i64 x2, .int .i64 x3, .string x4, .int .i64 x5, .int .i64 x6, .slice AS ss.length cS] (fun _ => True) (fun k => True ∧ some k ≠ (Value.slice A acc.length c).ownBlock) rfl rfl (k28_mkM _ _ _ (⟨x0, x1, x2, x3, x4, ⟨x5, x6, ss⟩⟩ : S28) HRS.out) (fun _ h => h) (fun _ _ => trivial) HX.out.cr (Below.refl _ _) HX.out.rd.hb.size hle ?_); go_loud (intro v1 w2_ ho hb hg hat; obtain ⟨A2, c2, e2_⟩ := Kd.R_slice ho; subst e2_; have n_ := Aside0.mk (DW.app HX.out ho hg); clear HX ho hb hg hat hgl; have HX := n_; clear n_; have hgl := rd_lt HX.out.rd)) | (go_at_call 27; go_loud (with_reducible refine (revent_x w wr g l aa 0 HX.out.rd hs (⟨x0, x1, x2, x3, x4, ⟨x5, x6, ss⟩⟩ : S28) a2 e2 HSE.out).mono ?_); go_loud (rintro e' w' ⟨vs, rfl, hR, hd, hk⟩; obtain ⟨AS, cS, evs⟩ := Kd.R_slice hR; subst evs; obtain ⟨inn, hown⟩ := Kd.R_own HX.out.cr; have HRS := Aside0.mk (Kd.R_lower (Kd.R_new hR hown) HX.out.rd.hb.size); have n_ := Aside0.mk (DW.step HX.out hd hk); clear HX hd hk hR hown hgl; have HX := n_; clear n_; have hgl := rd_lt HX.out.rd; (try dsimp only))))
      go_roundw
      case rel => exact ⟨m - 1, acc ++ [(⟨x0, x1, x2, x3, x4, ⟨x5, x6, ss⟩⟩ : S28)], _, a2, e2, by simp, by go_num, by omega, by simp; omega, HSM, HX⟩
      case measure => simp only [intOf]; omega
end Go.Proofs.Ytcjdnahgffkbdaa.Sdc

namespace Go.Proofs.Ytcjdnahgffkbdaa.Sen
open Go Go.RowKit Go.Proofs Go.Proofs.Ytcjdnahgffkbdaa.Gm Go.Proofs.Ytcjdnahgffkbdaa.Gput Go.Proofs.Ytcjdnahgffkbdaa.Gputl Go.Proofs.Ytcjdnahgffkbdaa.Gwa Go.Proofs.Ytcjdnahgffkbdaa.Gwb Go.Proofs.Ytcjdnahgffkbdaa.Gwd Go.Proofs.Ytcjdnahgffkbdaa.Srd Go.Proofs.Ytcjdnahgffkbdaa.Srs Go.Proofs.Ytcjdnahgffkbdaa.Sst Go.Proofs.Ytcjdnahgffkbdaa.Spt Go.Proofs.Ytcjdnahgffkbdaa.Q Go.Proofs.YtcjdnahgffkbdaaW.PrintWords Go.Proofs.YtcjdnahgffkbdaaW.PrintLast Go.Proofs.YtcjdnahgffkbdaaW.PrintMore
set_option linter.unusedVariables false
def encGo : List UInt8 → List S28 → ByteArray × Int
  | b, [] => (B b, 0)
  | b, x :: xs => if (putR b x).2 ≠ 0 then (⟨#[]⟩, (putR b x).2) else encGo (b ++ putE x) xs
def encR (xs : List S28) : ByteArray × Int := if xs.length > 256 then (⟨#[]⟩, 4) else encGo (putI xs.length) xs
theorem putE_len {x : S28} (h : WE x) (h4 : x.f4.size ≤ 16384) (hs : x.f5.f2.length ≤ 256) : (putE x).length ≤ 60000 := by
  have a0 := putI_len h.h0
  have a1 := putI_len h.h1
  have a2 := putI_len h.h2
  have a3 := putI_len h.h3
  have a5 := putI_len h.h5
  have a6 := putI_len h.h6
  have h4' : x.f4.data.toList.length ≤ 16384 := by rw [Array.length_toList]; exact h4
  have a4 : (putI (x.f4.data.toList.length : Int)).length ≤ 10 := putI_len (by omega)
  have a7 : (putI (x.f5.f2.length : Int)).length ≤ 10 := putI_len (by omega)
  have a8 := putS_len h.hs
  unfold putE
  simp only [List.length_append]
  omega
theorem putR_ok {b : List UInt8} {x : S28} {r : ByteArray} (h : putR b x = (r, 0)) : r = B (b ++ putE x) ∧ x.f4.size ≤ 16384 ∧ x.f5.f2.length ≤ 256 := by
  unfold putR at h
  split at h
  · simp at h
  case isFalse hn =>
    simp only [Prod.mk.injEq, and_true] at h
    exact ⟨h.symm, by omega, by omega⟩
set_option maxRecDepth 100000 in
set_option maxHeartbeats 8000000 in
theorem enc_x (A : Option Addr) (c : Nat) (xs : List S28) (w : World) (hC : Kd.C k28 w A xs.length xs) (hc : xs.length ≤ c) (hx : ∀ x ∈ xs, WE x) (r : ByteArray) (e : Int) (hr : encR xs = (r, e)) :
    Calls Try.prog 8 #[.slice A xs.length c] w fun e' w' => e' = .returned (.tuple #[.string r, .int .i64 e]) ∧ Below w.heap.size w w' := by
  have mixed : (Try.prog).follows .mixedOrders = true := by kernel_rfl
  have hu28 := Try.underlying28
  have hu26 := Try.underlying26
  have HC := Aside0.mk hC
  have HX := Aside0.mk hx
  have HR := Lib.hid hr
  have HB := Aside0.mk (Below.refl w.heap.size w)
  clear hC hx hr
  by_cases hbig : xs.length > 256
  case pos =>
    have d1 : decide (256 < xs.length) = true := decide_eq_true hbig
    have d2 : decide (256 < (xs.length : Int)) = true := decide_eq_true (by omega)
    obtain ⟨rfl, rfl⟩ : (⟨#[]⟩ : ByteArray) = r ∧ 4 = e := by have h := HR.out; unfold encR at h; rw [if_pos hbig] at h; simpa using h
    clear hbig
    go_enter Try.func8, Try.ntmps8
    go_wp2
    go_ret2
    exact ⟨rfl, HB.out⟩
  case neg =>
    have d1 : decide (256 < xs.length) = false := decide_eq_false hbig
    have d2 : decide (256 < (xs.length : Int)) = false := decide_eq_false (by omega)
    have HG : Hid (encGo (putI xs.length) xs = (r, e)) := Lib.hid (by have h := HR.out; unfold encR at h; rw [if_neg hbig] at h; exact h)
    have HPI : Aside0 (wire_PutInt.f (⟨#[]⟩ : ByteArray) (xs.length : Int) = some (B (putI xs.length))) := ⟨by
      have h := wire_PutInt_eq [] (xs.length : Int) (by simp) (by omega)
      rw [List.nil_append] at h
      exact h⟩
    have hl0 : (putI (xs.length : Int)).length ≤ 10 := putI_len (by omega)
    have hn : xs.length ≤ 256 := by omega
    clear hbig HR
    go_enter Try.func8, Try.ntmps8
    go_wp2_with (first | (go_at_call 24; go_loud (with_reducible refine (wire_PutInt.calls _ _ _ _ HPI.out).mono ?_); go_loud (rintro e' w' ⟨rfl, hd⟩; have n_ := Aside0.mk (below_step HB.out hd); clear HB hd; have HB := n_; clear n_)))
    go_loopw [4, 17] (fun s4 s17 wr => ∃ (k : Nat) (b : List UInt8), k ≤ xs.length ∧ s17 = .int .i64 k ∧ s4 = .string (B b) ∧ b.length ≤ 10 + 60000 * k ∧ Hid (encGo b (xs.drop k) = (r, e)) ∧ Aside0 (Below w.heap.size w wr)) (fun _ s17 _ => xs.length - (intOf s17).toNat)
    case atStart => exact ⟨0, putI xs.length, by omega, rfl, rfl, by omega, HG, HB⟩
    case round =>
      clear HB HG
      obtain ⟨k, b, hk, rfl, rfl, hbl, HG, HB⟩ := hrel
      by_cases hks : k < xs.length
      case neg =>
        obtain rfl : k = xs.length := by omega
        obtain ⟨rfl, rfl⟩ : B b = r ∧ 0 = e := by have h := HG.out; rw [List.drop_length, encGo] at h; simpa using h
        go_wp2
        go_ret2
        exact ⟨rfl, HB.out⟩
      case pos =>
      obtain ⟨x, hxk⟩ : ∃ x, x = xs[k] := ⟨_, rfl⟩
      obtain ⟨ad, A7, c7, ead, hx0, hx1, hx2, hx3, hx4, hx5, hx6, hx7, hl7, hi7⟩ := at_T28 (Kd.C_below HC.out HB.out) (k : Int) (by omega) (by omega)
      cases ead
      rw [show rd_T28 xs (k : Int) = x by rw [hxk]; simp [rd_T28, List.getD, hks]] at hx0 hx1 hx2 hx3 hx4 hx5 hx6 hx7 hl7 hi7
      simp only [Int.toNat_natCast] at hx0 hx1 hx2 hx3 hx4 hx5 hx6 hx7
      have HWE : Aside0 (WE x) := ⟨by rw [hxk]; exact HX.out _ (List.getElem_mem hks)⟩
      have HG2 : Hid (encGo b (x :: xs.drop (k + 1)) = (r, e)) := Lib.hid (by have h := HG.out; rw [List.drop_eq_getElem_cons hks, ← hxk] at h; exact h)
      clear hxk HG
      obtain ⟨x0, x1, x2, x3, x4, ⟨x5, x6, ss⟩⟩ := x
      obtain ⟨tl, rfl⟩ := exB x4
      dsimp only at hx0 hx1 hx2 hx3 hx4 hx5 hx6 hx7 hl7 hi7
      have HI7 := Aside0.mk hi7
      have hksi : (k : Int) < (xs.length : Int) := by omega
      obtain ⟨r1, e1, hp⟩ : ∃ r1 e1, putR b ⟨x0, x1, x2, x3, B tl, ⟨x5, x6, ss⟩⟩ = (r1, e1) := ⟨_, _, rfl⟩
      have HP := Lib.hid hp
      clear hi7 hp
      by_cases he : e1 = 0
      case neg =>
        have g0 := bne_t he
        obtain ⟨rfl, rfl⟩ : (⟨#[]⟩ : ByteArray) = r ∧ e1 = e := by have h := HG2.out; rw [encGo, HP.out, if_pos he] at h; simpa using h
        clear he
        go_wp2_with (first | (go_at_call 14; go_loud (with_reducible refine (put_x b x0 x1 x2 x3 tl x5 x6 A7 c7 ss _ (Kd.C_below HI7.out (below_alloc (Below.refl wr.heap.size wr) (.cells #[.int .i64 x0, .int .i64 x1, .int .i64 x2, .int .i64 x3, .string (B tl), .int .i64 x5, .int .i64 x6, .slice A7 ss.length c7] 28))) hl7 HWE.out (by omega) _ _ HP.out).mono ?_); go_loud (rintro e' w' ⟨rfl, hd⟩; have n_ := Aside0.mk (below_step HB.out (below_step (below_alloc (Below.refl wr.heap.size wr) (.cells #[.int .i64 x0, .int .i64 x1, .int .i64 x2, .int .i64 x3, .string (B tl), .int .i64 x5, .int .i64 x6, .slice A7 ss.length c7] 28)) hd)); clear HB hd; have HB := n_; clear n_)))
        go_ret2
        exact ⟨rfl, HB.out⟩
      case pos =>
        subst he
        obtain ⟨rfl, h4, hs7⟩ := putR_ok HP.out
        have HG3 : Hid (encGo (b ++ putE ⟨x0, x1, x2, x3, B tl, ⟨x5, x6, ss⟩⟩) (xs.drop (k + 1)) = (r, e)) := Lib.hid (by have h := HG2.out; rw [encGo, HP.out, if_neg (fun z => z rfl)] at h; exact h)
        have hbl2 : (b ++ putE ⟨x0, x1, x2, x3, B tl, ⟨x5, x6, ss⟩⟩).length ≤ 10 + 60000 * (k + 1) := by have := putE_len HWE.out h4 hs7; rw [List.length_append]; omega
        clear h4 hs7 HG2
        go_wp2_with (first | (go_at_call 14; go_loud (with_reducible refine (put_x b x0 x1 x2 x3 tl x5 x6 A7 c7 ss _ (Kd.C_below HI7.out (below_alloc (Below.refl wr.heap.size wr) (.cells #[.int .i64 x0, .int .i64 x1, .int .i64 x2, .int .i64 x3, .string (B tl), .int .i64 x5, .int .i64 x6, .slice A7 ss.length c7] 28))) hl7 HWE.out (by omega) _ _ HP.out).mono ?_); go_loud (rintro e' w' ⟨rfl, hd⟩; have n_ := Aside0.mk (below_step HB.out (below_step (below_alloc (Below.refl wr.heap.size wr) (.cells #[.int .i64 x0, .int .i64 x1, .int .i64 x2, .int .i64 x3, .string (B tl), .int .i64 x5, .int .i64 x6, .slice A7 ss.length c7] 28)) hd)); clear HB hd; have HB := n_; clear n_)))
        go_roundw
        case rel => exact ⟨k + 1, _, by omega, by go_num, rfl, hbl2, HG3, HB⟩
        case measure => simp only [intOf]; omega
end Go.Proofs.Ytcjdnahgffkbdaa.Sen

namespace Go.Proofs.Ytcjdnahgffkbdaa.Srt
open Go Go.RowKit Go.Proofs Go.Proofs.Ytcjdnahgffkbdaa.Gm Go.Proofs.Ytcjdnahgffkbdaa.Gwa Go.Proofs.Ytcjdnahgffkbdaa.Gwb Go.Proofs.Ytcjdnahgffkbdaa.Gwd Go.Proofs.Ytcjdnahgffkbdaa.Srd Go.Proofs.Ytcjdnahgffkbdaa.Srs Go.Proofs.Ytcjdnahgffkbdaa.Sst Go.Proofs.Ytcjdnahgffkbdaa.Sev Go.Proofs.Ytcjdnahgffkbdaa.Sgt Go.Proofs.Ytcjdnahgffkbdaa.Sdc Go.Proofs.Ytcjdnahgffkbdaa.Spt Go.Proofs.Ytcjdnahgffkbdaa.Sen Go.Proofs.Ytcjdnahgffkbdaa.Q Go.Proofs.YtcjdnahgffkbdaaW.PrintWords
set_option linter.unusedVariables false
theorem rI_at {L p q : List UInt8} {n : Int} (h : L = p ++ (putI n ++ q)) (hn : I64 n) : rI L (p.length : Int) 0 = (n, ((p ++ putI n).length : Int), 0) := by
  subst h
  unfold rI th
  rw [intAt_put p q n hn]
  simp
theorem rS_at {L p q : List UInt8} {s : S64} (h : L = p ++ (putL (Spt.nums s) ++ q)) (hs : W11 s) : rS L (p.length : Int) 0 = (s, ((p ++ putL (Spt.nums s)).length : Int), 0) := by
  subst h
  unfold rS th
  rw [listAt_put p q (Spt.nums s) 11 (fun x hx => wf64 (hs x hx)) (by simp [Spt.nums]) (by simp [Spt.nums])]
  simp [Spt.nums, stOf, rd]
theorem rSs_at : ∀ (ss : List S64) (L p q : List UInt8) (acc : List S64), L = p ++ (putS ss ++ q) → (∀ s ∈ ss, W11 s) → rSs L ss.length acc (p.length : Int) 0 = (acc ++ ss, ((p ++ putS ss).length : Int), 0)
  | [], L, p, q, acc, h, hs => by simp [rSs, putS]
  | s :: ss, L, p, q, acc, h, hs => by
    have h1 : L = p ++ (putL (Spt.nums s) ++ (putS ss ++ q)) := by rw [h]; simp [putS]
    have h2 : L = (p ++ putL (Spt.nums s)) ++ (putS ss ++ q) := by rw [h1]; simp
    rw [List.length_cons, rSs, if_pos rfl, rS_at h1 (hs s List.mem_cons_self)]
    simp only
    rw [rSs_at ss L _ q _ h2 (fun t ht => hs t (List.mem_cons_of_mem _ ht))]
    simp [putS]
theorem rE_at {L p q : List UInt8} {x : S28} (h : L = p ++ (putE x ++ q)) (hx : WE x) (h4 : x.f4.size ≤ 16384) (hs : x.f5.f2.length ≤ 256) : rE L (p.length : Int) 0 = (x, ((p ++ putE x).length : Int), 0) := by
  obtain ⟨x0, x1, x2, x3, x4, ⟨x5, x6, ss⟩⟩ := x
  obtain ⟨tl, rfl⟩ := exB x4
  have htl : tl.length ≤ 16384 := by rw [← B_size tl]; exact h4
  have e0 : putE ⟨x0, x1, x2, x3, B tl, ⟨x5, x6, ss⟩⟩ = putI x0 ++ (putI x1 ++ (putI x2 ++ (putI x3 ++ (putI tl.length ++ (tl ++ (putI x5 ++ (putI x6 ++ (putI ss.length ++ putS ss)))))))) := by simp [putE, B_data]
  rw [e0] at h ⊢
  have i0 : L = p ++ (putI x0 ++ (putI x1 ++ (putI x2 ++ (putI x3 ++ (putI tl.length ++ (tl ++ (putI x5 ++ (putI x6 ++ (putI ss.length ++ (putS ss ++ q)))))))))) := by rw [h]; simp
  have i1 : L = (p ++ putI x0) ++ (putI x1 ++ (putI x2 ++ (putI x3 ++ (putI tl.length ++ (tl ++ (putI x5 ++ (putI x6 ++ (putI ss.length ++ (putS ss ++ q))))))))) := by rw [i0]; simp
  have i2 : L = ((p ++ putI x0) ++ putI x1) ++ (putI x2 ++ (putI x3 ++ (putI tl.length ++ (tl ++ (putI x5 ++ (putI x6 ++ (putI ss.length ++ (putS ss ++ q)))))))) := by rw [i0]; simp
  have i3 : L = (((p ++ putI x0) ++ putI x1) ++ putI x2) ++ (putI x3 ++ (putI tl.length ++ (tl ++ (putI x5 ++ (putI x6 ++ (putI ss.length ++ (putS ss ++ q))))))) := by rw [i0]; simp
  have r0 := rI_at i0 hx.h0
  have r1 := rI_at i1 hx.h1
  have r2 := rI_at i2 hx.h2
  have r3 := rI_at i3 hx.h3
  generalize hp4 : (((p ++ putI x0) ++ putI x1) ++ putI x2) ++ putI x3 = p4 at r3
  have i4 : L = p4 ++ (putI tl.length ++ (tl ++ (putI x5 ++ (putI x6 ++ (putI ss.length ++ (putS ss ++ q)))))) := by rw [i0, ← hp4]; simp
  have s1 : stI L (p.length : Int) 0 1 = (((p ++ putI x0).length : Int), 0) := by simp only [stI, r0]
  have s2 : stI L (p.length : Int) 0 2 = ((((p ++ putI x0) ++ putI x1).length : Int), 0) := by rw [stI, s1, r1]
  have s3 : stI L (p.length : Int) 0 3 = (((((p ++ putI x0) ++ putI x1) ++ putI x2).length : Int), 0) := by rw [stI, s2, r2]
  have s4 : stI L (p.length : Int) 0 4 = ((p4.length : Int), 0) := by rw [stI, s3, r3]
  have n0 : nmI L (p.length : Int) 0 0 = x0 := by simp only [nmI, stI, r0]
  have n1 : nmI L (p.length : Int) 0 1 = x1 := by rw [nmI, s1, r1]
  have n2 : nmI L (p.length : Int) 0 2 = x2 := by rw [nmI, s2, r2]
  have n3 : nmI L (p.length : Int) 0 3 = x3 := by rw [nmI, s3, r3]
  generalize hp5 : p4 ++ (putI (tl.length : Int) ++ tl) = p5
  have hT : evT L (p.length : Int) 0 = (B tl, (p5.length : Int), 0) := by
    unfold evT th
    rw [s4]
    have ht := textAt_put p4 (putI x5 ++ (putI x6 ++ (putI ss.length ++ (putS ss ++ q)))) tl 16384 (by omega) (by omega)
    rw [← i4] at ht
    simp only [ht, ne_eq, not_true_eq_false, if_false, ← hp5, List.length_append, Nat.add_assoc]
  have j5 : L = p5 ++ (putI x5 ++ (putI x6 ++ (putI ss.length ++ (putS ss ++ q)))) := by rw [i4, ← hp5]; simp
  have j6 : L = (p5 ++ putI x5) ++ (putI x6 ++ (putI ss.length ++ (putS ss ++ q))) := by rw [j5]; simp
  have j7 : L = ((p5 ++ putI x5) ++ putI x6) ++ (putI ss.length ++ (putS ss ++ q)) := by rw [j5]; simp
  have r5 := rI_at j5 hx.h5
  have r6 := rI_at j6 hx.h6
  have r7 := rI_at (n := (ss.length : Int)) j7 (by unfold I64; have : ss.length ≤ 256 := hs; omega)
  have t1 : stI L (p5.length : Int) 0 1 = (((p5 ++ putI x5).length : Int), 0) := by simp only [stI, r5]
  have t2 : stI L (p5.length : Int) 0 2 = ((((p5 ++ putI x5) ++ putI x6).length : Int), 0) := by rw [stI, t1, r6]
  have m0 : nmI L (p5.length : Int) 0 0 = x5 := by simp only [nmI, stI, r5]
  have m1 : nmI L (p5.length : Int) 0 1 = x6 := by rw [nmI, t1, r6]
  generalize hp8 : ((p5 ++ putI x5) ++ putI x6) ++ putI (ss.length : Int) = p8 at r7
  have hss : ss.length ≤ 256 := hs
  have hCt : evC L (p.length : Int) 0 = ((ss.length : Int), (p8.length : Int), 0) := by
    unfold evC
    rw [hT]
    simp only [t2]
    unfold rC
    rw [r7, if_neg (by simp only; omega)]
  have j8 : L = p8 ++ (putS ss ++ q) := by rw [j7, ← hp8]; simp
  have hR := rSs_at ss L p8 q [] j8 hx.hs
  unfold rE
  simp only [hT, hCt, n0, n1, n2, n3, m0, m1, Int.toNat_natCast, hR, List.nil_append]
  simp only [← hp8, ← hp5, ← hp4, List.append_assoc]
def okE (x : S28) : Prop := WE x ∧ x.f4.size ≤ 16384 ∧ x.f5.f2.length ≤ 256
def putEs (xs : List S28) : List UInt8 := xs.flatMap putE
theorem encGo_ok : ∀ (xs : List S28) (b : List UInt8), (∀ x ∈ xs, okE x) → encGo b xs = (B (b ++ putEs xs), 0)
  | [], b, h => by simp [encGo, putEs]
  | x :: xs, b, h => by
    obtain ⟨h1, h2, h3⟩ := h x List.mem_cons_self
    have hp : putR b x = (B (b ++ putE x), 0) := by unfold putR; rw [if_neg (by omega)]
    rw [encGo, hp, if_neg (by simp), encGo_ok xs _ (fun y hy => h y (List.mem_cons_of_mem _ hy))]
    simp [putEs]
theorem rEs_at : ∀ (xs : List S28) (L p q : List UInt8) (acc : List S28), L = p ++ (putEs xs ++ q) → (∀ x ∈ xs, okE x) → rEs L xs.length acc (p.length : Int) 0 = (acc ++ xs, ((p ++ putEs xs).length : Int), 0)
  | [], L, p, q, acc, h, hx => by simp [rEs, putEs]
  | x :: xs, L, p, q, acc, h, hx => by
    have h1 : L = p ++ (putE x ++ (putEs xs ++ q)) := by rw [h]; simp [putEs]
    have h2 : L = (p ++ putE x) ++ (putEs xs ++ q) := by rw [h1]; simp
    obtain ⟨g1, g2, g3⟩ := hx x List.mem_cons_self
    rw [List.length_cons, rEs, if_pos rfl, rE_at h1 g1 g2 g3]
    simp only
    rw [rEs_at xs L _ q _ h2 (fun t ht => hx t (List.mem_cons_of_mem _ ht))]
    simp [putEs]
theorem enc_ok {xs : List S28} (hl : xs.length ≤ 256) (h : ∀ x ∈ xs, okE x) : encR xs = (B (putI xs.length ++ putEs xs), 0) := by
  unfold encR
  rw [if_neg (by omega), encGo_ok xs _ h]
theorem dec_enc {xs : List S28} (hl : xs.length ≤ 256) (h : ∀ x ∈ xs, okE x) : decR (putI xs.length ++ putEs xs) = (xs, 0) := by
  have r0 := rI_at (L := putI xs.length ++ putEs xs) (p := []) (q := putEs xs) (n := (xs.length : Int)) rfl (by unfold I64; omega)
  have hc : rC (putI xs.length ++ putEs xs) 0 0 256 = ((xs.length : Int), ((putI (xs.length : Int)).length : Int), 0) := by
    unfold rC
    simp only [List.length_nil, List.nil_append] at r0
    rw [show ((0 : Nat) : Int) = 0 from rfl] at r0
    rw [r0, if_neg (by simp only; omega)]
  have hr := rEs_at xs (putI xs.length ++ putEs xs) (putI xs.length) [] [] (by simp) h
  unfold decR
  simp only [hc, Int.toNat_natCast, hr, ne_eq, not_true_eq_false, if_false, List.nil_append]
end Go.Proofs.Ytcjdnahgffkbdaa.Srt

namespace Go.Proofs.Ytcjdnahgffkbdaa.Spe
open Go Go.RowKit Go.Proofs Go.Proofs.Ytcjdnahgffkbdaa.Gm Go.Proofs.Ytcjdnahgffkbdaa.Spt Go.Proofs.Ytcjdnahgffkbdaa.Snx Go.Proofs.Ytcjdnahgffkbdaa.Ssy Go.Proofs.Ytcjdnahgffkbdaa.Spd Go.Proofs.Ytcjdnahgffkbdaa.Spf Go.Proofs.Ytcjdnahgffkbdaa.Srt Go.Proofs.Ytcjdnahgffkbdaa.Q Go.Proofs.YtcjdnahgffkbdaaW.PrintWords Go.Proofs.YtcjdnahgffkbdaaW.PrintLast Go.Proofs.YtcjdnahgffkbdaaW.PrintMore
set_option linter.unusedVariables false
structure EvS (x : S28) : Prop where
  we : WE x
  tx : x.f4.size ≤ 30
  sy : x.f5.f2.length ≤ 2
theorem EvS.ok {x : S28} (h : EvS x) : okE x := ⟨h.we, by have := h.tx; omega, by have := h.sy; omega⟩
structure EW (w W0 W : World) (gd : Nat) (L : List Int) (g2 g3 : Nat) (c3 : Array Value) : Prop where
  d : DI w W gd L
  k : KeepBut W0 W gd none
  le : w.heap.size ≤ W0.heap.size
  l2 : W0.heap.size ≤ g2
  l3 : g2 < g3
  b2 : W.heap[g2]? = some (.cells #[.int .i64 0, .int .i64 0, .int .i64 0, .int .i64 0, .string ⟨#[]⟩, .int .i64 0, .int .i64 0, .slice none 0 0] 28 (0, 0))
  b3 : W.heap[g3]? = some (.cells c3 28 (0, 0))
section
variable {w W0 W W' : World} {gd : Nat} {L : List Int} {g2 g3 : Nat} {c3 : Array Value}
theorem EW.step (h : EW w W0 W gd L g2 g3 c3) (hd : DI w W' gd L) (hk : KeepBut W W' gd none) : EW w W0 W' gd L g2 g3 c3 := by
  have e2 := h.d.ne h.b2 (by decide)
  have e3 := h.d.ne h.b3 (by decide)
  exact ⟨hd, h.k.trans hk (.inl rfl), h.le, h.l2, h.l3, (hk.2 _ (blk_lt h.b2) e2 (by simp)).trans h.b2, (hk.2 _ (blk_lt h.b3) e3 (by simp)).trans h.b3⟩
theorem EW.set (h : EW w W0 W gd L g2 g3 c3) (i : Nat) (v : Value) : EW w W0 (W.setCell ⟨g3, i, none⟩ v) gd L g2 g3 (c3.setIfInBounds i v) := by
  have l1 := h.l2
  have l2 := h.l3
  exact ⟨h.d.far (by have := h.le; omega) (h.d.ne h.b3 (by decide)) i v, keep_far h.k (p := ⟨g3, i, none⟩) (by show W0.heap.size ≤ g3; omega) v, h.le, h.l2, h.l3, blk_far (p := ⟨g3, i, none⟩) h.b2 (by show g2 ≠ g3; omega) v, blk_put h.b3 i v rfl⟩
theorem d8 (h : EW w W0 W gd L g2 g3 c3) {v0 v1 v2 v3 v4 v5 v6 v7 : Value} : DI w ((((((((W.setCell ⟨g2, 0, none⟩ v0).setCell ⟨g2, 1, none⟩ v1).setCell ⟨g2, 2, none⟩ v2).setCell ⟨g2, 3, none⟩ v3).setCell ⟨g2, 4, none⟩ v4).setCell ⟨g2, 5, none⟩ v5).setCell ⟨g2, 6, none⟩ v6).setCell ⟨g2, 7, none⟩ v7) gd L := by
  have l0 : w.heap.size ≤ g2 := Nat.le_trans h.le h.l2
  have e := h.d.ne h.b2 (by decide)
  exact (((((((h.d.far l0 e 0 v0).far l0 e 1 v1).far l0 e 2 v2).far l0 e 3 v3).far l0 e 4 v4).far l0 e 5 v5).far l0 e 6 v6).far l0 e 7 v7
theorem k8 (h : EW w W0 W gd L g2 g3 c3) {v0 v1 v2 v3 v4 v5 v6 v7 : Value} : KeepBut W0 ((((((((W.setCell ⟨g2, 0, none⟩ v0).setCell ⟨g2, 1, none⟩ v1).setCell ⟨g2, 2, none⟩ v2).setCell ⟨g2, 3, none⟩ v3).setCell ⟨g2, 4, none⟩ v4).setCell ⟨g2, 5, none⟩ v5).setCell ⟨g2, 6, none⟩ v6).setCell ⟨g2, 7, none⟩ v7) gd none := by
  have l := h.l2
  exact keep_far (keep_far (keep_far (keep_far (keep_far (keep_far (keep_far (keep_far (h.k) (p := ⟨g2, 0, none⟩) l v0) (p := ⟨g2, 1, none⟩) l v1) (p := ⟨g2, 2, none⟩) l v2) (p := ⟨g2, 3, none⟩) l v3) (p := ⟨g2, 4, none⟩) l v4) (p := ⟨g2, 5, none⟩) l v5) (p := ⟨g2, 6, none⟩) l v6) (p := ⟨g2, 7, none⟩) l v7
theorem R_farN {base : Nat} {v : Value} {ss : List S64} {g : Nat} (hr : Kd.R k64 64 W base (fun _ => True) v ss) (hne : some g ≠ v.ownBlock) (i : Nat) (u : Value) : Kd.R k64 64 (W.setCell ⟨g, i, none⟩ u) base (fun _ => True) v ss := by
  have h2 : Kd.R k64 64 W base (fun k => k ≠ g) v ss := ⟨fun k hk e => hne (by rw [hk, e]), hr.2.imp_ (fun p c hm => by rw [k64_openM hm]; exact k64_mkM _ _ _ _)⟩
  exact Kd.R_mono (Kd.R_far (p := ⟨g, i, none⟩) h2 (fun _ hk => hk) u) (fun _ _ => trivial)
theorem R8 {base : Nat} {v : Value} {ss : List S64} (hr : Kd.R k64 64 W base (fun _ => True) v ss) (hne : some g2 ≠ v.ownBlock) {v0 v1 v2 v3 v4 v5 v6 v7 : Value} : Kd.R k64 64 ((((((((W.setCell ⟨g2, 0, none⟩ v0).setCell ⟨g2, 1, none⟩ v1).setCell ⟨g2, 2, none⟩ v2).setCell ⟨g2, 3, none⟩ v3).setCell ⟨g2, 4, none⟩ v4).setCell ⟨g2, 5, none⟩ v5).setCell ⟨g2, 6, none⟩ v6).setCell ⟨g2, 7, none⟩ v7) base (fun _ => True) v ss :=
  R_farN (R_farN (R_farN (R_farN (R_farN (R_farN (R_farN (R_farN hr hne 0 v0) hne 1 v1) hne 2 v2) hne 3 v3) hne 4 v4) hne 5 v5) hne 6 v6) hne 7 v7
end
theorem put8 {W : World} {g2 : Nat} {t : TypeId} {x0 x1 x2 x3 x4 x5 x6 x7 v0 v1 v2 v3 v4 v5 v6 v7 : Value} (h : W.heap[g2]? = some (.cells #[x0, x1, x2, x3, x4, x5, x6, x7] t (0, 0))) : ((((((((W.setCell ⟨g2, 0, none⟩ v0).setCell ⟨g2, 1, none⟩ v1).setCell ⟨g2, 2, none⟩ v2).setCell ⟨g2, 3, none⟩ v3).setCell ⟨g2, 4, none⟩ v4).setCell ⟨g2, 5, none⟩ v5).setCell ⟨g2, 6, none⟩ v6).setCell ⟨g2, 7, none⟩ v7).heap[g2]? = some (.cells #[v0, v1, v2, v3, v4, v5, v6, v7] t (0, 0)) := by
  have h0 : (W.setCell ⟨g2, 0, none⟩ v0).heap[g2]? = some (.cells #[v0, x1, x2, x3, x4, x5, x6, x7] t (0, 0)) := blk_put h 0 v0 rfl
  have h1 : ((W.setCell ⟨g2, 0, none⟩ v0).setCell ⟨g2, 1, none⟩ v1).heap[g2]? = some (.cells #[v0, v1, x2, x3, x4, x5, x6, x7] t (0, 0)) := blk_put h0 1 v1 rfl
  have h2 : (((W.setCell ⟨g2, 0, none⟩ v0).setCell ⟨g2, 1, none⟩ v1).setCell ⟨g2, 2, none⟩ v2).heap[g2]? = some (.cells #[v0, v1, v2, x3, x4, x5, x6, x7] t (0, 0)) := blk_put h1 2 v2 rfl
  have h3 : ((((W.setCell ⟨g2, 0, none⟩ v0).setCell ⟨g2, 1, none⟩ v1).setCell ⟨g2, 2, none⟩ v2).setCell ⟨g2, 3, none⟩ v3).heap[g2]? = some (.cells #[v0, v1, v2, v3, x4, x5, x6, x7] t (0, 0)) := blk_put h2 3 v3 rfl
  have h4 : (((((W.setCell ⟨g2, 0, none⟩ v0).setCell ⟨g2, 1, none⟩ v1).setCell ⟨g2, 2, none⟩ v2).setCell ⟨g2, 3, none⟩ v3).setCell ⟨g2, 4, none⟩ v4).heap[g2]? = some (.cells #[v0, v1, v2, v3, v4, x5, x6, x7] t (0, 0)) := blk_put h3 4 v4 rfl
  have h5 : ((((((W.setCell ⟨g2, 0, none⟩ v0).setCell ⟨g2, 1, none⟩ v1).setCell ⟨g2, 2, none⟩ v2).setCell ⟨g2, 3, none⟩ v3).setCell ⟨g2, 4, none⟩ v4).setCell ⟨g2, 5, none⟩ v5).heap[g2]? = some (.cells #[v0, v1, v2, v3, v4, v5, x6, x7] t (0, 0)) := blk_put h4 5 v5 rfl
  have h6 : (((((((W.setCell ⟨g2, 0, none⟩ v0).setCell ⟨g2, 1, none⟩ v1).setCell ⟨g2, 2, none⟩ v2).setCell ⟨g2, 3, none⟩ v3).setCell ⟨g2, 4, none⟩ v4).setCell ⟨g2, 5, none⟩ v5).setCell ⟨g2, 6, none⟩ v6).heap[g2]? = some (.cells #[v0, v1, v2, v3, v4, v5, v6, x7] t (0, 0)) := blk_put h5 6 v6 rfl
  have h7 : ((((((((W.setCell ⟨g2, 0, none⟩ v0).setCell ⟨g2, 1, none⟩ v1).setCell ⟨g2, 2, none⟩ v2).setCell ⟨g2, 3, none⟩ v3).setCell ⟨g2, 4, none⟩ v4).setCell ⟨g2, 5, none⟩ v5).setCell ⟨g2, 6, none⟩ v6).setCell ⟨g2, 7, none⟩ v7).heap[g2]? = some (.cells #[v0, v1, v2, v3, v4, v5, v6, v7] t (0, 0)) := blk_put h6 7 v7 rfl
  exact h7
theorem WE_mk {x0 x1 x2 x3 x5 x6 : Int} {t : ByteArray} {ss : List S64} (h0 : I64 x0) (h1 : I64 x1) (h2 : I64 x2) (h3 : I64 x3) (h4 : t.size ≤ 30) (h5 : I64 x5) (h6 : I64 x6) (hl : ss.length ≤ 2) (hs : ∀ s ∈ ss, W11 s) : EvS ⟨x0, x1, x2, x3, t, ⟨x5, x6, ss⟩⟩ := ⟨⟨h0, h1, h2, h3, h5, h6, hs⟩, h4, hl⟩
theorem Isml {x : Int} (h : -1000 ≤ x ∧ x ≤ 1000) : I64 x := by unfold I64; omega
theorem wsml {x : Int} (h : -1000 ≤ x ∧ x ≤ 1000) : IntKind.i64.wrap x = x := IntWalk.i64_in _ (by omega)
set_option maxRecDepth 100000 in
set_option maxHeartbeats 8000000 in
theorem event_x {w W : World} {gd : Nat} {L : List Int} (h : DI w W gd L) : Calls Try.prog 29 #[.pointer (some ⟨gd, 0, none⟩)] W fun e w' =>
    ∃ (x0 x1 x2 x3 : Int) (t : ByteArray) (x5 x6 : Int) (A : Option Addr) (c : Nat) (ss : List S64), e = .returned (.agg #[.int .i64 x0, .int .i64 x1, .int .i64 x2, .int .i64 x3, .string t, .int .i64 x5, .int .i64 x6, .slice A ss.length c]) ∧ EvS ⟨x0, x1, x2, x3, t, ⟨x5, x6, ss⟩⟩ ∧ Kd.R k64 64 w' W.heap.size (fun _ => True) (.slice A ss.length c) ss ∧ DI w w' gd L ∧ KeepBut W w' gd none := by
  have hu28 := Try.underlying28
  have hu26 := Try.underlying26
  have HD := Aside0.mk (h.below (below_alloc (Below.refl _ _) (.cells #[.int .i64 0, .int .i64 0, .int .i64 0, .int .i64 0, .string ⟨#[]⟩, .int .i64 0, .int .i64 0, .slice none 0 0] 28)))
  have HK := Aside0.mk (KeepBut.of_below (below_alloc (Below.refl W.heap.size W) (.cells #[.int .i64 0, .int .i64 0, .int .i64 0, .int .i64 0, .string ⟨#[]⟩, .int .i64 0, .int .i64 0, .slice none 0 0] 28)) gd none)
  have HN := Aside0.mk (heap_alloc_new W (.cells #[.int .i64 0, .int .i64 0, .int .i64 0, .int .i64 0, .string ⟨#[]⟩, .int .i64 0, .int .i64 0, .slice none 0 0] 28))
  have HLE := Aside0.mk h.hb.size
  clear h
  go_enter Try.func29, Try.ntmps29
  go_upto_region 2 with (first | (go_at_call 28; go_loud (with_reducible refine (pick_x HD.out 13 (by decide)).mono ?_); go_loud (rintro e w1 ⟨t1, rfl, ht1, hd, hk⟩; have HD1 := Aside0.mk hd; have HK1 := Aside0.mk (HK.out.trans hk (.inl rfl)); have n_ := Aside0.mk ((hk.2 _ (blk_lt HN.out) (HD.out.ne HN.out (by decide)) (by simp)).trans HN.out); clear HD HN HK hd hk; have HN := n_; clear n_; have e1 : IntKind.i64.wrap (1 + t1) = 1 + t1 := wsml (by omega))) | (go_at_call 28; go_loud (with_reducible refine (pick_x HD1.out 5 (by decide)).mono ?_); go_loud (rintro e w2 ⟨t2, rfl, ht2, hd, hk⟩; have HD := Aside0.mk hd; have HK := Aside0.mk (HK1.out.trans hk (.inl rfl)); have n_ := Aside0.mk ((hk.2 _ (blk_lt HN.out) (HD1.out.ne HN.out (by decide)) (by simp)).trans HN.out); clear HD1 HN HK1 hd hk; have HN := n_; clear n_; have e2 : IntKind.i64.wrap (1 + t2) = 1 + t2 := wsml (by omega))))
  have HE := Aside0.mk (EW.mk (L := L) (HD.out.below (below_alloc (Below.refl _ _) (.cells #[.int .i64 (1 + t1), .int .i64 (1 + t2), .int .i64 0, .int .i64 0, .string ⟨#[]⟩, .int .i64 0, .int .i64 0, .slice none 0 0] 28))) (HK.out.trans (KeepBut.of_below (below_alloc (Below.refl _ _) (.cells #[.int .i64 (1 + t1), .int .i64 (1 + t2), .int .i64 0, .int .i64 0, .string ⟨#[]⟩, .int .i64 0, .int .i64 0, .slice none 0 0] 28)) gd none) (.inl rfl)) HLE.out (Nat.le_refl _) (blk_lt HN.out) (blk_alloc HN.out _) (heap_alloc_new w2 (.cells #[.int .i64 (1 + t1), .int .i64 (1 + t2), .int .i64 0, .int .i64 0, .string ⟨#[]⟩, .int .i64 0, .int .i64 0, .slice none 0 0] 28)))
  obtain ⟨W3, hW3⟩ : ∃ W3, W3 = w2.alloc (.cells #[.int .i64 (1 + t1), .int .i64 (1 + t2), .int .i64 0, .int .i64 0, .string ⟨#[]⟩, .int .i64 0, .int .i64 0, .slice none 0 0] 28) := ⟨_, rfl⟩
  rw [← hW3] at HE ⊢
  obtain ⟨g2, hg2⟩ : ∃ g, W.heap.size = g := ⟨_, rfl⟩
  obtain ⟨g3, hg3⟩ : ∃ g, w2.heap.size = g := ⟨_, rfl⟩
  have HBS : Aside0 (W.heap.size = g2) := ⟨hg2⟩
  rw [hg2, hg3] at HE ⊢
  obtain ⟨x0, hx0⟩ : ∃ x, 1 + t1 = x := ⟨_, rfl⟩
  obtain ⟨x1, hx1⟩ : ∃ x, 1 + t2 = x := ⟨_, rfl⟩
  rw [hx0, hx1] at HE
  have HX := Aside0.mk (show I64 x0 ∧ I64 x1 from ⟨Isml (by omega), Isml (by omega)⟩)
  try rw [hx0, hx1]
  clear hW3 HD HK HN HLE hg3 e1 e2 hx0 hx1 ht1 ht2
  go_cut [13] (fun s13 wx => ∃ t3 : Int, s13 = .bool (t3 == 0) ∧ Aside0 (EW w W wx gd L g2 g3 #[.int .i64 x0, .int .i64 x1, .int .i64 0, .int .i64 0, .string ⟨#[]⟩, .int .i64 0, .int .i64 0, .slice none 0 0]))
  case first =>
    go_wp2_with (go_at_call 28; go_loud (with_reducible refine (pick_x HE.out.d 4 (by decide)).mono ?_); go_loud (rintro e w4 ⟨t3, rfl, ht3, hd, hk⟩; have n_ := Aside0.mk (HE.out.step hd hk); clear HE hd hk ht3; have HE := n_; clear n_))
    go_meet
    exact ⟨t3, rfl, HE⟩
  case rest =>
  clear HE
  obtain ⟨t3, rfl, HE⟩ := hcut
  have q3_0 : wc.cell? ⟨g3, 0, none⟩ = some (.int .i64 x0) := (blk_cell HE.out.b3 0).trans rfl
  have q3_1 : wc.cell? ⟨g3, 1, none⟩ = some (.int .i64 x1) := (blk_cell HE.out.b3 1).trans rfl
  have q3_2 : wc.cell? ⟨g3, 2, none⟩ = some (.int .i64 0) := (blk_cell HE.out.b3 2).trans rfl
  have q3_3 : wc.cell? ⟨g3, 3, none⟩ = some (.int .i64 0) := (blk_cell HE.out.b3 3).trans rfl
  have q3_4 : wc.cell? ⟨g3, 4, none⟩ = some (.string ⟨#[]⟩) := (blk_cell HE.out.b3 4).trans rfl
  have q3_5 : wc.cell? ⟨g3, 5, none⟩ = some (.int .i64 0) := (blk_cell HE.out.b3 5).trans rfl
  have q3_6 : wc.cell? ⟨g3, 6, none⟩ = some (.int .i64 0) := (blk_cell HE.out.b3 6).trans rfl
  have q3_7 : wc.cell? ⟨g3, 7, none⟩ = some (.slice none 0 0) := (blk_cell HE.out.b3 7).trans rfl
  have z3_0 := blk_frozen HE.out.b3 0
  have z3_1 := blk_frozen HE.out.b3 1
  have z3_2 := blk_frozen HE.out.b3 2
  have z3_3 := blk_frozen HE.out.b3 3
  have z3_4 := blk_frozen HE.out.b3 4
  have z3_5 := blk_frozen HE.out.b3 5
  have z3_6 := blk_frozen HE.out.b3 6
  have z3_7 := blk_frozen HE.out.b3 7
  have q2_0 : wc.cell? ⟨g2, 0, none⟩ = some (.int .i64 0) := (blk_cell HE.out.b2 0).trans rfl
  have q2_1 : wc.cell? ⟨g2, 1, none⟩ = some (.int .i64 0) := (blk_cell HE.out.b2 1).trans rfl
  have q2_2 : wc.cell? ⟨g2, 2, none⟩ = some (.int .i64 0) := (blk_cell HE.out.b2 2).trans rfl
  have q2_3 : wc.cell? ⟨g2, 3, none⟩ = some (.int .i64 0) := (blk_cell HE.out.b2 3).trans rfl
  have q2_4 : wc.cell? ⟨g2, 4, none⟩ = some (.string ⟨#[]⟩) := (blk_cell HE.out.b2 4).trans rfl
  have q2_5 : wc.cell? ⟨g2, 5, none⟩ = some (.int .i64 0) := (blk_cell HE.out.b2 5).trans rfl
  have q2_6 : wc.cell? ⟨g2, 6, none⟩ = some (.int .i64 0) := (blk_cell HE.out.b2 6).trans rfl
  have q2_7 : wc.cell? ⟨g2, 7, none⟩ = some (.slice none 0 0) := (blk_cell HE.out.b2 7).trans rfl
  have z2_0 := blk_frozen HE.out.b2 0
  have z2_1 := blk_frozen HE.out.b2 1
  have z2_2 := blk_frozen HE.out.b2 2
  have z2_3 := blk_frozen HE.out.b2 3
  have z2_4 := blk_frozen HE.out.b2 4
  have z2_5 := blk_frozen HE.out.b2 5
  have z2_6 := blk_frozen HE.out.b2 6
  have z2_7 := blk_frozen HE.out.b2 7
  have n3 := blk_lt HE.out.b3
  have n2 := blk_lt HE.out.b2
  have n23 : g2 ≠ g3 := Nat.ne_of_lt HE.out.l3
  have n32 : g3 ≠ g2 := Nat.ne_of_gt HE.out.l3
  by_cases h3 : t3 = 0
  case pos =>
    have g0 : (t3 == 0) = true := beq_iff_eq.2 h3
    clear h3
    have HS7 := Aside0.mk (HE.out.set 0 (.int .i64 7))
    go_wp2_with (go_at_call 48; go_loud (with_reducible refine (text_x HS7.out.d).mono ?_); go_loud (rintro e w5 ⟨t, rfl, ht, hd, hk⟩; have n_ := Aside0.mk (EW.step HS7.out hd hk); clear HE HS7 hd hk; have HE := n_; clear n_; have q3_0 : w5.cell? ⟨g3, 0, none⟩ = some (.int .i64 7) := (blk_cell HE.out.b3 0).trans rfl; have q3_1 : w5.cell? ⟨g3, 1, none⟩ = some (.int .i64 x1) := (blk_cell HE.out.b3 1).trans rfl; have q3_2 : w5.cell? ⟨g3, 2, none⟩ = some (.int .i64 0) := (blk_cell HE.out.b3 2).trans rfl; have q3_3 : w5.cell? ⟨g3, 3, none⟩ = some (.int .i64 0) := (blk_cell HE.out.b3 3).trans rfl; have q3_4 : w5.cell? ⟨g3, 4, none⟩ = some (.string ⟨#[]⟩) := (blk_cell HE.out.b3 4).trans rfl; have q3_5 : w5.cell? ⟨g3, 5, none⟩ = some (.int .i64 0) := (blk_cell HE.out.b3 5).trans rfl; have q3_6 : w5.cell? ⟨g3, 6, none⟩ = some (.int .i64 0) := (blk_cell HE.out.b3 6).trans rfl; have q3_7 : w5.cell? ⟨g3, 7, none⟩ = some (.slice none 0 0) := (blk_cell HE.out.b3 7).trans rfl; have z3_0 := blk_frozen HE.out.b3 0; have z3_1 := blk_frozen HE.out.b3 1; have z3_2 := blk_frozen HE.out.b3 2; have z3_3 := blk_frozen HE.out.b3 3; have z3_4 := blk_frozen HE.out.b3 4; have z3_5 := blk_frozen HE.out.b3 5; have z3_6 := blk_frozen HE.out.b3 6; have z3_7 := blk_frozen HE.out.b3 7; have q2_0 : w5.cell? ⟨g2, 0, none⟩ = some (.int .i64 0) := (blk_cell HE.out.b2 0).trans rfl; have q2_1 : w5.cell? ⟨g2, 1, none⟩ = some (.int .i64 0) := (blk_cell HE.out.b2 1).trans rfl; have q2_2 : w5.cell? ⟨g2, 2, none⟩ = some (.int .i64 0) := (blk_cell HE.out.b2 2).trans rfl; have q2_3 : w5.cell? ⟨g2, 3, none⟩ = some (.int .i64 0) := (blk_cell HE.out.b2 3).trans rfl; have q2_4 : w5.cell? ⟨g2, 4, none⟩ = some (.string ⟨#[]⟩) := (blk_cell HE.out.b2 4).trans rfl; have q2_5 : w5.cell? ⟨g2, 5, none⟩ = some (.int .i64 0) := (blk_cell HE.out.b2 5).trans rfl; have q2_6 : w5.cell? ⟨g2, 6, none⟩ = some (.int .i64 0) := (blk_cell HE.out.b2 6).trans rfl; have q2_7 : w5.cell? ⟨g2, 7, none⟩ = some (.slice none 0 0) := (blk_cell HE.out.b2 7).trans rfl; have z2_0 := blk_frozen HE.out.b2 0; have z2_1 := blk_frozen HE.out.b2 1; have z2_2 := blk_frozen HE.out.b2 2; have z2_3 := blk_frozen HE.out.b2 3; have z2_4 := blk_frozen HE.out.b2 4; have z2_5 := blk_frozen HE.out.b2 5; have z2_6 := blk_frozen HE.out.b2 6; have z2_7 := blk_frozen HE.out.b2 7; have n3 := blk_lt HE.out.b3; have n2 := blk_lt HE.out.b2; have n23 : g2 ≠ g3 := Nat.ne_of_lt HE.out.l3; have n32 : g3 ≠ g2 := Nat.ne_of_gt HE.out.l3))
    have HS := Aside0.mk (HE.out.set 4 (.string t))
    have hb8 := put8 (v0 := .int .i64 7) (v1 := .int .i64 x1) (v2 := .int .i64 0) (v3 := .int .i64 0) (v4 := .string t) (v5 := .int .i64 0) (v6 := .int .i64 0) (v7 := .slice none 0 0) HS.out.b2
    refine bodyPost_ret (results_cell_row rfl _ _ g2 28 #[.int .i64 7, .int .i64 x1, .int .i64 0, .int .i64 0, .string t, .int .i64 0, .int .i64 0, .slice none 0 0] (0, 0) _ rfl hb8 Try.underlying28 rfl (by kernel_rfl)) rfl ?_
    exact ⟨7, x1, 0, 0, t, 0, 0, none, 0, [], rfl, WE_mk (Isml (by omega)) HX.out.2 I64_0 I64_0 ht I64_0 I64_0 (by simp) (by simp), Kd.R_nil _ _ _ _ _, d8 HS.out, k8 HS.out⟩
  case neg =>
  have g0 : (t3 == 0) = false := beq_eq_false_iff_ne.2 h3
  clear h3
  by_cases k1 : x0 = 1
  case pos =>
    have u1 : (x0 == 1) = true := beq_iff_eq.2 k1
    clear k1
    go_wp2_with (go_at_call 28; go_loud (with_reducible refine (pick_x (HE.out).d 9 (by decide)).mono ?_); go_loud (rintro e w5 ⟨t, rfl, ht, hd, hk⟩; have n_ := Aside0.mk (EW.step (HE.out) hd hk); clear HE hd hk; have HE := n_; clear n_; have e1 : IntKind.i64.wrap (2 * t) = 2 * t := wsml (by omega); have e2 : IntKind.i64.wrap (2 * t + 1) = 2 * t + 1 := wsml (by omega); have q3_0 : w5.cell? ⟨g3, 0, none⟩ = some (.int .i64 x0) := (blk_cell HE.out.b3 0).trans rfl; have q3_1 : w5.cell? ⟨g3, 1, none⟩ = some (.int .i64 x1) := (blk_cell HE.out.b3 1).trans rfl; have q3_2 : w5.cell? ⟨g3, 2, none⟩ = some (.int .i64 0) := (blk_cell HE.out.b3 2).trans rfl; have q3_3 : w5.cell? ⟨g3, 3, none⟩ = some (.int .i64 0) := (blk_cell HE.out.b3 3).trans rfl; have q3_4 : w5.cell? ⟨g3, 4, none⟩ = some (.string ⟨#[]⟩) := (blk_cell HE.out.b3 4).trans rfl; have q3_5 : w5.cell? ⟨g3, 5, none⟩ = some (.int .i64 0) := (blk_cell HE.out.b3 5).trans rfl; have q3_6 : w5.cell? ⟨g3, 6, none⟩ = some (.int .i64 0) := (blk_cell HE.out.b3 6).trans rfl; have q3_7 : w5.cell? ⟨g3, 7, none⟩ = some (.slice none 0 0) := (blk_cell HE.out.b3 7).trans rfl; have z3_0 := blk_frozen HE.out.b3 0; have z3_1 := blk_frozen HE.out.b3 1; have z3_2 := blk_frozen HE.out.b3 2; have z3_3 := blk_frozen HE.out.b3 3; have z3_4 := blk_frozen HE.out.b3 4; have z3_5 := blk_frozen HE.out.b3 5; have z3_6 := blk_frozen HE.out.b3 6; have z3_7 := blk_frozen HE.out.b3 7; have q2_0 : w5.cell? ⟨g2, 0, none⟩ = some (.int .i64 0) := (blk_cell HE.out.b2 0).trans rfl; have q2_1 : w5.cell? ⟨g2, 1, none⟩ = some (.int .i64 0) := (blk_cell HE.out.b2 1).trans rfl; have q2_2 : w5.cell? ⟨g2, 2, none⟩ = some (.int .i64 0) := (blk_cell HE.out.b2 2).trans rfl; have q2_3 : w5.cell? ⟨g2, 3, none⟩ = some (.int .i64 0) := (blk_cell HE.out.b2 3).trans rfl; have q2_4 : w5.cell? ⟨g2, 4, none⟩ = some (.string ⟨#[]⟩) := (blk_cell HE.out.b2 4).trans rfl; have q2_5 : w5.cell? ⟨g2, 5, none⟩ = some (.int .i64 0) := (blk_cell HE.out.b2 5).trans rfl; have q2_6 : w5.cell? ⟨g2, 6, none⟩ = some (.int .i64 0) := (blk_cell HE.out.b2 6).trans rfl; have q2_7 : w5.cell? ⟨g2, 7, none⟩ = some (.slice none 0 0) := (blk_cell HE.out.b2 7).trans rfl; have z2_0 := blk_frozen HE.out.b2 0; have z2_1 := blk_frozen HE.out.b2 1; have z2_2 := blk_frozen HE.out.b2 2; have z2_3 := blk_frozen HE.out.b2 3; have z2_4 := blk_frozen HE.out.b2 4; have z2_5 := blk_frozen HE.out.b2 5; have z2_6 := blk_frozen HE.out.b2 6; have z2_7 := blk_frozen HE.out.b2 7; have n3 := blk_lt HE.out.b3; have n2 := blk_lt HE.out.b2; have n23 : g2 ≠ g3 := Nat.ne_of_lt HE.out.l3; have n32 : g3 ≠ g2 := Nat.ne_of_gt HE.out.l3))
    have HS := Aside0.mk (HE.out.set 3 (.int .i64 (2 * t + 1)))
    have hb8 := put8 (v0 := .int .i64 x0) (v1 := .int .i64 x1) (v2 := .int .i64 0) (v3 := .int .i64 (2 * t + 1)) (v4 := .string ⟨#[]⟩) (v5 := .int .i64 0) (v6 := .int .i64 0) (v7 := .slice none 0 0) HS.out.b2
    refine bodyPost_ret (results_cell_row rfl _ _ g2 28 #[.int .i64 x0, .int .i64 x1, .int .i64 0, .int .i64 (2 * t + 1), .string ⟨#[]⟩, .int .i64 0, .int .i64 0, .slice none 0 0] (0, 0) _ rfl hb8 Try.underlying28 rfl (by kernel_rfl)) rfl ?_
    exact ⟨x0, x1, 0, 2 * t + 1, ⟨#[]⟩, 0, 0, none, 0, [], rfl, WE_mk HX.out.1 HX.out.2 I64_0 (Isml (by omega)) (by show 0 ≤ 30; omega) I64_0 I64_0 (by simp) (by simp), Kd.R_nil _ _ _ _ _, d8 HS.out, k8 HS.out⟩
  case neg =>
  have u1 : (x0 == 1) = false := beq_eq_false_iff_ne.2 k1
  by_cases k6 : x0 = 6
  case pos =>
    have u6 : (x0 == 6) = true := beq_iff_eq.2 k6
    clear k1 k6
    go_wp2_with (go_at_call 28; go_loud (with_reducible refine (pick_x (HE.out).d 5 (by decide)).mono ?_); go_loud (rintro e w5 ⟨t, rfl, ht, hd, hk⟩; have n_ := Aside0.mk (EW.step (HE.out) hd hk); clear HE hd hk; have HE := n_; clear n_; have e1 : IntKind.i64.wrap (1 + t) = 1 + t := wsml (by omega); have q3_0 : w5.cell? ⟨g3, 0, none⟩ = some (.int .i64 x0) := (blk_cell HE.out.b3 0).trans rfl; have q3_1 : w5.cell? ⟨g3, 1, none⟩ = some (.int .i64 x1) := (blk_cell HE.out.b3 1).trans rfl; have q3_2 : w5.cell? ⟨g3, 2, none⟩ = some (.int .i64 0) := (blk_cell HE.out.b3 2).trans rfl; have q3_3 : w5.cell? ⟨g3, 3, none⟩ = some (.int .i64 0) := (blk_cell HE.out.b3 3).trans rfl; have q3_4 : w5.cell? ⟨g3, 4, none⟩ = some (.string ⟨#[]⟩) := (blk_cell HE.out.b3 4).trans rfl; have q3_5 : w5.cell? ⟨g3, 5, none⟩ = some (.int .i64 0) := (blk_cell HE.out.b3 5).trans rfl; have q3_6 : w5.cell? ⟨g3, 6, none⟩ = some (.int .i64 0) := (blk_cell HE.out.b3 6).trans rfl; have q3_7 : w5.cell? ⟨g3, 7, none⟩ = some (.slice none 0 0) := (blk_cell HE.out.b3 7).trans rfl; have z3_0 := blk_frozen HE.out.b3 0; have z3_1 := blk_frozen HE.out.b3 1; have z3_2 := blk_frozen HE.out.b3 2; have z3_3 := blk_frozen HE.out.b3 3; have z3_4 := blk_frozen HE.out.b3 4; have z3_5 := blk_frozen HE.out.b3 5; have z3_6 := blk_frozen HE.out.b3 6; have z3_7 := blk_frozen HE.out.b3 7; have q2_0 : w5.cell? ⟨g2, 0, none⟩ = some (.int .i64 0) := (blk_cell HE.out.b2 0).trans rfl; have q2_1 : w5.cell? ⟨g2, 1, none⟩ = some (.int .i64 0) := (blk_cell HE.out.b2 1).trans rfl; have q2_2 : w5.cell? ⟨g2, 2, none⟩ = some (.int .i64 0) := (blk_cell HE.out.b2 2).trans rfl; have q2_3 : w5.cell? ⟨g2, 3, none⟩ = some (.int .i64 0) := (blk_cell HE.out.b2 3).trans rfl; have q2_4 : w5.cell? ⟨g2, 4, none⟩ = some (.string ⟨#[]⟩) := (blk_cell HE.out.b2 4).trans rfl; have q2_5 : w5.cell? ⟨g2, 5, none⟩ = some (.int .i64 0) := (blk_cell HE.out.b2 5).trans rfl; have q2_6 : w5.cell? ⟨g2, 6, none⟩ = some (.int .i64 0) := (blk_cell HE.out.b2 6).trans rfl; have q2_7 : w5.cell? ⟨g2, 7, none⟩ = some (.slice none 0 0) := (blk_cell HE.out.b2 7).trans rfl; have z2_0 := blk_frozen HE.out.b2 0; have z2_1 := blk_frozen HE.out.b2 1; have z2_2 := blk_frozen HE.out.b2 2; have z2_3 := blk_frozen HE.out.b2 3; have z2_4 := blk_frozen HE.out.b2 4; have z2_5 := blk_frozen HE.out.b2 5; have z2_6 := blk_frozen HE.out.b2 6; have z2_7 := blk_frozen HE.out.b2 7; have n3 := blk_lt HE.out.b3; have n2 := blk_lt HE.out.b2; have n23 : g2 ≠ g3 := Nat.ne_of_lt HE.out.l3; have n32 : g3 ≠ g2 := Nat.ne_of_gt HE.out.l3))
    have HS := Aside0.mk (HE.out.set 2 (.int .i64 (1 + t)))
    have hb8 := put8 (v0 := .int .i64 x0) (v1 := .int .i64 x1) (v2 := .int .i64 (1 + t)) (v3 := .int .i64 0) (v4 := .string ⟨#[]⟩) (v5 := .int .i64 0) (v6 := .int .i64 0) (v7 := .slice none 0 0) HS.out.b2
    refine bodyPost_ret (results_cell_row rfl _ _ g2 28 #[.int .i64 x0, .int .i64 x1, .int .i64 (1 + t), .int .i64 0, .string ⟨#[]⟩, .int .i64 0, .int .i64 0, .slice none 0 0] (0, 0) _ rfl hb8 Try.underlying28 rfl (by kernel_rfl)) rfl ?_
    exact ⟨x0, x1, 1 + t, 0, ⟨#[]⟩, 0, 0, none, 0, [], rfl, WE_mk HX.out.1 HX.out.2 (Isml (by omega)) I64_0 (by show 0 ≤ 30; omega) I64_0 I64_0 (by simp) (by simp), Kd.R_nil _ _ _ _ _, d8 HS.out, k8 HS.out⟩
  case neg =>
  have u6 : (x0 == 6) = false := beq_eq_false_iff_ne.2 k6
  by_cases k9 : x0 = 9
  case pos =>
    have u9 : (x0 == 9) = true := beq_iff_eq.2 k9
    clear k1 k6 k9
    go_wp2_with (go_at_call 28; go_loud (with_reducible refine (pick_x (HE.out).d 5 (by decide)).mono ?_); go_loud (rintro e w5 ⟨t, rfl, ht, hd, hk⟩; have n_ := Aside0.mk (EW.step (HE.out) hd hk); clear HE hd hk; have HE := n_; clear n_; have e1 : IntKind.i64.wrap (1 + t) = 1 + t := wsml (by omega); have q3_0 : w5.cell? ⟨g3, 0, none⟩ = some (.int .i64 x0) := (blk_cell HE.out.b3 0).trans rfl; have q3_1 : w5.cell? ⟨g3, 1, none⟩ = some (.int .i64 x1) := (blk_cell HE.out.b3 1).trans rfl; have q3_2 : w5.cell? ⟨g3, 2, none⟩ = some (.int .i64 0) := (blk_cell HE.out.b3 2).trans rfl; have q3_3 : w5.cell? ⟨g3, 3, none⟩ = some (.int .i64 0) := (blk_cell HE.out.b3 3).trans rfl; have q3_4 : w5.cell? ⟨g3, 4, none⟩ = some (.string ⟨#[]⟩) := (blk_cell HE.out.b3 4).trans rfl; have q3_5 : w5.cell? ⟨g3, 5, none⟩ = some (.int .i64 0) := (blk_cell HE.out.b3 5).trans rfl; have q3_6 : w5.cell? ⟨g3, 6, none⟩ = some (.int .i64 0) := (blk_cell HE.out.b3 6).trans rfl; have q3_7 : w5.cell? ⟨g3, 7, none⟩ = some (.slice none 0 0) := (blk_cell HE.out.b3 7).trans rfl; have z3_0 := blk_frozen HE.out.b3 0; have z3_1 := blk_frozen HE.out.b3 1; have z3_2 := blk_frozen HE.out.b3 2; have z3_3 := blk_frozen HE.out.b3 3; have z3_4 := blk_frozen HE.out.b3 4; have z3_5 := blk_frozen HE.out.b3 5; have z3_6 := blk_frozen HE.out.b3 6; have z3_7 := blk_frozen HE.out.b3 7; have q2_0 : w5.cell? ⟨g2, 0, none⟩ = some (.int .i64 0) := (blk_cell HE.out.b2 0).trans rfl; have q2_1 : w5.cell? ⟨g2, 1, none⟩ = some (.int .i64 0) := (blk_cell HE.out.b2 1).trans rfl; have q2_2 : w5.cell? ⟨g2, 2, none⟩ = some (.int .i64 0) := (blk_cell HE.out.b2 2).trans rfl; have q2_3 : w5.cell? ⟨g2, 3, none⟩ = some (.int .i64 0) := (blk_cell HE.out.b2 3).trans rfl; have q2_4 : w5.cell? ⟨g2, 4, none⟩ = some (.string ⟨#[]⟩) := (blk_cell HE.out.b2 4).trans rfl; have q2_5 : w5.cell? ⟨g2, 5, none⟩ = some (.int .i64 0) := (blk_cell HE.out.b2 5).trans rfl; have q2_6 : w5.cell? ⟨g2, 6, none⟩ = some (.int .i64 0) := (blk_cell HE.out.b2 6).trans rfl; have q2_7 : w5.cell? ⟨g2, 7, none⟩ = some (.slice none 0 0) := (blk_cell HE.out.b2 7).trans rfl; have z2_0 := blk_frozen HE.out.b2 0; have z2_1 := blk_frozen HE.out.b2 1; have z2_2 := blk_frozen HE.out.b2 2; have z2_3 := blk_frozen HE.out.b2 3; have z2_4 := blk_frozen HE.out.b2 4; have z2_5 := blk_frozen HE.out.b2 5; have z2_6 := blk_frozen HE.out.b2 6; have z2_7 := blk_frozen HE.out.b2 7; have n3 := blk_lt HE.out.b3; have n2 := blk_lt HE.out.b2; have n23 : g2 ≠ g3 := Nat.ne_of_lt HE.out.l3; have n32 : g3 ≠ g2 := Nat.ne_of_gt HE.out.l3))
    have HS := Aside0.mk (HE.out.set 2 (.int .i64 (1 + t)))
    have hb8 := put8 (v0 := .int .i64 x0) (v1 := .int .i64 x1) (v2 := .int .i64 (1 + t)) (v3 := .int .i64 0) (v4 := .string ⟨#[]⟩) (v5 := .int .i64 0) (v6 := .int .i64 0) (v7 := .slice none 0 0) HS.out.b2
    refine bodyPost_ret (results_cell_row rfl _ _ g2 28 #[.int .i64 x0, .int .i64 x1, .int .i64 (1 + t), .int .i64 0, .string ⟨#[]⟩, .int .i64 0, .int .i64 0, .slice none 0 0] (0, 0) _ rfl hb8 Try.underlying28 rfl (by kernel_rfl)) rfl ?_
    exact ⟨x0, x1, 1 + t, 0, ⟨#[]⟩, 0, 0, none, 0, [], rfl, WE_mk HX.out.1 HX.out.2 (Isml (by omega)) I64_0 (by show 0 ≤ 30; omega) I64_0 I64_0 (by simp) (by simp), Kd.R_nil _ _ _ _ _, d8 HS.out, k8 HS.out⟩
  case neg =>
  have u9 : (x0 == 9) = false := beq_eq_false_iff_ne.2 k9
  by_cases k7 : x0 = 7
  case pos =>
    have u7 : (x0 == 7) = true := beq_iff_eq.2 k7
    clear k1 k6 k9 k7
    go_wp2_with (go_at_call 48; go_loud (with_reducible refine (text_x HE.out.d).mono ?_); go_loud (rintro e w5 ⟨t, rfl, ht, hd, hk⟩; have n_ := Aside0.mk (EW.step HE.out hd hk); clear HE hd hk; have HE := n_; clear n_; have q3_0 : w5.cell? ⟨g3, 0, none⟩ = some (.int .i64 x0) := (blk_cell HE.out.b3 0).trans rfl; have q3_1 : w5.cell? ⟨g3, 1, none⟩ = some (.int .i64 x1) := (blk_cell HE.out.b3 1).trans rfl; have q3_2 : w5.cell? ⟨g3, 2, none⟩ = some (.int .i64 0) := (blk_cell HE.out.b3 2).trans rfl; have q3_3 : w5.cell? ⟨g3, 3, none⟩ = some (.int .i64 0) := (blk_cell HE.out.b3 3).trans rfl; have q3_4 : w5.cell? ⟨g3, 4, none⟩ = some (.string ⟨#[]⟩) := (blk_cell HE.out.b3 4).trans rfl; have q3_5 : w5.cell? ⟨g3, 5, none⟩ = some (.int .i64 0) := (blk_cell HE.out.b3 5).trans rfl; have q3_6 : w5.cell? ⟨g3, 6, none⟩ = some (.int .i64 0) := (blk_cell HE.out.b3 6).trans rfl; have q3_7 : w5.cell? ⟨g3, 7, none⟩ = some (.slice none 0 0) := (blk_cell HE.out.b3 7).trans rfl; have z3_0 := blk_frozen HE.out.b3 0; have z3_1 := blk_frozen HE.out.b3 1; have z3_2 := blk_frozen HE.out.b3 2; have z3_3 := blk_frozen HE.out.b3 3; have z3_4 := blk_frozen HE.out.b3 4; have z3_5 := blk_frozen HE.out.b3 5; have z3_6 := blk_frozen HE.out.b3 6; have z3_7 := blk_frozen HE.out.b3 7; have q2_0 : w5.cell? ⟨g2, 0, none⟩ = some (.int .i64 0) := (blk_cell HE.out.b2 0).trans rfl; have q2_1 : w5.cell? ⟨g2, 1, none⟩ = some (.int .i64 0) := (blk_cell HE.out.b2 1).trans rfl; have q2_2 : w5.cell? ⟨g2, 2, none⟩ = some (.int .i64 0) := (blk_cell HE.out.b2 2).trans rfl; have q2_3 : w5.cell? ⟨g2, 3, none⟩ = some (.int .i64 0) := (blk_cell HE.out.b2 3).trans rfl; have q2_4 : w5.cell? ⟨g2, 4, none⟩ = some (.string ⟨#[]⟩) := (blk_cell HE.out.b2 4).trans rfl; have q2_5 : w5.cell? ⟨g2, 5, none⟩ = some (.int .i64 0) := (blk_cell HE.out.b2 5).trans rfl; have q2_6 : w5.cell? ⟨g2, 6, none⟩ = some (.int .i64 0) := (blk_cell HE.out.b2 6).trans rfl; have q2_7 : w5.cell? ⟨g2, 7, none⟩ = some (.slice none 0 0) := (blk_cell HE.out.b2 7).trans rfl; have z2_0 := blk_frozen HE.out.b2 0; have z2_1 := blk_frozen HE.out.b2 1; have z2_2 := blk_frozen HE.out.b2 2; have z2_3 := blk_frozen HE.out.b2 3; have z2_4 := blk_frozen HE.out.b2 4; have z2_5 := blk_frozen HE.out.b2 5; have z2_6 := blk_frozen HE.out.b2 6; have z2_7 := blk_frozen HE.out.b2 7; have n3 := blk_lt HE.out.b3; have n2 := blk_lt HE.out.b2; have n23 : g2 ≠ g3 := Nat.ne_of_lt HE.out.l3; have n32 : g3 ≠ g2 := Nat.ne_of_gt HE.out.l3))
    have HS := Aside0.mk (HE.out.set 4 (.string t))
    have hb8 := put8 (v0 := .int .i64 x0) (v1 := .int .i64 x1) (v2 := .int .i64 0) (v3 := .int .i64 0) (v4 := .string t) (v5 := .int .i64 0) (v6 := .int .i64 0) (v7 := .slice none 0 0) HS.out.b2
    refine bodyPost_ret (results_cell_row rfl _ _ g2 28 #[.int .i64 x0, .int .i64 x1, .int .i64 0, .int .i64 0, .string t, .int .i64 0, .int .i64 0, .slice none 0 0] (0, 0) _ rfl hb8 Try.underlying28 rfl (by kernel_rfl)) rfl ?_
    exact ⟨x0, x1, 0, 0, t, 0, 0, none, 0, [], rfl, WE_mk HX.out.1 HX.out.2 I64_0 I64_0 ht I64_0 I64_0 (by simp) (by simp), Kd.R_nil _ _ _ _ _, d8 HS.out, k8 HS.out⟩
  case neg =>
  have u7 : (x0 == 7) = false := beq_eq_false_iff_ne.2 k7
  by_cases k11 : x0 = 11
  case pos =>
    have u11 : (x0 == 11) = true := beq_iff_eq.2 k11
    clear k1 k6 k9 k7 k11
    go_wp2_with (go_at_call 28; go_loud (with_reducible refine (pick_x (HE.out).d 3 (by decide)).mono ?_); go_loud (rintro e w5 ⟨t, rfl, ht, hd, hk⟩; have n_ := Aside0.mk (EW.step (HE.out) hd hk); clear HE hd hk; have HE := n_; clear n_; have q3_0 : w5.cell? ⟨g3, 0, none⟩ = some (.int .i64 x0) := (blk_cell HE.out.b3 0).trans rfl; have q3_1 : w5.cell? ⟨g3, 1, none⟩ = some (.int .i64 x1) := (blk_cell HE.out.b3 1).trans rfl; have q3_2 : w5.cell? ⟨g3, 2, none⟩ = some (.int .i64 0) := (blk_cell HE.out.b3 2).trans rfl; have q3_3 : w5.cell? ⟨g3, 3, none⟩ = some (.int .i64 0) := (blk_cell HE.out.b3 3).trans rfl; have q3_4 : w5.cell? ⟨g3, 4, none⟩ = some (.string ⟨#[]⟩) := (blk_cell HE.out.b3 4).trans rfl; have q3_5 : w5.cell? ⟨g3, 5, none⟩ = some (.int .i64 0) := (blk_cell HE.out.b3 5).trans rfl; have q3_6 : w5.cell? ⟨g3, 6, none⟩ = some (.int .i64 0) := (blk_cell HE.out.b3 6).trans rfl; have q3_7 : w5.cell? ⟨g3, 7, none⟩ = some (.slice none 0 0) := (blk_cell HE.out.b3 7).trans rfl; have z3_0 := blk_frozen HE.out.b3 0; have z3_1 := blk_frozen HE.out.b3 1; have z3_2 := blk_frozen HE.out.b3 2; have z3_3 := blk_frozen HE.out.b3 3; have z3_4 := blk_frozen HE.out.b3 4; have z3_5 := blk_frozen HE.out.b3 5; have z3_6 := blk_frozen HE.out.b3 6; have z3_7 := blk_frozen HE.out.b3 7; have q2_0 : w5.cell? ⟨g2, 0, none⟩ = some (.int .i64 0) := (blk_cell HE.out.b2 0).trans rfl; have q2_1 : w5.cell? ⟨g2, 1, none⟩ = some (.int .i64 0) := (blk_cell HE.out.b2 1).trans rfl; have q2_2 : w5.cell? ⟨g2, 2, none⟩ = some (.int .i64 0) := (blk_cell HE.out.b2 2).trans rfl; have q2_3 : w5.cell? ⟨g2, 3, none⟩ = some (.int .i64 0) := (blk_cell HE.out.b2 3).trans rfl; have q2_4 : w5.cell? ⟨g2, 4, none⟩ = some (.string ⟨#[]⟩) := (blk_cell HE.out.b2 4).trans rfl; have q2_5 : w5.cell? ⟨g2, 5, none⟩ = some (.int .i64 0) := (blk_cell HE.out.b2 5).trans rfl; have q2_6 : w5.cell? ⟨g2, 6, none⟩ = some (.int .i64 0) := (blk_cell HE.out.b2 6).trans rfl; have q2_7 : w5.cell? ⟨g2, 7, none⟩ = some (.slice none 0 0) := (blk_cell HE.out.b2 7).trans rfl; have z2_0 := blk_frozen HE.out.b2 0; have z2_1 := blk_frozen HE.out.b2 1; have z2_2 := blk_frozen HE.out.b2 2; have z2_3 := blk_frozen HE.out.b2 3; have z2_4 := blk_frozen HE.out.b2 4; have z2_5 := blk_frozen HE.out.b2 5; have z2_6 := blk_frozen HE.out.b2 6; have z2_7 := blk_frozen HE.out.b2 7; have n3 := blk_lt HE.out.b3; have n2 := blk_lt HE.out.b2; have n23 : g2 ≠ g3 := Nat.ne_of_lt HE.out.l3; have n32 : g3 ≠ g2 := Nat.ne_of_gt HE.out.l3))
    have HS := Aside0.mk (HE.out.set 3 (.int .i64 t))
    have hb8 := put8 (v0 := .int .i64 x0) (v1 := .int .i64 x1) (v2 := .int .i64 0) (v3 := .int .i64 t) (v4 := .string ⟨#[]⟩) (v5 := .int .i64 0) (v6 := .int .i64 0) (v7 := .slice none 0 0) HS.out.b2
    refine bodyPost_ret (results_cell_row rfl _ _ g2 28 #[.int .i64 x0, .int .i64 x1, .int .i64 0, .int .i64 t, .string ⟨#[]⟩, .int .i64 0, .int .i64 0, .slice none 0 0] (0, 0) _ rfl hb8 Try.underlying28 rfl (by kernel_rfl)) rfl ?_
    exact ⟨x0, x1, 0, t, ⟨#[]⟩, 0, 0, none, 0, [], rfl, WE_mk HX.out.1 HX.out.2 I64_0 (Isml (by omega)) (by show 0 ≤ 30; omega) I64_0 I64_0 (by simp) (by simp), Kd.R_nil _ _ _ _ _, d8 HS.out, k8 HS.out⟩
  case neg =>
  have u11 : (x0 == 11) = false := beq_eq_false_iff_ne.2 k11
  by_cases k13 : x0 = 13
  case pos =>
    have u13 : (x0 == 13) = true := beq_iff_eq.2 k13
    clear k1 k6 k9 k7 k11 k13
    go_wp2_with (first | (go_at_call 28; go_loud (with_reducible refine (pick_x (HE.out).d 5 (by decide)).mono ?_); go_loud (rintro e w5 ⟨t, rfl, ht, hd, hk⟩; have n_ := Aside0.mk (EW.step (HE.out) hd hk); clear HE hd hk; have HE := n_; clear n_; have e1 : IntKind.i64.wrap (1 + t) = 1 + t := wsml (by omega); have q3_0 : w5.cell? ⟨g3, 0, none⟩ = some (.int .i64 x0) := (blk_cell HE.out.b3 0).trans rfl; have q3_1 : w5.cell? ⟨g3, 1, none⟩ = some (.int .i64 x1) := (blk_cell HE.out.b3 1).trans rfl; have q3_2 : w5.cell? ⟨g3, 2, none⟩ = some (.int .i64 0) := (blk_cell HE.out.b3 2).trans rfl; have q3_3 : w5.cell? ⟨g3, 3, none⟩ = some (.int .i64 0) := (blk_cell HE.out.b3 3).trans rfl; have q3_4 : w5.cell? ⟨g3, 4, none⟩ = some (.string ⟨#[]⟩) := (blk_cell HE.out.b3 4).trans rfl; have q3_5 : w5.cell? ⟨g3, 5, none⟩ = some (.int .i64 0) := (blk_cell HE.out.b3 5).trans rfl; have q3_6 : w5.cell? ⟨g3, 6, none⟩ = some (.int .i64 0) := (blk_cell HE.out.b3 6).trans rfl; have q3_7 : w5.cell? ⟨g3, 7, none⟩ = some (.slice none 0 0) := (blk_cell HE.out.b3 7).trans rfl; have z3_0 := blk_frozen HE.out.b3 0; have z3_1 := blk_frozen HE.out.b3 1; have z3_2 := blk_frozen HE.out.b3 2; have z3_3 := blk_frozen HE.out.b3 3; have z3_4 := blk_frozen HE.out.b3 4; have z3_5 := blk_frozen HE.out.b3 5; have z3_6 := blk_frozen HE.out.b3 6; have z3_7 := blk_frozen HE.out.b3 7; have q2_0 : w5.cell? ⟨g2, 0, none⟩ = some (.int .i64 0) := (blk_cell HE.out.b2 0).trans rfl; have q2_1 : w5.cell? ⟨g2, 1, none⟩ = some (.int .i64 0) := (blk_cell HE.out.b2 1).trans rfl; have q2_2 : w5.cell? ⟨g2, 2, none⟩ = some (.int .i64 0) := (blk_cell HE.out.b2 2).trans rfl; have q2_3 : w5.cell? ⟨g2, 3, none⟩ = some (.int .i64 0) := (blk_cell HE.out.b2 3).trans rfl; have q2_4 : w5.cell? ⟨g2, 4, none⟩ = some (.string ⟨#[]⟩) := (blk_cell HE.out.b2 4).trans rfl; have q2_5 : w5.cell? ⟨g2, 5, none⟩ = some (.int .i64 0) := (blk_cell HE.out.b2 5).trans rfl; have q2_6 : w5.cell? ⟨g2, 6, none⟩ = some (.int .i64 0) := (blk_cell HE.out.b2 6).trans rfl; have q2_7 : w5.cell? ⟨g2, 7, none⟩ = some (.slice none 0 0) := (blk_cell HE.out.b2 7).trans rfl; have z2_0 := blk_frozen HE.out.b2 0; have z2_1 := blk_frozen HE.out.b2 1; have z2_2 := blk_frozen HE.out.b2 2; have z2_3 := blk_frozen HE.out.b2 3; have z2_4 := blk_frozen HE.out.b2 4; have z2_5 := blk_frozen HE.out.b2 5; have z2_6 := blk_frozen HE.out.b2 6; have z2_7 := blk_frozen HE.out.b2 7; have n3 := blk_lt HE.out.b3; have n2 := blk_lt HE.out.b2; have n23 : g2 ≠ g3 := Nat.ne_of_lt HE.out.l3; have n32 : g3 ≠ g2 := Nat.ne_of_gt HE.out.l3)) | (go_at_call 49; go_loud (with_reducible refine (proof_x (HE.out.set 2 (.int .i64 (1 + t))).d (1 + t) (by omega)).mono ?_); go_loud (rintro e w6 ⟨y5, y6, gr, ss, rfl, hy, hR, hl, hs, hd, hk⟩; have hlo := Kd.R_base hR gr rfl; have n_ := Aside0.mk (EW.step (HE.out.set 2 (.int .i64 (1 + t))) hd hk); have HRB := Aside0.mk hR; have HLS := Aside0.mk hl; have HSS := Aside0.mk hs; have HSZ := Aside0.mk (HE.out.set 2 (.int .i64 (1 + t))); have HY := Aside0.mk hy; clear HE hd hk hR hl hs hy; have HE := n_; clear n_; have q3_0 : w6.cell? ⟨g3, 0, none⟩ = some (.int .i64 x0) := (blk_cell HE.out.b3 0).trans rfl; have q3_1 : w6.cell? ⟨g3, 1, none⟩ = some (.int .i64 x1) := (blk_cell HE.out.b3 1).trans rfl; have q3_2 : w6.cell? ⟨g3, 2, none⟩ = some (.int .i64 (1 + t)) := (blk_cell HE.out.b3 2).trans rfl; have q3_3 : w6.cell? ⟨g3, 3, none⟩ = some (.int .i64 0) := (blk_cell HE.out.b3 3).trans rfl; have q3_4 : w6.cell? ⟨g3, 4, none⟩ = some (.string ⟨#[]⟩) := (blk_cell HE.out.b3 4).trans rfl; have q3_5 : w6.cell? ⟨g3, 5, none⟩ = some (.int .i64 0) := (blk_cell HE.out.b3 5).trans rfl; have q3_6 : w6.cell? ⟨g3, 6, none⟩ = some (.int .i64 0) := (blk_cell HE.out.b3 6).trans rfl; have q3_7 : w6.cell? ⟨g3, 7, none⟩ = some (.slice none 0 0) := (blk_cell HE.out.b3 7).trans rfl; have z3_0 := blk_frozen HE.out.b3 0; have z3_1 := blk_frozen HE.out.b3 1; have z3_2 := blk_frozen HE.out.b3 2; have z3_3 := blk_frozen HE.out.b3 3; have z3_4 := blk_frozen HE.out.b3 4; have z3_5 := blk_frozen HE.out.b3 5; have z3_6 := blk_frozen HE.out.b3 6; have z3_7 := blk_frozen HE.out.b3 7; have q2_0 : w6.cell? ⟨g2, 0, none⟩ = some (.int .i64 0) := (blk_cell HE.out.b2 0).trans rfl; have q2_1 : w6.cell? ⟨g2, 1, none⟩ = some (.int .i64 0) := (blk_cell HE.out.b2 1).trans rfl; have q2_2 : w6.cell? ⟨g2, 2, none⟩ = some (.int .i64 0) := (blk_cell HE.out.b2 2).trans rfl; have q2_3 : w6.cell? ⟨g2, 3, none⟩ = some (.int .i64 0) := (blk_cell HE.out.b2 3).trans rfl; have q2_4 : w6.cell? ⟨g2, 4, none⟩ = some (.string ⟨#[]⟩) := (blk_cell HE.out.b2 4).trans rfl; have q2_5 : w6.cell? ⟨g2, 5, none⟩ = some (.int .i64 0) := (blk_cell HE.out.b2 5).trans rfl; have q2_6 : w6.cell? ⟨g2, 6, none⟩ = some (.int .i64 0) := (blk_cell HE.out.b2 6).trans rfl; have q2_7 : w6.cell? ⟨g2, 7, none⟩ = some (.slice none 0 0) := (blk_cell HE.out.b2 7).trans rfl; have z2_0 := blk_frozen HE.out.b2 0; have z2_1 := blk_frozen HE.out.b2 1; have z2_2 := blk_frozen HE.out.b2 2; have z2_3 := blk_frozen HE.out.b2 3; have z2_4 := blk_frozen HE.out.b2 4; have z2_5 := blk_frozen HE.out.b2 5; have z2_6 := blk_frozen HE.out.b2 6; have z2_7 := blk_frozen HE.out.b2 7; have n3 := blk_lt HE.out.b3; have n2 := blk_lt HE.out.b2; have n23 : g2 ≠ g3 := Nat.ne_of_lt HE.out.l3; have n32 : g3 ≠ g2 := Nat.ne_of_gt HE.out.l3)))
    have hl3 := blk_lt HSZ.out.b3
    have hl2 := blk_lt HSZ.out.b2
    have ne3 : some g3 ≠ (Value.slice (some ⟨gr, 0, none⟩) 2 2).ownBlock := by simp only [Value.ownBlock, ne_eq, Option.some.injEq]; omega
    have ne2 : some g2 ≠ (Value.slice (some ⟨gr, 0, none⟩) 2 2).ownBlock := by simp only [Value.ownBlock, ne_eq, Option.some.injEq]; omega
    have HR6 := Aside0.mk (R_farN (R_farN (R_farN (Kd.R_lower HRB.out HSZ.out.k.1) ne3 5 (.int .i64 y5)) ne3 6 (.int .i64 y6)) ne3 7 (.slice (some ⟨gr, 0, none⟩) 2 2))
    have HS := Aside0.mk (((HE.out.set 5 (.int .i64 y5)).set 6 (.int .i64 y6)).set 7 (.slice (some ⟨gr, 0, none⟩) 2 2))
    have hb8 := put8 (v0 := .int .i64 x0) (v1 := .int .i64 x1) (v2 := .int .i64 (1 + t)) (v3 := .int .i64 0) (v4 := .string ⟨#[]⟩) (v5 := .int .i64 y5) (v6 := .int .i64 y6) (v7 := .slice (some ⟨gr, 0, none⟩) 2 2) HS.out.b2
    refine bodyPost_ret (results_cell_row rfl _ _ g2 28 #[.int .i64 x0, .int .i64 x1, .int .i64 (1 + t), .int .i64 0, .string ⟨#[]⟩, .int .i64 y5, .int .i64 y6, .slice (some ⟨gr, 0, none⟩) 2 2] (0, 0) _ rfl hb8 Try.underlying28 rfl (by kernel_rfl)) rfl ?_
    exact ⟨x0, x1, 1 + t, 0, ⟨#[]⟩, y5, y6, some ⟨gr, 0, none⟩, 2, ss, by rw [HLS.out], WE_mk HX.out.1 HX.out.2 (Isml (by omega)) I64_0 (by show 0 ≤ 30; omega) HY.out.1 HY.out.2 (Nat.le_of_eq HLS.out) HSS.out, by rw [HLS.out]; exact R8 HR6.out ne2, d8 HS.out, k8 HS.out⟩
  case neg =>
  have u13 : (x0 == 13) = false := beq_eq_false_iff_ne.2 k13
  clear k1 k6 k9 k7 k11 k13
  go_wp2
  have HS := Aside0.mk (HE.out)
  have hb8 := put8 (v0 := .int .i64 x0) (v1 := .int .i64 x1) (v2 := .int .i64 0) (v3 := .int .i64 0) (v4 := .string ⟨#[]⟩) (v5 := .int .i64 0) (v6 := .int .i64 0) (v7 := .slice none 0 0) HS.out.b2
  refine bodyPost_ret (results_cell_row rfl _ _ g2 28 #[.int .i64 x0, .int .i64 x1, .int .i64 0, .int .i64 0, .string ⟨#[]⟩, .int .i64 0, .int .i64 0, .slice none 0 0] (0, 0) _ rfl hb8 Try.underlying28 rfl (by kernel_rfl)) rfl ?_
  exact ⟨x0, x1, 0, 0, ⟨#[]⟩, 0, 0, none, 0, [], rfl, WE_mk HX.out.1 HX.out.2 I64_0 I64_0 (by show 0 ≤ 30; omega) I64_0 I64_0 (by simp) (by simp), Kd.R_nil _ _ _ _ _, d8 HS.out, k8 HS.out⟩
end Go.Proofs.Ytcjdnahgffkbdaa.Spe

namespace Go.Proofs.Ytcjdnahgffkbdaa.Sps
open Go Go.RowKit Go.Proofs Go.Proofs.Ytcjdnahgffkbdaa.Gm Go.Proofs.Ytcjdnahgffkbdaa.Spt Go.Proofs.Ytcjdnahgffkbdaa.Snx Go.Proofs.Ytcjdnahgffkbdaa.Ssy Go.Proofs.Ytcjdnahgffkbdaa.Spd Go.Proofs.Ytcjdnahgffkbdaa.Spf Go.Proofs.Ytcjdnahgffkbdaa.Spe Go.Proofs.Ytcjdnahgffkbdaa.Srt Go.Proofs.Ytcjdnahgffkbdaa.Sdc Go.Proofs.Ytcjdnahgffkbdaa.Q Go.Proofs.YtcjdnahgffkbdaaW.PrintWords Go.Proofs.YtcjdnahgffkbdaaW.PrintLast Go.Proofs.YtcjdnahgffkbdaaW.PrintMore
set_option linter.unusedVariables false
structure VW (w W0 W : World) (gd : Nat) (L : List Int) (v : Value) (es : List S28) : Prop where
  d : DI w W gd L
  k : KeepBut W0 W gd none
  le : w.heap.size ≤ W0.heap.size
  cr : Kd.R k28 28 W W0.heap.size (fun _ => True) v es
  ok : ∀ x ∈ es, EvS x
section
variable {w W0 W W' : World} {gd : Nat} {L : List Int} {v v1 : Value} {es es' : List S28}
theorem VW.step (h : VW w W0 W gd L v es) (hd : DI w W' gd L) (hk : KeepBut W W' gd none) : VW w W0 W' gd L v es := by
  obtain ⟨cs, hc⟩ := h.d.blk
  exact ⟨hd, h.k.trans hk (.inl rfl), h.le, Kd.R_mono (Kd.R_keep (Kd.R_types h.cr hc (by first | decide | (intro q hq; rcases List.mem_cons.1 hq with h_ | h_; (subst h_; decide); (first | (cases h_; done) | (simp [k28, k26, k64] at h_; first | done | (subst h_; decide)))))) hk (fun _ z => z.2)) (fun _ _ => trivial), h.ok⟩
theorem VW.app (h : VW w W0 W gd L v es) (hr : Kd.R k28 28 W' W0.heap.size (fun _ => True) v1 es') (hg : W.grownBy W' v.ownBlock) (hok : ∀ x ∈ es', EvS x) : VW w W0 W' gd L v1 es' :=
  ⟨h.d.app h.cr (by decide) (h.d.hb.grown hg h.d.hb.size (fun b e => Nat.le_trans h.le (Kd.R_base h.cr b e))) hg, h.k.trans (KeepBut.of_grown hg gd) (by cases hv : v.ownBlock with | none => exact .inl rfl | some b => exact .inr ⟨b, rfl, Kd.R_base h.cr b hv⟩), h.le, hr, hok⟩
end
theorem all_snoc {es : List S28} {x : S28} (h : ∀ y ∈ es, EvS y) (hx : EvS x) : ∀ y ∈ es ++ [x], EvS y := by
  intro y hy
  rcases List.mem_append.1 hy with z | z
  · exact h y z
  · rcases List.mem_singleton.1 z with rfl
    exact hx
set_option maxRecDepth 100000 in
set_option maxHeartbeats 8000000 in
theorem events_x {w W : World} {gd : Nat} {L : List Int} (h : DI w W gd L) (most : Nat) (hm : most ≤ 100) : Calls Try.prog 13 #[.pointer (some ⟨gd, 0, none⟩), .int .i64 (most : Int)] W fun e w' =>
    ∃ (A : Option Addr) (c : Nat) (es : List S28), e = .returned (.slice A es.length c) ∧ Kd.R k28 28 w' W.heap.size (fun _ => True) (.slice A es.length c) es ∧ (∀ x ∈ es, EvS x) ∧ (4 ≤ es.length ∧ es.length ≤ 5 + most) ∧ DI w w' gd L ∧ KeepBut W w' gd none := by
  have hu28 := Try.underlying28
  have hu26 := Try.underlying26
  have HX : Aside0 (VW w W W gd L (.slice none 0 0) []) := ⟨⟨h, KeepBut.refl _ _ _, h.hb.size, Kd.R_nil _ _ _ _ _, by simp⟩⟩
  have hwm : IntKind.i64.wrap ((most : Int) + 1) = (most : Int) + 1 := IntWalk.i64_in _ (by omega)
  clear h
  go_enter Try.func13, Try.ntmps13
  go_wp2
  go_loopw [5, 6] (fun s5 s6 wr => ∃ (i : Nat) (acc : List S28) (v : Value), s5 = v ∧ s6 = .int .i64 i ∧ i ≤ 5 ∧ Aside0 (acc.length = i) ∧ Aside0 (VW w W wr gd L v acc)) (fun _ s6 _ => 6 - (intOf s6).toNat)
  case atStart => exact ⟨0, [], _, rfl, rfl, by omega, ⟨rfl⟩, HX⟩
  case round =>
    clear HX
    obtain ⟨i, acc, v, rfl, rfl, hi, hai, HX⟩ := hrel
    obtain ⟨A, c, hv⟩ := Kd.R_slice HX.out.cr
    subst hv
    go_upto_region 3 with fail
    go_cut [12] (fun s12 wx => ∃ t : Int, s12 = .bool (decide ((i : Int) < 4 + t)) ∧ (0 ≤ t ∧ t < 2) ∧ Aside0 (VW w W wx gd L (.slice A acc.length c) acc))
    case first =>
      go_wp2_with (go_at_call 28; go_loud (with_reducible refine (pick_x HX.out.d 2 (by decide)).mono ?_); go_loud (rintro e w4 ⟨t, rfl, ht, hd, hk⟩; have n_ := Aside0.mk (HX.out.step hd hk); clear HX hd hk; have HX := n_; clear n_; have e1 : IntKind.i64.wrap (4 + t) = 4 + t := wsml (by omega)))
      go_meet
      exact ⟨t, rfl, ht, HX⟩
    case rest =>
    clear HX
    obtain ⟨t, rfl, ht, HX⟩ := hcut
    by_cases hlt : (i : Int) < 4 + t
    case pos =>
      have d0 := decide_eq_true hlt
      have hi5 : i < 5 := by omega
      have f1 : IntKind.i64.wrap ((i : Int) + 1) = (i : Int) + 1 := wsml (by omega)
      have f2 : IntKind.i64.wrap (2 * (i : Int)) = 2 * (i : Int) := wsml (by omega)
      have f3 : IntKind.i64.wrap (2 * (i : Int) + 3) = 2 * (i : Int) + 3 := wsml (by omega)
      have hle : (acc.length + 1) * 88 ≤ 140737488355328 := by have := hai.out; omega
      have HE : Aside0 (EvS ⟨1, (i : Int) + 1, 0, 2 * (i : Int) + 3, ⟨#[]⟩, ⟨0, 0, []⟩⟩) := ⟨WE_mk I64_1 (Isml (by omega)) I64_0 (Isml (by omega)) (by show 0 ≤ 30; omega) I64_0 I64_0 (by simp) (by simp)⟩
      go_wp2_with (at_builtin; go_loud (refine Kd.R_append k28 (w0 := wc) (W := wc) W.heap.size rfl (.tmp 15) (.tmp 22) 29 28 (.agg #[.int .i64 0, .int .i64 0, .int .i64 0, .int .i64 0, .string ⟨#[]⟩, .int .i64 0, .int .i64 0, .slice none 0 0]) 88 rfl Try.underlying29 Sdc.info28 rfl (by decide) (by omega) (.slice A acc.length c) acc ⟨1, (i : Int) + 1, 0, 2 * (i : Int) + 3, ⟨#[]⟩, ⟨0, 0, []⟩⟩ [.int .i64 1, .int .i64 ((i : Int) + 1), .int .i64 0, .int .i64 (2 * (i : Int) + 3), .string ⟨#[]⟩, .int .i64 0, .int .i64 0, .slice none 0 0] (fun _ => True) (fun k => True ∧ some k ≠ (Value.slice A acc.length c).ownBlock) rfl rfl (k28_mkM _ _ _ ⟨1, (i : Int) + 1, 0, 2 * (i : Int) + 3, ⟨#[]⟩, ⟨0, 0, []⟩⟩ (Kd.R_nil _ _ _ _ _)) (fun _ h => h) (fun _ _ => trivial) HX.out.cr (Below.refl _ _) HX.out.k.1 hle ?_); go_loud (intro v1 w2_ ho hb hg hat; obtain ⟨A2, c2, e2_⟩ := Kd.R_slice ho; subst e2_; have n_ := Aside0.mk (VW.app HX.out ho hg (all_snoc HX.out.ok HE.out)); clear HX ho hb hg hat; have HX := n_; clear n_))
      go_roundw
      case rel => exact ⟨i + 1, acc ++ [⟨1, (i : Int) + 1, 0, 2 * (i : Int) + 3, ⟨#[]⟩, ⟨0, 0, []⟩⟩], _, by simp, by go_num, by omega, ⟨by simp [hai.out]⟩, HX⟩
      case measure => simp only [intOf]; omega
    case neg =>
      have d0 := decide_eq_false hlt
      have HL := Aside0.mk (show 4 ≤ acc.length ∧ acc.length ≤ 5 by have := hai.out; omega)
      clear hai hi
      go_wp2_with (go_at_call 28; go_loud (with_reducible refine (pick_x HX.out.d ((most : Int) + 1) (by omega)).mono ?_); go_loud (rintro e w5 ⟨m0, rfl, hm0, hd, hk⟩; have n_ := Aside0.mk (HX.out.step hd hk); clear HX hd hk; have HX := n_; clear n_))
      obtain ⟨m1, rfl⟩ : ∃ m : Nat, m0 = (m : Int) := ⟨m0.toNat, by omega⟩
      have HM1 := Aside0.mk (show m1 ≤ most by omega)
      clear hm0
      go_loopw [5, 7] (fun s5 s7 wr => ∃ (m : Nat) (es : List S28) (v : Value), s5 = v ∧ s7 = .int .i64 m ∧ m ≤ 100 ∧ Aside0 (4 ≤ es.length ∧ es.length + m ≤ 5 + most) ∧ Aside0 (VW w W wr gd L v es)) (fun _ s7 _ => (intOf s7).toNat)
      case atStart => exact ⟨m1, acc, _, rfl, rfl, by have := HM1.out; omega, ⟨by have := HM1.out; have := HL.out; omega⟩, HX⟩
      case round =>
        clear HX HL
        obtain ⟨m, acc, v, rfl, rfl, hmm, HL, HX⟩ := hrel
        obtain ⟨A, c, hv⟩ := Kd.R_slice HX.out.cr
        subst hv
        by_cases hm0 : m = 0
        case pos =>
          subst hm0
          rw [show ((0 : Nat) : Int) = 0 from rfl]
          go_wp2
          go_ret
          exact ⟨A, c, acc, rfl, HX.out.cr, HX.out.ok, by have := HL.out; omega, HX.out.d, HX.out.k⟩
        case neg =>
          have d0 : decide (0 < (m : Int)) = true := decide_eq_true (by omega)
          have hm1 : IntKind.i64.wrap ((m : Int) - 1) = ((m - 1 : Nat) : Int) := by rw [IntWalk.i64_in _ (by omega)]; omega
          have hle : (acc.length + 1) * 88 ≤ 140737488355328 := by have := HL.out; omega
          go_wp2_with (first | (at_builtin; go_loud (refine Kd.R_append k28 (w0 := w6) (W := w6) W.heap.size rfl (.tmp 32) (.tmp 35) 29 28 (.agg #[.int .i64 0, .int .i64 0, .int .i64 0, .int .i64 0, .string ⟨#[]⟩, .int .i64 0, .int .i64 0, .slice none 0 0]) 88 rfl Try.underlying29 Sdc.info28 rfl (by decide) (by omega) (.slice A acc.length c) acc ⟨x0, x1, x2, x3, t, ⟨x5, x6, ss⟩⟩ [.int .i64 x0, .int .i64 x1, .int .i64 x2, .int .i64 x3, .string t, .int .i64 x5, .int .i64 x6, .slice AS ss.length cS] (fun _ => True) (fun k => True ∧ some k ≠ (Value.slice A acc.length c).ownBlock) rfl rfl (k28_mkM _ _ _ ⟨x0, x1, x2, x3, t, ⟨x5, x6, ss⟩⟩ HRS.out) (fun _ h => h) (fun _ _ => trivial) HX.out.cr (Below.refl _ _) HX.out.k.1 hle ?_); go_loud (intro v1 w2_ ho hb hg hat; obtain ⟨A2, c2, e2_⟩ := Kd.R_slice ho; subst e2_; have n_ := Aside0.mk (VW.app HX.out ho hg (all_snoc HX.out.ok HES.out)); clear HX ho hb hg hat; have HX := n_; clear n_)) | (go_at_call 29; go_loud (with_reducible refine (event_x HX.out.d).mono ?_); go_loud (rintro e w6 ⟨x0, x1, x2, x3, t, x5, x6, AS, cS, ss, rfl, hE, hR, hd, hk⟩; obtain ⟨inn, hown⟩ := Kd.R_own HX.out.cr; have HRS := Aside0.mk (Kd.R_lower (Kd.R_new hR hown) HX.out.k.1); have HES := Aside0.mk hE; have n_ := Aside0.mk (HX.out.step hd hk); clear HX hd hk hR hown hE; have HX := n_; clear n_)))
          go_roundw
          case rel => exact ⟨m - 1, acc ++ [⟨x0, x1, x2, x3, t, ⟨x5, x6, ss⟩⟩], _, by simp, by go_num, by omega, ⟨by have := HL.out; simp; omega⟩, HX⟩
          case measure => simp only [intOf]; omega
end Go.Proofs.Ytcjdnahgffkbdaa.Sps

namespace Go.Proofs.Ytcjdnahgffkbdaa.Sri
open Go Go.RowKit Go.Proofs Go.Proofs.Ytcjdnahgffkbdaa.Gm Go.Proofs.Ytcjdnahgffkbdaa.Gwa Go.Proofs.Ytcjdnahgffkbdaa.Gwb Go.Proofs.Ytcjdnahgffkbdaa.Gwd Go.Proofs.Ytcjdnahgffkbdaa.Srd Go.Proofs.Ytcjdnahgffkbdaa.Srs Go.Proofs.Ytcjdnahgffkbdaa.Sst Go.Proofs.Ytcjdnahgffkbdaa.Sev Go.Proofs.Ytcjdnahgffkbdaa.Sgt Go.Proofs.Ytcjdnahgffkbdaa.Sdc Go.Proofs.Ytcjdnahgffkbdaa.Spt Go.Proofs.Ytcjdnahgffkbdaa.Sen Go.Proofs.Ytcjdnahgffkbdaa.Srt Go.Proofs.Ytcjdnahgffkbdaa.Q
set_option linter.unusedVariables false
structure Sp (L : List UInt8) (a b : Int) (t : List UInt8) : Prop where
  h0 : 0 ≤ a
  hb : b = a + t.length
  hl : b ≤ L.length
  tk : (L.drop a.toNat).take t.length = t
section
variable {L t u : List UInt8} {a b c : Int}
theorem Sp.app (h : Sp L a b t) (k : Sp L b c u) : Sp L a c (t ++ u) := by
  refine ⟨h.h0, by rw [k.hb, h.hb, List.length_append]; omega, k.hl, ?_⟩
  have e : b.toNat = a.toNat + t.length := by have := h.hb; have := h.h0; omega
  rw [List.length_append, List.take_add, h.tk, List.drop_drop, ← e, k.tk]
theorem int_sp {n : Int} (h : intAt (B L) a = (n, b, 0)) : Sp L a b (putI n) ∧ I64 n := by
  obtain ⟨h1, h2, h3, h4, h5, h6, h7, h8⟩ := intAt_ok h
  exact ⟨⟨h1, by omega, h3, by rw [← h7]; congr 1; rw [h7]; omega⟩, h5, h6⟩
theorem rI_sp {er n : Int} (h : rI L a er = (n, b, 0)) : er = 0 ∧ Sp L a b (putI n) ∧ I64 n := by
  unfold rI th at h
  split at h
  · simp only [Prod.mk.injEq] at h
    omega
  case isFalse h0 =>
    split at h
    · simp only [Prod.mk.injEq] at h
      omega
    case isFalse h1 =>
      rcases hi : intAt (B L) a with ⟨y, d, e⟩
      rw [hi] at h h1
      simp only [Prod.mk.injEq, and_true] at h
      obtain ⟨rfl, rfl⟩ := h
      have he : e = 0 := by simpa using h1
      subst he
      exact ⟨by simpa using h0, int_sp hi⟩
theorem rdN_sp : ∀ (n : Nat) (a : Int) (acc xs : List Int) (b : Int), rdN L n a acc = (xs, b, 0) → 0 ≤ a → a ≤ L.length → ∃ ys, xs = acc ++ ys ∧ ys.length = n ∧ Sp L a b (ys.flatMap putI) ∧ ∀ y ∈ ys, I64 y
  | 0, a, acc, xs, b, h, h0, hl => by
    simp only [rdN, Prod.mk.injEq, and_true] at h
    obtain ⟨rfl, rfl⟩ := h
    exact ⟨[], by simp, rfl, ⟨h0, by simp, hl, by simp⟩, by simp⟩
  | n + 1, a, acc, xs, b, h, h0, hl => by
    rw [rdN] at h
    split at h
    case isTrue he =>
      rcases hi : intAt (B L) a with ⟨y, d, e⟩
      rw [hi] at h he
      simp only at h he
      subst he
      obtain ⟨s1, s2⟩ := int_sp hi
      obtain ⟨ys, e1, e2, e3, e4⟩ := rdN_sp n d _ xs b h (by have := s1.hb; omega) s1.hl
      exact ⟨y :: ys, by rw [e1]; simp, by simp [e2], by have := s1.app e3; simpa using this, fun z hz => by
        rcases List.mem_cons.1 hz with rfl | hz
        · exact s2
        · exact e4 z hz⟩
    · simp at h
      omega
theorem list_sp {m : Int} {xs : List Int} (h : listAt L a m = (xs, b, 0)) : Sp L a b (putL xs) ∧ ∀ y ∈ xs, I64 y := by
  unfold listAt at h
  split at h
  case isTrue he =>
    rcases hc : countAt L a m with ⟨n, d, e⟩
    rw [hc] at h he
    simp only at h he
    subst he
    obtain ⟨c1, c2, c3⟩ := countAt_ok hc
    obtain ⟨s1, s2⟩ := int_sp c1
    obtain ⟨ys, e1, e2, e3, e4⟩ := rdN_sp n.toNat d [] xs b h (by have := s1.hb; have := s1.h0; omega) s1.hl
    rw [List.nil_append] at e1
    subst e1
    have hn : n = (xs.length : Int) := by omega
    subst hn
    exact ⟨by unfold putL; exact s1.app e3, e4⟩
  · simp at h
    omega
theorem text_sp {m : Int} {t : ByteArray} (h : textAt L a m = (t, b, 0)) : ∃ tl, t = B tl ∧ (tl.length : Int) ≤ m ∧ Sp L a b (putI tl.length ++ tl) := by
  unfold textAt at h
  split at h
  case isTrue he =>
    rcases hc : countAt L a m with ⟨n, d, e⟩
    rw [hc] at h he
    simp only at h he
    subst he
    obtain ⟨c1, c2, c3⟩ := countAt_ok hc
    obtain ⟨s1, s2⟩ := int_sp c1
    split at h
    · simp at h
    case isFalse hn =>
      simp only [Prod.mk.injEq, and_true] at h
      obtain ⟨rfl, rfl⟩ := h
      have hd : 0 ≤ d := by have := s1.hb; have := s1.h0; omega
      have hl : ((L.drop d.toNat).take n.toNat).length = n.toNat := by rw [List.length_take, List.length_drop]; omega
      refine ⟨_, rfl, by rw [hl]; omega, ?_⟩
      rw [hl, show ((n.toNat : Nat) : Int) = n by omega]
      exact s1.app ⟨hd, by rw [hl]; omega, by omega, by rw [hl]⟩
  · simp at h
    omega
theorem th_ok {α : Type} {z x : α} {p : α × Int × Int} {er : Int} (h : th z p a er = (x, b, 0)) : er = 0 ∧ p = (x, b, 0) := by
  unfold th at h
  split at h
  · simp only [Prod.mk.injEq] at h
    omega
  case isFalse h0 =>
    split at h
    · simp only [Prod.mk.injEq] at h
      omega
    case isFalse h1 =>
      obtain ⟨y, d, e⟩ := p
      simp only [Prod.mk.injEq, and_true] at h
      obtain ⟨rfl, rfl⟩ := h
      exact ⟨by simpa using h0, by simp only [Prod.mk.injEq, true_and]; simpa using h1⟩
theorem nums_stOf {xs : List Int} (h : xs.length = 11) : Spt.nums (stOf xs) = xs := by
  match xs, h with
  | [y0, y1, y2, y3, y4, y5, y6, y7, y8, y9, y10], _ => rfl
theorem rS_sp {er : Int} {s : S64} (h : rS L a er = (s, b, 0)) : er = 0 ∧ Sp L a b (putL (Spt.nums s)) ∧ W11 s := by
  unfold rS at h
  rcases hp : th ([] : List Int) (listAt L a 11) a er with ⟨xs, d, e⟩
  rw [hp] at h
  simp only at h
  split at h
  case isTrue he =>
    subst he
    split at h
    case isTrue hl =>
      simp only [Prod.mk.injEq, and_true] at h
      obtain ⟨rfl, rfl⟩ := h
      obtain ⟨h0, h1⟩ := th_ok hp
      obtain ⟨g1, g2⟩ := list_sp h1
      refine ⟨h0, by rw [nums_stOf hl]; exact g1, fun x hx => ?_⟩
      rw [nums_stOf hl] at hx
      exact g2 x hx
    · simp at h
  case isFalse he =>
    simp only [Prod.mk.injEq] at h
    exact absurd h.2.2 he
theorem rSs_sp : ∀ (n : Nat) (acc ss : List S64) (a er : Int), rSs L n acc a er = (ss, b, 0) → 0 ≤ a → a ≤ L.length → er = 0 ∧ ∃ ts, ss = acc ++ ts ∧ ts.length = n ∧ Sp L a b (putS ts) ∧ ∀ s ∈ ts, W11 s
  | 0, acc, ss, a, er, h, h0, hl => by
    simp only [rSs, Prod.mk.injEq] at h
    obtain ⟨rfl, rfl, rfl⟩ := h
    exact ⟨rfl, [], by simp, rfl, ⟨h0, by simp [putS], hl, by simp [putS]⟩, by simp⟩
  | n + 1, acc, ss, a, er, h, h0, hl => by
    rw [rSs] at h
    split at h
    case isTrue he =>
      subst he
      rcases hs : rS L a 0 with ⟨s, d, e⟩
      rw [hs] at h
      simp only at h
      have key : e = 0 := by
        cases n with
        | zero => simp only [rSs, Prod.mk.injEq] at h; exact h.2.2
        | succ n =>
          rw [rSs] at h
          split at h
          · assumption
          · simp only [Prod.mk.injEq] at h; exact h.2.2
      subst key
      obtain ⟨-, s1, s2⟩ := rS_sp hs
      obtain ⟨-, ts, e1, e2, e3, e4⟩ := rSs_sp n _ ss d 0 h (by have := s1.hb; have := s1.h0; omega) s1.hl
      exact ⟨rfl, s :: ts, by rw [e1]; simp, by simp [e2], by have := s1.app e3; simpa [putS] using this, fun z hz => by
        rcases List.mem_cons.1 hz with rfl | hz
        · exact s2
        · exact e4 z hz⟩
    case isFalse he =>
      simp only [Prod.mk.injEq] at h
      exact absurd h.2.2 he
theorem rSs_er : ∀ (n : Nat) (acc ss : List S64) (a er : Int), rSs L n acc a er = (ss, b, 0) → er = 0
  | 0, acc, ss, a, er, h => by simp only [rSs, Prod.mk.injEq] at h; exact h.2.2
  | n + 1, acc, ss, a, er, h => by
    rw [rSs] at h
    split at h
    · assumption
    · simp only [Prod.mk.injEq] at h; exact h.2.2
theorem rC_ok {er n : Int} (h : rC L a er 256 = (n, b, 0)) : rI L a er = (n, b, 0) := by
  unfold rC at h
  split at h
  · simp at h
  · exact h
theorem st_sp {er : Int} {i : Nat} (h : (stI L a er (i + 1)).2 = 0) : (stI L a er i).2 = 0 ∧ Sp L (stI L a er i).1 (stI L a er (i + 1)).1 (putI (nmI L a er i)) ∧ I64 (nmI L a er i) := by
  have e := nm_step L a er i
  rw [h] at e
  exact rI_sp e
theorem rE_sp {er : Int} {x : S28} (h : rE L a er = (x, b, 0)) : er = 0 ∧ Sp L a b (putE x) ∧ okE x := by
  obtain ⟨t, tb, te, hT⟩ : ∃ t tb te, evT L a er = (t, tb, te) := ⟨_, _, _, rfl⟩
  obtain ⟨n, nb, ne_, hC⟩ : ∃ n nb ne_, evC L a er = (n, nb, ne_) := ⟨_, _, _, rfl⟩
  obtain ⟨ss, sb, se, hS⟩ : ∃ ss sb se, rSs L n.toNat [] nb ne_ = (ss, sb, se) := ⟨_, _, _, rfl⟩
  unfold rE at h
  simp only [hT, hC, hS, Prod.mk.injEq] at h
  obtain ⟨rfl, rfl, rfl⟩ := h
  obtain rfl := rSs_er _ _ _ _ _ hS
  unfold evC at hC
  rw [hT] at hC
  have hr := rC_range hC
  obtain ⟨g2, s7, i7⟩ := rI_sp (rC_ok hC)
  obtain ⟨g1, s6, i6⟩ := st_sp g2
  obtain ⟨g0, s5, i5⟩ := st_sp g1
  have hte : te = 0 := g0
  subst hte
  unfold evT at hT
  obtain ⟨f4, hx⟩ := th_ok hT
  obtain ⟨tl, rfl, hm, s4⟩ := text_sp hx
  obtain ⟨f3, s3, i3⟩ := st_sp f4
  obtain ⟨f2, s2, i2⟩ := st_sp f3
  obtain ⟨f1, s1, i1⟩ := st_sp f2
  obtain ⟨f0, s0, i0⟩ := st_sp f1
  obtain ⟨-, ts, e1, e2, s8, w8⟩ := rSs_sp _ _ _ _ _ hS (by have := s7.hb; have := s7.h0; omega) s7.hl
  rw [List.nil_append] at e1
  subst e1
  have hn : n = (ss.length : Int) := by omega
  subst hn
  refine ⟨f0, ?_, ⟨⟨i0, i1, i2, i3, i5, i6, w8⟩, by show (B tl).size ≤ 16384; rw [B_size]; omega, by show ss.length ≤ 256; omega⟩⟩
  have hall := ((((((((s0.app s1).app s2).app s3).app s4).app s5).app s6).app s7).app s8)
  have hp : putE ⟨nmI L a er 0, nmI L a er 1, nmI L a er 2, nmI L a er 3, B tl, ⟨nmI L tb 0 0, nmI L tb 0 1, ss⟩⟩ = (((((((putI (nmI L a er 0) ++ putI (nmI L a er 1)) ++ putI (nmI L a er 2)) ++ putI (nmI L a er 3)) ++ (putI tl.length ++ tl)) ++ putI (nmI L tb 0 0)) ++ putI (nmI L tb 0 1)) ++ putI ss.length) ++ putS ss := by simp [putE, B_data]
  rw [hp]
  exact hall
theorem rEs_er : ∀ (n : Nat) (acc xs : List S28) (a er : Int), rEs L n acc a er = (xs, b, 0) → er = 0
  | 0, acc, xs, a, er, h => by simp only [rEs, Prod.mk.injEq] at h; exact h.2.2
  | n + 1, acc, xs, a, er, h => by
    rw [rEs] at h
    split at h
    · assumption
    · simp only [Prod.mk.injEq] at h; exact h.2.2
theorem rEs_sp : ∀ (n : Nat) (acc xs : List S28) (a : Int), rEs L n acc a 0 = (xs, b, 0) → 0 ≤ a → a ≤ L.length → ∃ ts, xs = acc ++ ts ∧ ts.length = n ∧ Sp L a b (putEs ts) ∧ ∀ x ∈ ts, okE x
  | 0, acc, xs, a, h, h0, hl => by
    simp only [rEs, Prod.mk.injEq, and_true] at h
    obtain ⟨rfl, rfl⟩ := h
    exact ⟨[], by simp, rfl, ⟨h0, by simp [putEs], hl, by simp [putEs]⟩, by simp⟩
  | n + 1, acc, xs, a, h, h0, hl => by
    rw [rEs, if_pos rfl] at h
    rcases hs : rE L a 0 with ⟨x, d, e⟩
    rw [hs] at h
    simp only at h
    obtain rfl := rEs_er _ _ _ _ _ h
    obtain ⟨-, s1, s2⟩ := rE_sp hs
    obtain ⟨ts, e1, e2, e3, e4⟩ := rEs_sp n _ xs d h (by have := s1.hb; have := s1.h0; omega) s1.hl
    exact ⟨x :: ts, by rw [e1]; simp, by simp [e2], by have := s1.app e3; simpa [putEs] using this, fun z hz => by
      rcases List.mem_cons.1 hz with rfl | hz
      · exact s2
      · exact e4 z hz⟩
end
theorem enc_dec {L : List UInt8} {xs : List S28} (h : decR L = (xs, 0)) : encR xs = (B L, 0) ∧ xs.length ≤ 256 ∧ ∀ x ∈ xs, okE x := by
  obtain ⟨n, nb, ne_, hC⟩ : ∃ n nb ne_, rC L 0 0 256 = (n, nb, ne_) := ⟨_, _, _, rfl⟩
  obtain ⟨es, sb, se, hS⟩ : ∃ es sb se, rEs L n.toNat [] nb ne_ = (es, sb, se) := ⟨_, _, _, rfl⟩
  unfold decR at h
  simp only [hC, hS] at h
  split at h
  case isTrue hse => simp only [Prod.mk.injEq] at h; exact absurd h.2 hse
  case isFalse hse =>
  split at h
  · simp at h
  case isFalse hlen =>
  simp only [Prod.mk.injEq, and_true] at h
  subst h
  have hse0 : se = 0 := by simpa using hse
  subst hse0
  have hsb : sb = L.length := by simpa using hlen
  obtain rfl := rEs_er _ _ _ _ _ hS
  have hr := rC_range hC
  obtain ⟨-, s0, i0⟩ := rI_sp (rC_ok hC)
  obtain ⟨ts, e1, e2, s1, w1⟩ := rEs_sp _ _ _ _ hS (by have := s0.hb; have := s0.h0; omega) s0.hl
  rw [List.nil_append] at e1
  subst e1
  have hn : n = (es.length : Int) := by omega
  subst hn
  have hall := s0.app s1
  have hL : putI es.length ++ putEs es = L := by
    have h1 := hall.tk
    have h2 : (putI (es.length : Int) ++ putEs es).length = L.length := by have := hall.hb; omega
    rw [h2] at h1
    simpa using h1.symm
  have hl : es.length ≤ 256 := by omega
  exact ⟨by rw [enc_ok hl w1, hL], hl, w1⟩
end Go.Proofs.Ytcjdnahgffkbdaa.Sri

namespace Go.Proofs.Ytcjdnahgffkbdaa.Ssa
open Go Go.RowKit Go.Proofs Go.Proofs.Ytcjdnahgffkbdaa.Gm Go.Proofs.Ytcjdnahgffkbdaa.Sdc Go.Proofs.Ytcjdnahgffkbdaa.Spt Go.Proofs.Ytcjdnahgffkbdaa.Sen Go.Proofs.Ytcjdnahgffkbdaa.Srt Go.Proofs.Ytcjdnahgffkbdaa.Q Go.Proofs.YtcjdnahgffkbdaaW.PrintWords Go.Proofs.YtcjdnahgffkbdaaW.PrintLast Go.Proofs.YtcjdnahgffkbdaaW.PrintMore
set_option linter.unusedVariables false
theorem putI_zero : putI ((0 : Nat) : Int) = [0] := by
  unfold putI
  rw [show zig ((0 : Nat) : Int) = 0 from rfl, grp_last (by omega)]
  rfl
theorem enc0 (w : World) : Calls Try.prog 8 #[.slice none 0 0] w fun e' w' => e' = .returned (.tuple #[.string ⟨#[0]⟩, .int .i64 0]) ∧ Below w.heap.size w w' :=
  enc_x none 0 [] w (Kd.C_nil _ _) (Nat.le_refl _) (by simp) (B [0]) 0 (by
    have h := enc_ok (xs := []) (by simp) (by simp)
    rw [h, List.length_nil, putI_zero]
    rfl)
theorem dec0 (w : World) : Calls Try.prog 10 #[.string ⟨#[0]⟩] w fun e' w' => ∃ (A : Option Addr) (c : Nat), e' = .returned (.tuple #[.slice A 0 c, .int .i64 0]) ∧ Below w.heap.size w w' := by
  have h := dec_enc (xs := []) (by simp) (by simp)
  rw [List.length_nil, putI_zero, show putEs [] = [] from rfl, List.append_nil] at h
  refine (dec_x [0] (by simp) w [] 0 h).mono fun e' w' z => ?_
  obtain ⟨v, e1, hR, hb⟩ := z
  obtain ⟨A, c, hv⟩ := Kd.R_slice hR
  exact ⟨A, c, by rw [e1, hv]; rfl, hb⟩
set_option maxRecDepth 100000 in
theorem sane_x (w : World) : Calls Try.prog 7 #[] w fun e' w' => e' = .returned (.bool true) ∧ Below w.heap.size w w' := by
  have HB := Aside0.mk (Below.refl w.heap.size w)
  go_enter Try.func7, Try.ntmps7
  go_wp2_with (first | (go_at_call 8; with_reducible refine (enc0 _).mono ?_; rintro e' w1 ⟨rfl, hb⟩; have n_ := Aside0.mk (below_step HB.out hb); clear HB hb; have HB := n_; clear n_) | (go_at_call 10; with_reducible refine (dec0 _).mono ?_; rintro e' w2 ⟨A, c, rfl, hb⟩; have n_ := Aside0.mk (below_step HB.out hb); clear HB hb; have HB := n_; clear n_))
  go_ret
  exact ⟨rfl, HB.out⟩
end Go.Proofs.Ytcjdnahgffkbdaa.Ssa

namespace Go.Proofs.Ytcjdnahgffkbdaa.Ssm
open Go Go.RowKit Go.Proofs Go.Proofs.Ytcjdnahgffkbdaa.Gm Go.Proofs.Ytcjdnahgffkbdaa.Q Go.Proofs.YtcjdnahgffkbdaaW.PrintWords Go.Proofs.YtcjdnahgffkbdaaW.PrintLast Go.Proofs.YtcjdnahgffkbdaaW.PrintMore
set_option linter.unusedVariables false
end Go.Proofs.Ytcjdnahgffkbdaa.Ssm

namespace Go.Proofs.Ytcjdnahgffkbdaa.Q
open Go.RowKit Go.Proofs.YtcjdnahgffkbdaaW.PrintWords Go.Proofs.YtcjdnahgffkbdaaW.PrintLast Go.Proofs.YtcjdnahgffkbdaaW.PrintMore Go.Proofs.Ytcjdnahgffkbdaa.Gput Go.Proofs.Ytcjdnahgffkbdaa.Gputl
attribute [local go_sem] max2_int min2_int max_two min_two max_three min_three max_four min_four   -- for this text's walks alone
set_option linter.unusedVariables false
set_option linter.unusedSimpArgs false
def storagebarterplay_Mod.f (a0 : Int) (a1 : Int) : Option (Int) := if a1 = 0 then (none) else (if (Int.tmod a0 a1) < 0 then (some (wrap64 ((Int.tmod a0 a1) + a1))) else (some (Int.tmod a0 a1)))
set_option maxHeartbeats 8000000 in
set_option maxRecDepth 100000 in
theorem storagebarterplay_Mod.calls (a0 : Int) (a1 : Int) (r : Int) (w : World) (h : storagebarterplay_Mod.f a0 a1 = some r) :
 Calls Try.prog 18 #[.int .i64 a0, .int .i64 a1] w fun e w' => e = .returned (.int .i64 r) ∧ Drawn0 w w' := by
 have H : (if a1 = 0 then (none) else (if (Int.tmod a0 a1) < 0 then (some (wrap64 ((Int.tmod a0 a1) + a1))) else (some (Int.tmod a0 a1)))) = some r := h
 clear h
 by_cases c3 : a1 = 0
 ·rw [if_pos c3] at H
  exact absurd H (by simp)
 ·rw [if_neg c3] at H
  have c3b0 : (a1 == 0) = false := beq_eq_false_iff_ne.mpr c3
  have c3b1 : (a1 != 0) = true := bne_iff_ne.mpr c3
  by_cases c4 : (Int.tmod a0 a1) < 0
  ·rw [if_pos c4] at H
   have c4b0 : decide ((Int.tmod a0 a1) < 0) = true := decide_eq_true c4
   clear c4
   obtain rfl := Option.some.inj H
   go_enter Try.func18, Try.ntmps18
   go_wp2
   go_ret
   exact ⟨by first | rfl | (simp; done) | (simp [*]; done), by repeat (first | exact Drawn0.refl _ | apply Drawn0.step)⟩
  ·rw [if_neg c4] at H
   have c4b0 : decide ((Int.tmod a0 a1) < 0) = false := decide_eq_false c4
   clear c4
   obtain rfl := Option.some.inj H
   go_enter Try.func18, Try.ntmps18
   go_wp2
   go_ret
   exact ⟨by first | rfl | (simp; done) | (simp [*]; done), by repeat (first | exact Drawn0.refl _ | apply Drawn0.step)⟩
end Go.Proofs.Ytcjdnahgffkbdaa.Q

namespace Go.Proofs.Ytcjdnahgffkbdaa.Slw
open Go Go.RowKit Go.Proofs Go.Proofs.Ytcjdnahgffkbdaa.Gm Go.Proofs.Ytcjdnahgffkbdaa.Spt Go.Proofs.Ytcjdnahgffkbdaa.Sdc Go.Proofs.Ytcjdnahgffkbdaa.Sen Go.Proofs.Ytcjdnahgffkbdaa.Srt Go.Proofs.Ytcjdnahgffkbdaa.Sri Go.Proofs.Ytcjdnahgffkbdaa.Ssa Go.Proofs.Ytcjdnahgffkbdaa.Ssm Go.Proofs.Ytcjdnahgffkbdaa.Spd Go.Proofs.Ytcjdnahgffkbdaa.Spe Go.Proofs.Ytcjdnahgffkbdaa.Sps Go.Proofs.Ytcjdnahgffkbdaa.Q Go.Proofs.YtcjdnahgffkbdaaW.PrintWords Go.Proofs.YtcjdnahgffkbdaaW.PrintLast Go.Proofs.YtcjdnahgffkbdaaW.PrintMore
set_option linter.unusedVariables false
theorem new_ok {l : List Int} (h : ∀ n ∈ l, (Lit.int .u8 n).wf = true) : ∃ L, storagebarterplay_New.f l = some (L, 0) ∧ DL L := by
  have hb : ∀ n ∈ l, 0 ≤ n ∧ n ≤ 255 := fun n hn => by
    have := h n hn
    simpa [Lit.wf, IntKind.min, IntKind.max, IntKind.signed, IntKind.bits] using this
  unfold storagebarterplay_New.f
  by_cases h1 : (l.length : Int) > 300
  · rw [if_pos h1, if_pos (by omega)]
    exact ⟨_, rfl, by rw [List.length_take]; omega, fun x hx => hb x (List.mem_of_mem_take hx)⟩
  · rw [if_neg h1]
    exact ⟨_, rfl, by omega, hb⟩
theorem new_x (A0 : Option Addr) (c0 : Nat) (l0 : List Int) (w W : World) (hB : Below w.heap.size w W) (hr : Kd.C (Kd.int .u8) w A0 l0.length l0) (hc : l0.length ≤ c0) (hw : ∀ n ∈ l0, (Lit.int .u8 n).wf = true) :
    Calls Try.prog 12 #[.slice A0 l0.length c0] W fun e w' => ∃ (g : Nat) (L : List Int), e = .returned (.pointer (some ⟨g, 0, none⟩)) ∧ DI w w' g L := by
  obtain ⟨L, h1, h2⟩ := new_ok hw
  refine (storagebarterplay_New.calls A0 c0 l0 L 0 w W hB hr hc h1).mono fun e w' z => ?_
  obtain ⟨g, rfl, hi, hb, -⟩ := z
  exact ⟨g, L, rfl, hb, ⟨0, by omega, hi⟩, h2⟩
theorem mod_x (v : Int) (n : Nat) (hv : I64 v) (hn : 1 ≤ n ∧ n ≤ 1000000000) (w : World) : Calls Try.prog 18 #[.int .i64 v, .int .i64 (n : Int)] w fun e w' => ∃ k : Nat, e = .returned (.int .i64 (k : Int)) ∧ k < n ∧ Below w.heap.size w w' := by
  obtain ⟨k, hk, hkn⟩ : ∃ k : Nat, storagebarterplay_Mod.f v (n : Int) = some (k : Int) ∧ k < n := by
    unfold storagebarterplay_Mod.f
    have hr := Snx.tmod_range v (n : Int) (by omega)
    rw [if_neg (by omega)]
    by_cases h : Int.tmod v (n : Int) < 0
    · rw [if_pos h, Snx.w64 (by omega)]
      exact ⟨(Int.tmod v (n : Int) + n).toNat, by rw [Int.toNat_of_nonneg (by omega)], by omega⟩
    · rw [if_neg h]
      exact ⟨(Int.tmod v (n : Int)).toNat, by rw [Int.toNat_of_nonneg (by omega)], by omega⟩
  exact (storagebarterplay_Mod.calls v (n : Int) (k : Int) w hk).mono fun e w' z => ⟨k, z.1, hkn, z.2.below⟩
def scr (es : List S28) : List UInt8 := putI es.length ++ putEs es
end Go.Proofs.Ytcjdnahgffkbdaa.Slw

namespace Go.Proofs.Ytcjdnahgffkbdaa.Q
open Go.RowKit Go.Proofs.YtcjdnahgffkbdaaW.PrintWords Go.Proofs.YtcjdnahgffkbdaaW.PrintLast Go.Proofs.YtcjdnahgffkbdaaW.PrintMore Go.Proofs.Ytcjdnahgffkbdaa.Gput Go.Proofs.Ytcjdnahgffkbdaa.Gputl
attribute [local go_sem] max2_int min2_int max_two min_two max_three min_three max_four min_four   -- for this text's walks alone
set_option linter.unusedVariables false
set_option linter.unusedSimpArgs false
def storagebarterref23_first.l0 : Nat → List Int → Int → Option (Int)
 | 0, _, _ => none
 | k + 1, x0, x3 => if x3 < (x0.length : Int) then (if 0 ≤ x3 then (if (rd x0 x3) = 0 then (storagebarterref23_first.l0 k x0 (wrap64 (x3 + 1))) else (some (rd x0 x3))) else (none)) else (some 0)
def storagebarterref23_first.f (k : Nat) (l0 : List Int) : Option (Int) := storagebarterref23_first.l0 k l0 0
theorem storagebarterref23_first.mono_l : ∀ k, (∀ y0 y1, LeO (storagebarterref23_first.l0 k y0 y1) (storagebarterref23_first.l0 (k + 1) y0 y1))
 | 0 => fun _ _ r h => by simp [storagebarterref23_first.l0] at h
 | k + 1 => by
  have ih0 := storagebarterref23_first.mono_l k
  ·intro y0 y1
   unfold storagebarterref23_first.l0
   repeat' first
   | (with_reducible exact ih0 _ _)
   | (with_reducible exact LeO.refl _)
   | (with_reducible exact LeO.none _)
   | (with_reducible refine LeO.ite ?_ ?_)
   | (with_reducible refine LeO.bind ?_ (fun _ => ?_))
   | exact ih0 _ _
   | exact LeO.none _
   | refine LeO.ite ?_ ?_
   | refine LeO.bind ?_ (fun _ => ?_)
theorem storagebarterref23_first.mono : ∀ a0 k, LeO (storagebarterref23_first.f k a0) (storagebarterref23_first.f (k + 1) a0) := by
 intro a0 k
 have ih0 := storagebarterref23_first.mono_l k
 unfold storagebarterref23_first.f
 repeat' first
  | (with_reducible exact ih0 _ _)
  | (with_reducible exact LeO.refl _)
  | (with_reducible exact LeO.none _)
  | (with_reducible refine LeO.ite ?_ ?_)
  | (with_reducible refine LeO.bind ?_ (fun _ => ?_))
  | exact ih0 _ _
  | exact LeO.none _
  | refine LeO.ite ?_ ?_
  | refine LeO.bind ?_ (fun _ => ?_)
set_option maxHeartbeats 8000000 in
set_option maxRecDepth 100000 in
theorem storagebarterref23_first.calls (k : Nat) (A0 : Option Addr) (c0 : Nat) (l0 : List Int) (r : Int) (w : World) (hr0 : Kd.C (Kd.int .i64) w A0 l0.length l0) (hc0 : l0.length ≤ c0) (h : storagebarterref23_first.f k l0 = some r) :
 Calls Try.prog 59 #[.slice A0 l0.length c0] w fun e w' => e = .returned (.int .i64 r) ∧ Drawn0 w w' := by
 have HR0 := Aside0.mk hr0
 have HC0 := Aside0.mk hc0
 clear hr0 hc0
 have H : (storagebarterref23_first.l0 k l0 0) = some r := h
 clear h
 have H' := Aside0.mk H
 clear H
 go_enter Try.func59, Try.ntmps59
 go_wp2
 go_loopg [3] k (fun kq v3 w' => ∃ (x3_1 : Int), v3 = .int .i64 x3_1 ∧ Aside0 (storagebarterref23_first.l0 kq l0 x3_1 = some r) ∧ Aside0 (kq ≤ k) ∧ Drawn0 w w')
 case atStart => exact ⟨(0), (by first | rfl | (simp; done) | (simp [*]; done)), H', ⟨Nat.le_refl _⟩, by repeat (first | exact Drawn0.refl _ | apply Drawn0.step)⟩
 case round =>
  clear H'
  obtain ⟨x3_1, rfl, HA, HK1, ⟨m1, rfl⟩⟩ := hrel
  cases gk with
  | zero => exact absurd HA.out (by simp [storagebarterref23_first.l0])
  | succ k1 =>
   have H := HA.out
   clear HA
   simp only [storagebarterref23_first.l0] at H
   by_cases c2 : x3_1 < (l0.length : Int)
   ·rw [if_pos c2] at H
    have c2b0 : decide (x3_1 < (l0.length : Int)) = true := decide_eq_true c2
    clear c2
    by_cases c3 : 0 ≤ x3_1
    ·rw [if_pos c3] at H
     have c3b0 : decide (0 ≤ x3_1) = true := decide_eq_true c3
     clear c3
     by_cases c4 : (rd l0 x3_1) = 0
     ·rw [if_pos c4] at H
      have c4b0 : ((rd l0 x3_1) == 0) = true := beq_iff_eq.mpr c4
      have c4b1 : ((rd l0 x3_1) != 0) = false := bne_eq_false_iff_eq.mpr c4
      clear c4
      have H' := Aside0.mk H
      clear H
      have p158 : 0 ≤ (x3_1 : Int) := of_decide_eq_true (by first | (with_reducible assumption) | assumption)
      have q158 : x3_1 < (l0.length : Int) := of_decide_eq_true (by first | (with_reducible assumption) | assumption)
      obtain ⟨ad158, e158, hx158_0⟩ := Kd.at_int HR0.out x3_1 p158 q158
      cases e158
      replace p158 := eq_true p158
      replace q158 := eq_true q158
      go_wp2
      go_roundg k1
      case measure => have := HK1.out; omega
      case rel => exact ⟨(wrap64 (x3_1 + 1)), (by first | rfl | (simp; done) | (simp [*]; done)), H', ⟨by have := HK1.out; omega⟩, by repeat (first | exact Drawn0.refl _ | apply Drawn0.step)⟩
     ·rw [if_neg c4] at H
      have c4b0 : ((rd l0 x3_1) == 0) = false := beq_eq_false_iff_ne.mpr c4
      have c4b1 : ((rd l0 x3_1) != 0) = true := bne_iff_ne.mpr c4
      obtain rfl := Option.some.inj H
      have p158 : 0 ≤ (x3_1 : Int) := of_decide_eq_true (by first | (with_reducible assumption) | assumption)
      have q158 : x3_1 < (l0.length : Int) := of_decide_eq_true (by first | (with_reducible assumption) | assumption)
      obtain ⟨ad158, e158, hx158_0⟩ := Kd.at_int HR0.out x3_1 p158 q158
      cases e158
      replace p158 := eq_true p158
      replace q158 := eq_true q158
      have p159 : 0 ≤ (x3_1 : Int) := of_decide_eq_true (by first | (with_reducible assumption) | assumption)
      have q159 : x3_1 < (l0.length : Int) := of_decide_eq_true (by first | (with_reducible assumption) | assumption)
      obtain ⟨ad159, e159, hx159_0⟩ := Kd.at_int HR0.out x3_1 p159 q159
      obtain rfl : ad158 = ad159 := (by injection e159)
      replace p159 := eq_true p159
      replace q159 := eq_true q159
      go_wp2
      go_ret
      exact ⟨by first | rfl | (simp; done) | (simp [*]; done), by repeat (first | exact Drawn0.refl _ | apply Drawn0.step)⟩
    ·rw [if_neg c3] at H
     exact absurd H (by simp)
   ·rw [if_neg c2] at H
    have c2b0 : decide (x3_1 < (l0.length : Int)) = false := decide_eq_false c2
    clear c2
    obtain rfl := Option.some.inj H
    go_wp2
    go_ret
    exact ⟨by first | rfl | (simp; done) | (simp [*]; done), by repeat (first | exact Drawn0.refl _ | apply Drawn0.step)⟩
end Go.Proofs.Ytcjdnahgffkbdaa.Q

namespace Go.Proofs.Ytcjdnahgffkbdaa.Q
open Go.RowKit Go.Proofs.YtcjdnahgffkbdaaW.PrintWords Go.Proofs.YtcjdnahgffkbdaaW.PrintLast Go.Proofs.YtcjdnahgffkbdaaW.PrintMore Go.Proofs.Ytcjdnahgffkbdaa.Gput Go.Proofs.Ytcjdnahgffkbdaa.Gputl
attribute [local go_sem] max2_int min2_int max_two min_two max_three min_three max_four min_four   -- for this text's walks alone
set_option linter.unusedVariables false
set_option linter.unusedSimpArgs false
def storagebarterref23_number.f (a0 : Int) (a1 : Int) : Option (Int) := if a0 < a1 then (some (-1)) else (if a0 > a1 then (some 1) else (some 0))
set_option maxHeartbeats 8000000 in
set_option maxRecDepth 100000 in
theorem storagebarterref23_number.calls (a0 : Int) (a1 : Int) (r : Int) (w : World) (h : storagebarterref23_number.f a0 a1 = some r) :
 Calls Try.prog 60 #[.int .i64 a0, .int .i64 a1] w fun e w' => e = .returned (.int .i64 r) ∧ Drawn0 w w' := by
 have H : (if a0 < a1 then (some (-1)) else (if a0 > a1 then (some 1) else (some 0))) = some r := h
 clear h
 by_cases c3 : a0 < a1
 ·rw [if_pos c3] at H
  have c3b0 : decide (a0 < a1) = true := decide_eq_true c3
  clear c3
  obtain rfl := Option.some.inj H
  go_enter Try.func60, Try.ntmps60
  go_wp2
  go_ret
  exact ⟨by first | rfl | (simp; done) | (simp [*]; done), by repeat (first | exact Drawn0.refl _ | apply Drawn0.step)⟩
 ·rw [if_neg c3] at H
  have c3b0 : decide (a0 < a1) = false := decide_eq_false c3
  clear c3
  by_cases c4 : a0 > a1
  ·rw [if_pos c4] at H
   have c4b0 : decide (a1 < a0) = true := decide_eq_true c4
   clear c4
   obtain rfl := Option.some.inj H
   go_enter Try.func60, Try.ntmps60
   go_wp2
   go_ret
   exact ⟨by first | rfl | (simp; done) | (simp [*]; done), by repeat (first | exact Drawn0.refl _ | apply Drawn0.step)⟩
  ·rw [if_neg c4] at H
   have c4b0 : decide (a1 < a0) = false := decide_eq_false c4
   clear c4
   obtain rfl := Option.some.inj H
   go_enter Try.func60, Try.ntmps60
   go_wp2
   go_ret
   exact ⟨by first | rfl | (simp; done) | (simp [*]; done), by repeat (first | exact Drawn0.refl _ | apply Drawn0.step)⟩
end Go.Proofs.Ytcjdnahgffkbdaa.Q

namespace Go.Proofs.Ytcjdnahgffkbdaa.Slt
open Go
theorem less_tri : ∀ (a b : List UInt8), Op.bytesLess b a = !(Op.bytesLess a b || a == b)
  | [], [] => by simp [Op.bytesLess]
  | [], y :: ys => by simp [Op.bytesLess]
  | x :: xs, [] => by simp [Op.bytesLess]
  | x :: xs, y :: ys => by
    have ih := less_tri xs ys
    simp only [Op.bytesLess]
    by_cases h : x = y
    · subst h
      simp [ih]
    · have h1 : ¬ (y = x) := fun e => h e.symm
      by_cases h2 : x < y
      · have h3 : ¬ (y < x) := by
          intro z
          have a := UInt8.lt_iff_toNat_lt.1 h2
          have b := UInt8.lt_iff_toNat_lt.1 z
          omega
        simp [h, h1, h2, h3]
      · have h3 : y < x := by
          refine UInt8.lt_iff_toNat_lt.2 ?_
          have a : ¬ (x.toNat < y.toNat) := fun z => h2 (UInt8.lt_iff_toNat_lt.2 z)
          have b : x.toNat ≠ y.toNat := fun z => h (UInt8.toNat_inj.1 z)
          omega
        simp [h, h1, h2, h3]
end Go.Proofs.Ytcjdnahgffkbdaa.Slt

namespace Go.Proofs.Ytcjdnahgffkbdaa.Q
open Go.RowKit Go.Proofs.YtcjdnahgffkbdaaW.PrintWords Go.Proofs.YtcjdnahgffkbdaaW.PrintLast Go.Proofs.YtcjdnahgffkbdaaW.PrintMore Go.Proofs.Ytcjdnahgffkbdaa.Gput Go.Proofs.Ytcjdnahgffkbdaa.Gputl
attribute [local go_sem] max2_int min2_int max_two min_two max_three min_three max_four min_four   -- for this text's walks alone
set_option linter.unusedVariables false
set_option linter.unusedSimpArgs false
def storagebarterref23_text.f (a0 : ByteArray) (a1 : ByteArray) : Option (Int) := if (Op.bytesLess a0.toList a1.toList) = true then (some (-1)) else (if (Op.bytesLess a1.toList a0.toList) = true then (some 1) else (some 0))
set_option maxHeartbeats 8000000 in
set_option maxRecDepth 100000 in
theorem storagebarterref23_text.calls (a0 : ByteArray) (a1 : ByteArray) (r : Int) (w : World) (h : storagebarterref23_text.f a0 a1 = some r) :
 Calls Try.prog 61 #[.string a0, .string a1] w fun e w' => e = .returned (.int .i64 r) ∧ Drawn0 w w' := by
 have H : (if (Op.bytesLess a0.toList a1.toList) = true then (some (-1)) else (if (Op.bytesLess a1.toList a0.toList) = true then (some 1) else (some 0))) = some r := h
 clear h
 by_cases c3 : (Op.bytesLess a0.toList a1.toList) = true
 ·rw [if_pos c3] at H
  have c3b0 : (Op.bytesLess a0.toList a1.toList) = true := c3
  clear c3
  obtain rfl := Option.some.inj H
  go_enter Try.func61, Try.ntmps61
  go_wp2
  go_ret
  exact ⟨by first | rfl | (simp; done) | (simp [*]; done), by repeat (first | exact Drawn0.refl _ | apply Drawn0.step)⟩
 ·rw [if_neg c3] at H
  have c3b0 : (Op.bytesLess a0.toList a1.toList) = false := by simpa using c3
  clear c3
  by_cases c4 : (Op.bytesLess a1.toList a0.toList) = true
  ·rw [if_pos c4] at H
   have c4b0 : (Op.bytesLess a1.toList a0.toList) = true := c4
   have c4e : (a0.toList == a1.toList) = false := by have h := Go.Proofs.Ytcjdnahgffkbdaa.Slt.less_tri a0.toList a1.toList; rw [c3b0, c4b0, Bool.false_or] at h; simpa using h.symm
   clear c4
   obtain rfl := Option.some.inj H
   go_enter Try.func61, Try.ntmps61
   go_wp2
   go_ret
   exact ⟨by first | rfl | (simp; done) | (simp [*]; done), by repeat (first | exact Drawn0.refl _ | apply Drawn0.step)⟩
  ·rw [if_neg c4] at H
   have c4b0 : (Op.bytesLess a1.toList a0.toList) = false := by simpa using c4
   have c4e : (a0.toList == a1.toList) = true := by have h := Go.Proofs.Ytcjdnahgffkbdaa.Slt.less_tri a0.toList a1.toList; rw [c3b0, c4b0, Bool.false_or] at h; simpa using h.symm
   clear c4
   obtain rfl := Option.some.inj H
   go_enter Try.func61, Try.ntmps61
   go_wp2
   go_ret
   exact ⟨by first | rfl | (simp; done) | (simp [*]; done), by repeat (first | exact Drawn0.refl _ | apply Drawn0.step)⟩
end Go.Proofs.Ytcjdnahgffkbdaa.Q

namespace Go.Proofs.Ytcjdnahgffkbdaa.Sry
open Go Go.RowKit Go.Proofs Go.Proofs.Ytcjdnahgffkbdaa.Q Go.Proofs.YtcjdnahgffkbdaaW.PrintWords Go.Proofs.YtcjdnahgffkbdaaW.PrintLast Go.Proofs.YtcjdnahgffkbdaaW.PrintMore
set_option linter.unusedVariables false
def num (a b : Int) : Int := if a < b then -1 else if a > b then 1 else 0
theorem num_zero {a b : Int} : num a b = 0 ↔ a = b := by
  unfold num
  by_cases h : a < b
  · rw [if_pos h]; omega
  · rw [if_neg h]
    by_cases h2 : a > b
    · rw [if_pos h2]; omega
    · rw [if_neg h2]; omega
def fnz : List Int → Int
  | [] => 0
  | x :: xs => if x = 0 then fnz xs else x
theorem fnz_zero : ∀ (l : List Int), fnz l = 0 ↔ ∀ x ∈ l, x = 0
  | [] => by simp [fnz]
  | x :: xs => by
    have ih := fnz_zero xs
    by_cases h : x = 0
    · simp [fnz, h, ih]
    · simp [fnz, h]
theorem w64 {x : Int} (h : -9223372036854775808 ≤ x ∧ x ≤ 9223372036854775807) : wrap64 x = x := by unfold wrap64; omega
theorem first_l0 (l : List Int) (hl : l.length ≤ 1000000) : ∀ (d i k : Nat), l.length - i = d → i ≤ l.length → d < k → storagebarterref23_first.l0 k l (i : Int) = some (fnz (l.drop i)) := by
  intro d
  induction d with
  | zero =>
    intro i k hd hi hk
    obtain ⟨k, rfl⟩ : ∃ m, k = m + 1 := ⟨k - 1, by omega⟩
    rw [storagebarterref23_first.l0, if_neg (by omega), List.drop_of_length_le (by omega)]
    rfl
  | succ d ih =>
    intro i k hd hi hk
    obtain ⟨k, rfl⟩ : ∃ m, k = m + 1 := ⟨k - 1, by omega⟩
    have hil : i < l.length := by omega
    have e : rd l (i : Int) = l[i] := by simp [rd, List.getD, hil]
    rw [storagebarterref23_first.l0, if_pos (by omega), if_pos (by omega), e, List.drop_eq_getElem_cons hil, fnz]
    by_cases h : l[i] = 0
    · rw [if_pos h, if_pos h, w64 (x := (i : Int) + 1) (by omega), show ((i : Int) + 1) = ((i + 1 : Nat) : Int) by omega]
      exact ih (i + 1) k (by omega) (by omega) (by omega)
    · rw [if_neg h, if_neg h]
theorem first_eq (l : List Int) (k : Nat) (hl : l.length ≤ 1000000) (hk : l.length < k) : storagebarterref23_first.f k l = some (fnz l) := by
  have h := first_l0 l hl l.length 0 k rfl (by omega) hk
  rw [List.drop_zero] at h
  exact h
theorem first_val_l0 (l : List Int) (r : Int) (hl : l.length ≤ 1000000) : ∀ (k i : Nat), storagebarterref23_first.l0 k l (i : Int) = some r → r = fnz (l.drop i)
  | 0, i, h => by simp [storagebarterref23_first.l0] at h
  | k + 1, i, h => by
    rw [storagebarterref23_first.l0] at h
    by_cases hil : i < l.length
    · have e : rd l (i : Int) = l[i] := by simp [rd, List.getD, hil]
      rw [if_pos (by omega), if_pos (by omega), e] at h
      rw [List.drop_eq_getElem_cons hil, fnz]
      by_cases h0 : l[i] = 0
      · rw [if_pos h0, w64 (x := (i : Int) + 1) (by omega), show ((i : Int) + 1) = ((i + 1 : Nat) : Int) by omega] at h
        rw [if_pos h0]
        exact first_val_l0 l r hl k (i + 1) h
      · rw [if_neg h0] at h
        rw [if_neg h0]
        exact (Option.some.inj h).symm
    · rw [if_neg (by omega)] at h
      rw [List.drop_of_length_le (by omega)]
      exact (Option.some.inj h).symm
theorem first_val (k : Nat) (l : List Int) (r : Int) (h : storagebarterref23_first.f k l = some r) (hl : l.length ≤ 1000000 := by simp) : r = fnz l := by
  have := first_val_l0 l r hl k 0 h
  simpa using this
theorem num_is (a b : Int) : storagebarterref23_number.f a b = some (num a b) := by
  unfold storagebarterref23_number.f num
  by_cases h : a < b
  · rw [if_pos h, if_pos h]
  · rw [if_neg h, if_neg h]
    by_cases h2 : a > b
    · rw [if_pos h2, if_pos h2]
    · rw [if_neg h2, if_neg h2]
def sayC (s u : S64) : Int := fnz [num s.f0 u.f0, num s.f1 u.f1, num s.f2 u.f2, num s.f3 u.f3, num s.f4 u.f4, num s.f5 u.f5, num s.f6 u.f6, num s.f7 u.f7, num s.f8 u.f8, num s.f9 u.f9, num s.f10 u.f10]
set_option maxRecDepth 100000 in
theorem number_x (x y : Int) (w : World) : Calls Try.prog 60 #[.int .i64 x, .int .i64 y] w fun e w' => e = .returned (.int .i64 (num x y)) ∧ w' = w := by
  unfold num
  by_cases h1 : x < y
  · rw [if_pos h1]
    have hd := decide_eq_true h1
    go_enter Try.func60, Try.ntmps60
    go_wp2
    go_ret
    exact ⟨rfl, rfl⟩
  · rw [if_neg h1]
    have hd := decide_eq_false h1
    by_cases h2 : x > y
    · rw [if_pos h2]
      have h3 : y < x := h2
      have hd2 := decide_eq_true h3
      go_enter Try.func60, Try.ntmps60
      go_wp2
      go_ret
      exact ⟨rfl, rfl⟩
    · rw [if_neg h2]
      have h3 : ¬ y < x := h2
      have hd2 := decide_eq_false h3
      go_enter Try.func60, Try.ntmps60
      go_wp2
      go_ret
      exact ⟨rfl, rfl⟩
theorem C_row11 (W : World) (r0 r1 r2 r3 r4 r5 r6 r7 r8 r9 r10 : Int) : Kd.C (Kd.int .i64) (W.alloc (.cells #[.int .i64 r0, .int .i64 r1, .int .i64 r2, .int .i64 r3, .int .i64 r4, .int .i64 r5, .int .i64 r6, .int .i64 r7, .int .i64 r8, .int .i64 r9, .int .i64 r10] 3)) (some ⟨W.heap.size, 0, none⟩) [r0, r1, r2, r3, r4, r5, r6, r7, r8, r9, r10].length [r0, r1, r2, r3, r4, r5, r6, r7, r8, r9, r10] := by
  refine ⟨rfl, by simp, fun _ => ⟨_, rfl, fun j p hj => ?_⟩⟩
  refine ⟨[.int .i64 p], rfl, rfl, fun i u hu => ?_⟩
  have hi : i = 0 := by
    cases i with
    | zero => rfl
    | succ i => simp at hu
  subst hi
  simp at hu
  subst hu
  have hb := heap_alloc_new W (.cells #[.int .i64 r0, .int .i64 r1, .int .i64 r2, .int .i64 r3, .int .i64 r4, .int .i64 r5, .int .i64 r6, .int .i64 r7, .int .i64 r8, .int .i64 r9, .int .i64 r10] 3)
  have hj2 := (List.getElem?_eq_some_iff.1 hj).1
  simp only [List.length_cons, List.length_nil] at hj2
  have hc := blk_cell hb j
  match j, hj2 with
  | 0, _ => simp at hj; subst hj; exact hc.trans rfl
  | 1, _ => simp at hj; subst hj; exact hc.trans rfl
  | 2, _ => simp at hj; subst hj; exact hc.trans rfl
  | 3, _ => simp at hj; subst hj; exact hc.trans rfl
  | 4, _ => simp at hj; subst hj; exact hc.trans rfl
  | 5, _ => simp at hj; subst hj; exact hc.trans rfl
  | 6, _ => simp at hj; subst hj; exact hc.trans rfl
  | 7, _ => simp at hj; subst hj; exact hc.trans rfl
  | 8, _ => simp at hj; subst hj; exact hc.trans rfl
  | 9, _ => simp at hj; subst hj; exact hc.trans rfl
  | 10, _ => simp at hj; subst hj; exact hc.trans rfl
set_option maxRecDepth 100000 in
set_option maxHeartbeats 8000000 in
theorem say_x (x0 x1 x2 x3 x4 x5 x6 x7 x8 x9 x10 y0 y1 y2 y3 y4 y5 y6 y7 y8 y9 y10 : Int) (w : World) : Calls Try.prog 65 #[.agg #[Value.int IntKind.i64 x0, Value.int IntKind.i64 x1, Value.int IntKind.i64 x2, Value.int IntKind.i64 x3, Value.int IntKind.i64 x4, Value.int IntKind.i64 x5, Value.int IntKind.i64 x6, Value.int IntKind.i64 x7, Value.int IntKind.i64 x8, Value.int IntKind.i64 x9, Value.int IntKind.i64 x10], .agg #[Value.int IntKind.i64 y0, Value.int IntKind.i64 y1, Value.int IntKind.i64 y2, Value.int IntKind.i64 y3, Value.int IntKind.i64 y4, Value.int IntKind.i64 y5, Value.int IntKind.i64 y6, Value.int IntKind.i64 y7, Value.int IntKind.i64 y8, Value.int IntKind.i64 y9, Value.int IntKind.i64 y10]] w fun e w' => e = .returned (.int .i64 (sayC ⟨x0, x1, x2, x3, x4, x5, x6, x7, x8, x9, x10⟩ ⟨y0, y1, y2, y3, y4, y5, y6, y7, y8, y9, y10⟩)) ∧ Below w.heap.size w w' := by
  have mixed : (Try.prog).follows .mixedOrders = true := by kernel_rfl
  have hu78 := Try.underlying64
  unfold sayC
  dsimp only
  have c0 := number_x x0 y0
  generalize num x0 y0 = r0 at c0 ⊢
  have c1 := number_x x1 y1
  generalize num x1 y1 = r1 at c1 ⊢
  have c2 := number_x x2 y2
  generalize num x2 y2 = r2 at c2 ⊢
  have c3 := number_x x3 y3
  generalize num x3 y3 = r3 at c3 ⊢
  have c4 := number_x x4 y4
  generalize num x4 y4 = r4 at c4 ⊢
  have c5 := number_x x5 y5
  generalize num x5 y5 = r5 at c5 ⊢
  have c6 := number_x x6 y6
  generalize num x6 y6 = r6 at c6 ⊢
  have c7 := number_x x7 y7
  generalize num x7 y7 = r7 at c7 ⊢
  have c8 := number_x x8 y8
  generalize num x8 y8 = r8 at c8 ⊢
  have c9 := number_x x9 y9
  generalize num x9 y9 = r9 at c9 ⊢
  have c10 := number_x x10 y10
  generalize num x10 y10 = r10 at c10 ⊢
  have hfi := first_eq [r0, r1, r2, r3, r4, r5, r6, r7, r8, r9, r10] 20 (by simp) (by simp)
  generalize fnz [r0, r1, r2, r3, r4, r5, r6, r7, r8, r9, r10] = r at hfi ⊢
  have HFI := Lib.hid hfi
  clear hfi
  go_enter Try.func65, Try.ntmps65
  go_wp2_with fail
  refine wp_region_still_tail 55 (by kernel_rfl) (by kernel_rfl) ?_
  generalize hW : ((w.alloc (Obj.cells #[Value.int IntKind.i64 x0, Value.int IntKind.i64 x1, Value.int IntKind.i64 x2, Value.int IntKind.i64 x3, Value.int IntKind.i64 x4, Value.int IntKind.i64 x5, Value.int IntKind.i64 x6, Value.int IntKind.i64 x7, Value.int IntKind.i64 x8, Value.int IntKind.i64 x9, Value.int IntKind.i64 x10] 64)).alloc (Obj.cells #[Value.int IntKind.i64 y0, Value.int IntKind.i64 y1, Value.int IntKind.i64 y2, Value.int IntKind.i64 y3, Value.int IntKind.i64 y4, Value.int IntKind.i64 y5, Value.int IntKind.i64 y6, Value.int IntKind.i64 y7, Value.int IntKind.i64 y8, Value.int IntKind.i64 y9, Value.int IntKind.i64 y10] 64)) = W0
  have k0 : W0.heap[w.heap.size]? = some (.cells #[Value.int IntKind.i64 x0, Value.int IntKind.i64 x1, Value.int IntKind.i64 x2, Value.int IntKind.i64 x3, Value.int IntKind.i64 x4, Value.int IntKind.i64 x5, Value.int IntKind.i64 x6, Value.int IntKind.i64 x7, Value.int IntKind.i64 x8, Value.int IntKind.i64 x9, Value.int IntKind.i64 x10] 64 (0, 0)) := by rw [← hW]; exact blk_alloc (heap_alloc_new w _) _
  have k1 : W0.heap[w.heap.size + 1]? = some (.cells #[Value.int IntKind.i64 y0, Value.int IntKind.i64 y1, Value.int IntKind.i64 y2, Value.int IntKind.i64 y3, Value.int IntKind.i64 y4, Value.int IntKind.i64 y5, Value.int IntKind.i64 y6, Value.int IntKind.i64 y7, Value.int IntKind.i64 y8, Value.int IntKind.i64 y9, Value.int IntKind.i64 y10] 64 (0, 0)) := by
    have := heap_alloc_new (w.alloc (Obj.cells #[Value.int IntKind.i64 x0, Value.int IntKind.i64 x1, Value.int IntKind.i64 x2, Value.int IntKind.i64 x3, Value.int IntKind.i64 x4, Value.int IntKind.i64 x5, Value.int IntKind.i64 x6, Value.int IntKind.i64 x7, Value.int IntKind.i64 x8, Value.int IntKind.i64 x9, Value.int IntKind.i64 x10] 64)) (Obj.cells #[Value.int IntKind.i64 y0, Value.int IntKind.i64 y1, Value.int IntKind.i64 y2, Value.int IntKind.i64 y3, Value.int IntKind.i64 y4, Value.int IntKind.i64 y5, Value.int IntKind.i64 y6, Value.int IntKind.i64 y7, Value.int IntKind.i64 y8, Value.int IntKind.i64 y9, Value.int IntKind.i64 y10] 64)
    rw [hW] at this
    simpa using this
  have hx0 : W0.drew.cell? ⟨w.heap.size, 0, none⟩ = some (.int .i64 x0) := (blk_cell (blk_drew k0) 0).trans rfl
  have hy0 : W0.drew.cell? ⟨w.heap.size + 1, 0, none⟩ = some (.int .i64 y0) := (blk_cell (blk_drew k1) 0).trans rfl
  have hx1 : W0.drew.cell? ⟨w.heap.size, 1, none⟩ = some (.int .i64 x1) := (blk_cell (blk_drew k0) 1).trans rfl
  have hy1 : W0.drew.cell? ⟨w.heap.size + 1, 1, none⟩ = some (.int .i64 y1) := (blk_cell (blk_drew k1) 1).trans rfl
  have hx2 : W0.drew.cell? ⟨w.heap.size, 2, none⟩ = some (.int .i64 x2) := (blk_cell (blk_drew k0) 2).trans rfl
  have hy2 : W0.drew.cell? ⟨w.heap.size + 1, 2, none⟩ = some (.int .i64 y2) := (blk_cell (blk_drew k1) 2).trans rfl
  have hx3 : W0.drew.cell? ⟨w.heap.size, 3, none⟩ = some (.int .i64 x3) := (blk_cell (blk_drew k0) 3).trans rfl
  have hy3 : W0.drew.cell? ⟨w.heap.size + 1, 3, none⟩ = some (.int .i64 y3) := (blk_cell (blk_drew k1) 3).trans rfl
  have hx4 : W0.drew.cell? ⟨w.heap.size, 4, none⟩ = some (.int .i64 x4) := (blk_cell (blk_drew k0) 4).trans rfl
  have hy4 : W0.drew.cell? ⟨w.heap.size + 1, 4, none⟩ = some (.int .i64 y4) := (blk_cell (blk_drew k1) 4).trans rfl
  have hx5 : W0.drew.cell? ⟨w.heap.size, 5, none⟩ = some (.int .i64 x5) := (blk_cell (blk_drew k0) 5).trans rfl
  have hy5 : W0.drew.cell? ⟨w.heap.size + 1, 5, none⟩ = some (.int .i64 y5) := (blk_cell (blk_drew k1) 5).trans rfl
  have hx6 : W0.drew.cell? ⟨w.heap.size, 6, none⟩ = some (.int .i64 x6) := (blk_cell (blk_drew k0) 6).trans rfl
  have hy6 : W0.drew.cell? ⟨w.heap.size + 1, 6, none⟩ = some (.int .i64 y6) := (blk_cell (blk_drew k1) 6).trans rfl
  have hx7 : W0.drew.cell? ⟨w.heap.size, 7, none⟩ = some (.int .i64 x7) := (blk_cell (blk_drew k0) 7).trans rfl
  have hy7 : W0.drew.cell? ⟨w.heap.size + 1, 7, none⟩ = some (.int .i64 y7) := (blk_cell (blk_drew k1) 7).trans rfl
  have hx8 : W0.drew.cell? ⟨w.heap.size, 8, none⟩ = some (.int .i64 x8) := (blk_cell (blk_drew k0) 8).trans rfl
  have hy8 : W0.drew.cell? ⟨w.heap.size + 1, 8, none⟩ = some (.int .i64 y8) := (blk_cell (blk_drew k1) 8).trans rfl
  have hx9 : W0.drew.cell? ⟨w.heap.size, 9, none⟩ = some (.int .i64 x9) := (blk_cell (blk_drew k0) 9).trans rfl
  have hy9 : W0.drew.cell? ⟨w.heap.size + 1, 9, none⟩ = some (.int .i64 y9) := (blk_cell (blk_drew k1) 9).trans rfl
  have hx10 : W0.drew.cell? ⟨w.heap.size, 10, none⟩ = some (.int .i64 x10) := (blk_cell (blk_drew k0) 10).trans rfl
  have hy10 : W0.drew.cell? ⟨w.heap.size + 1, 10, none⟩ = some (.int .i64 y10) := (blk_cell (blk_drew k1) 10).trans rfl
  have HW : Aside0 (Below w.heap.size w W0.drew) := ⟨by rw [← hW]; exact below_drew1 (below_alloc (below_alloc (Below.refl _ _) _) _)⟩
  change wpStill _ _ W0.drew (fun a' => wpList _ _ _ _ a' W0.drew) _ _
  clear k0 k1 hW
  generalize W0.drew = W at hx0 hy0 hx1 hy1 hx2 hy2 hx3 hy3 hx4 hy4 hx5 hy5 hx6 hy6 hx7 hy7 hx8 hy8 hx9 hy9 hx10 hy10 HW ⊢
  clear W0
  simp only [List.take_succ_cons, List.take_zero, List.drop_succ_cons, List.drop_zero]
  iterate 4 still_step
  still_call (c0 _)
  iterate 4 still_step
  still_call (c1 _)
  iterate 4 still_step
  still_call (c2 _)
  iterate 4 still_step
  still_call (c3 _)
  iterate 4 still_step
  still_call (c4 _)
  iterate 4 still_step
  still_call (c5 _)
  iterate 4 still_step
  still_call (c6 _)
  iterate 4 still_step
  still_call (c7 _)
  iterate 4 still_step
  still_call (c8 _)
  iterate 4 still_step
  still_call (c9 _)
  iterate 4 still_step
  still_call (c10 _)
  refine wpStill_nil ?_
  go_wp2_with (go_at_call 59; go_loud (refine (storagebarterref23_first.calls 20 _ 11 [r0, r1, r2, r3, r4, r5, r6, r7, r8, r9, r10] r _ (C_row11 W r0 r1 r2 r3 r4 r5 r6 r7 r8 r9 r10) (by simp) HFI.out).mono ?_); go_loud (rintro e w5 ⟨rfl, hb⟩; have HB := Aside0.mk (below_step HW.out (below_step (below_alloc (Below.refl _ _) _) (Drawn0.below hb))); clear hb))
  go_ret
  exact ⟨rfl, HB.out⟩
end Go.Proofs.Ytcjdnahgffkbdaa.Sry

namespace Go.Proofs.Ytcjdnahgffkbdaa.Q
open Go.Proofs.Ytcjdnahgffkbdaa Go.RowKit Go.Proofs.YtcjdnahgffkbdaaW.PrintWords Go.Proofs.YtcjdnahgffkbdaaW.PrintLast Go.Proofs.YtcjdnahgffkbdaaW.PrintMore Go.Proofs.Ytcjdnahgffkbdaa.Gput Go.Proofs.Ytcjdnahgffkbdaa.Gputl
attribute [local go_sem] max2_int min2_int max_two min_two max_three min_three max_four min_four   -- for this text's walks alone
set_option linter.unusedVariables false
set_option linter.unusedSimpArgs false
def storagebarterref23_say.f (k : Nat) (a0_0 : Int) (a0_1 : Int) (a0_2 : Int) (a0_3 : Int) (a0_4 : Int) (a0_5 : Int) (a0_6 : Int) (a0_7 : Int) (a0_8 : Int) (a0_9 : Int) (a0_10 : Int) (a1_0 : Int) (a1_1 : Int) (a1_2 : Int) (a1_3 : Int) (a1_4 : Int) (a1_5 : Int) (a1_6 : Int) (a1_7 : Int) (a1_8 : Int) (a1_9 : Int) (a1_10 : Int) : Option (Int) := (storagebarterref23_number.f a0_0 a1_0).bind fun t162 => ((storagebarterref23_number.f a0_1 a1_1).bind fun t163 => ((storagebarterref23_number.f a0_2 a1_2).bind fun t164 => ((storagebarterref23_number.f a0_3 a1_3).bind fun t165 => ((storagebarterref23_number.f a0_4 a1_4).bind fun t166 => ((storagebarterref23_number.f a0_5 a1_5).bind fun t167 => ((storagebarterref23_number.f a0_6 a1_6).bind fun t168 => ((storagebarterref23_number.f a0_7 a1_7).bind fun t169 => ((storagebarterref23_number.f a0_8 a1_8).bind fun t170 => ((storagebarterref23_number.f a0_9 a1_9).bind fun t171 => ((storagebarterref23_number.f a0_10 a1_10).bind fun t172 => ((storagebarterref23_first.f k (([t162, t163, t164, t165, t166, t167, t168, t169, t170, t171, t172] : List Int))).bind fun t176 => (some t176))))))))))))
theorem storagebarterref23_say.mono : ∀ a0 a1 a2 a3 a4 a5 a6 a7 a8 a9 a10 a11 a12 a13 a14 a15 a16 a17 a18 a19 a20 a21 k, LeO (storagebarterref23_say.f k a0 a1 a2 a3 a4 a5 a6 a7 a8 a9 a10 a11 a12 a13 a14 a15 a16 a17 a18 a19 a20 a21) (storagebarterref23_say.f (k + 1) a0 a1 a2 a3 a4 a5 a6 a7 a8 a9 a10 a11 a12 a13 a14 a15 a16 a17 a18 a19 a20 a21) := by
 intro a0 a1 a2 a3 a4 a5 a6 a7 a8 a9 a10 a11 a12 a13 a14 a15 a16 a17 a18 a19 a20 a21 k
 unfold storagebarterref23_say.f
 repeat' first
  | (with_reducible exact storagebarterref23_first.mono _ _)
  | (with_reducible exact LeO.refl _)
  | (with_reducible exact LeO.none _)
  | (with_reducible refine LeO.ite ?_ ?_)
  | (with_reducible refine LeO.bind ?_ (fun _ => ?_))
  | exact storagebarterref23_first.mono _ _
  | exact LeO.none _
  | refine LeO.ite ?_ ?_
  | refine LeO.bind ?_ (fun _ => ?_)
set_option maxRecDepth 100000 in
set_option maxHeartbeats 4000000 in
theorem storagebarterref23_say.calls (k : Nat) (a0_0 : Int) (a0_1 : Int) (a0_2 : Int) (a0_3 : Int) (a0_4 : Int) (a0_5 : Int) (a0_6 : Int) (a0_7 : Int) (a0_8 : Int) (a0_9 : Int) (a0_10 : Int) (a1_0 : Int) (a1_1 : Int) (a1_2 : Int) (a1_3 : Int) (a1_4 : Int) (a1_5 : Int) (a1_6 : Int) (a1_7 : Int) (a1_8 : Int) (a1_9 : Int) (a1_10 : Int) (r : Int) (w : World) (h : storagebarterref23_say.f k a0_0 a0_1 a0_2 a0_3 a0_4 a0_5 a0_6 a0_7 a0_8 a0_9 a0_10 a1_0 a1_1 a1_2 a1_3 a1_4 a1_5 a1_6 a1_7 a1_8 a1_9 a1_10 = some r) :
 Calls Try.prog 65 #[.agg #[.int .i64 a0_0, .int .i64 a0_1, .int .i64 a0_2, .int .i64 a0_3, .int .i64 a0_4, .int .i64 a0_5, .int .i64 a0_6, .int .i64 a0_7, .int .i64 a0_8, .int .i64 a0_9, .int .i64 a0_10], .agg #[.int .i64 a1_0, .int .i64 a1_1, .int .i64 a1_2, .int .i64 a1_3, .int .i64 a1_4, .int .i64 a1_5, .int .i64 a1_6, .int .i64 a1_7, .int .i64 a1_8, .int .i64 a1_9, .int .i64 a1_10]] w fun e w' => e = .returned (.int .i64 r) ∧ Below w.heap.size w w' := by
 unfold storagebarterref23_say.f at h
 simp only [Sry.num_is, Option.bind_some] at h
 have h1 := Sry.first_val _ _ _ (by rw [← h]; cases storagebarterref23_first.f k _ <;> rfl)
 subst h1
 exact Sry.say_x a0_0 a0_1 a0_2 a0_3 a0_4 a0_5 a0_6 a0_7 a0_8 a0_9 a0_10 a1_0 a1_1 a1_2 a1_3 a1_4 a1_5 a1_6 a1_7 a1_8 a1_9 a1_10 w
end Go.Proofs.Ytcjdnahgffkbdaa.Q
