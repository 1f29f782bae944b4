/- Changes are exchanged with their versions, a version does not change to itself, and each name is in the version that it is said to be in: for all choices. -/
import Derived.Test.YtodhkbahjomfhaaCManifestChanges3
import Derived.Test.YtodhkbahjomfhaaCManifestChanges4
import Derived.Shelf.SlSortCmp.QuietGrown
import Derived.StillTailTactics
import Derived.Deep.LoopGhost
import Derived.WalkArith
import Derived.Lib.Hide
import Derived.Test.YtodhkbahjomfhaaCManifestChanges1
import Derived.Shelf.GgSortFunc.RowK
import Derived.Shelf.GgSortFunc.InsertionK
import Derived.Shelf.SlSortCmp.NoneTotal
import Derived.Test.YtodhkbahjomfhaaProg
import Derived.Lib.SlicesCompact
import Derived.Lib.SliceRun
import Derived.StillTactics
namespace Go.Proofs.Ytodhkbahjomfhaa.Q
open Go.RowKit Go.Proofs.YtodhkbahjomfhaaW.PrintWords Go.Proofs.YtodhkbahjomfhaaW.PrintLast Go.Proofs.YtodhkbahjomfhaaW.PrintMore Go.Proofs.Ytodhkbahjomfhaa.Gput Go.Proofs.Ytodhkbahjomfhaa.Gputl
attribute [local go_sem] max2_int min2_int max_two min_two max_three min_three max_four min_four   -- for this text's walks alone
set_option linter.unusedVariables false
set_option linter.unusedSimpArgs false
attribute [local go_sem high] eqA78
noncomputable def storagebarterref08_SameNames.l0 : Nat → List (S78) → List (S78) → Int → Int → Option (Bool)
 | 0, _, _, _, _ => none
 | k + 1, x0, x1, x12, x13 => if x13 < x12 then (if 0 ≤ x13 then (if x13 < (x0.length : Int) then (if x13 < (x1.length : Int) then (if (!(((rd_T78 x0 x13).f0) == ((rd_T78 x1 x13).f0)) || (!(((rd_T78 x0 x13).f1) == ((rd_T78 x1 x13).f1)))) = true then (some false) else (storagebarterref08_SameNames.l0 k x0 x1 x12 (wrap64 (x13 + 1)))) else (none)) else (none)) else (none)) else (some true)
noncomputable def storagebarterref08_SameNames.f (k : Nat) (l0 : List (S78)) (l1 : List (S78)) : Option (Bool) := if (l0.length : Int) = (l1.length : Int) then (storagebarterref08_SameNames.l0 k l0 l1 (l0.length : Int) 0) else (some false)
set_option maxHeartbeats 8000000 in
set_option maxRecDepth 100000 in
theorem storagebarterref08_SameNames.calls (k : Nat) (A0 : Option Addr) (c0 : Nat) (l0 : List (S78)) (A1 : Option Addr) (c1 : Nat) (l1 : List (S78)) (r : Bool) (w : World) (hr0 : Kd.C k78 w A0 l0.length l0) (hc0 : l0.length ≤ c0) (hr1 : Kd.C k78 w A1 l1.length l1) (hc1 : l1.length ≤ c1) (h : storagebarterref08_SameNames.f k l0 l1 = some r) :
 Calls Try.prog 48 #[.slice A0 l0.length c0, .slice A1 l1.length c1] w fun e w' => e = .returned (.bool r) ∧ Drawn0 w w' := by
 have hu78 := Try.underlying78
 have HR0 := Aside0.mk hr0
 have HC0 := Aside0.mk hc0
 clear hr0 hc0
 have HR1 := Aside0.mk hr1
 have HC1 := Aside0.mk hc1
 clear hr1 hc1
 have H : (if (l0.length : Int) = (l1.length : Int) then (storagebarterref08_SameNames.l0 k l0 l1 (l0.length : Int) 0) else (some false)) = some r := h
 clear h
 by_cases c3 : (l0.length : Int) = (l1.length : Int)
 ·rw [if_pos c3] at H
  have c3b0 : ((l0.length : Int) == (l1.length : Int)) = true := beq_iff_eq.mpr c3
  have c3b1 : ((l0.length : Int) != (l1.length : Int)) = false := bne_eq_false_iff_eq.mpr c3
  have c3b2 : (l0.length == l1.length) = true := by first | simpa using c3 | (simp at c3 ⊢; omega)
  clear c3
  have H' := Aside0.mk H
  clear H
  go_enter Try.func48, Try.ntmps48
  go_wp2
  repeat (go_quiet (fail); try go_wp2)
  go_loopg [13] k (fun kq v13 w' => ∃ (x13_1 : Int), v13 = .int .i64 x13_1 ∧ Aside0 (storagebarterref08_SameNames.l0 kq l0 l1 (l0.length : Int) x13_1 = some r) ∧ Aside0 (kq ≤ k) ∧ Drawn0 w w')
  case atStart => exact ⟨(0), (by first | rfl | (simp; done) | (simp [*]; done)), H', ⟨Nat.le_refl _⟩, by repeat (first | exact Drawn0.refl _ | apply Drawn0.step)⟩
  case round =>
   clear H'
   try clear c1
   try clear p2
   try clear c3
   try clear c3b0
   try clear c3b1
   try clear c3b2
   obtain ⟨x13_1, rfl, HA, HK1, ⟨m1, rfl⟩⟩ := hrel
   cases gk with
   | zero => exact absurd HA.out (by simp [storagebarterref08_SameNames.l0])
   | succ k1 =>
    have H := HA.out
    clear HA
    simp only [storagebarterref08_SameNames.l0] at H
    by_cases c4 : x13_1 < (l0.length : Int)
    ·rw [if_pos c4] at H
     have c4b0 : decide (x13_1 < (l0.length : Int)) = true := decide_eq_true c4
     clear c4
     by_cases c5 : 0 ≤ x13_1
     ·rw [if_pos c5] at H
      have c5b0 : decide (0 ≤ x13_1) = true := decide_eq_true c5
      clear c5
      by_cases c6 : x13_1 < (l0.length : Int)
      ·rw [if_pos c6] at H
       have c6b0 : decide (x13_1 < (l0.length : Int)) = true := decide_eq_true c6
       clear c6
       by_cases c7 : x13_1 < (l1.length : Int)
       ·rw [if_pos c7] at H
        have c7b0 : decide (x13_1 < (l1.length : Int)) = true := decide_eq_true c7
        clear c7
        by_cases c8 : (!(((rd_T78 l0 x13_1).f0) == ((rd_T78 l1 x13_1).f0)) || (!(((rd_T78 l0 x13_1).f1) == ((rd_T78 l1 x13_1).f1)))) = true
        ·rw [if_pos c8] at H
         have c8b0 : (!(((rd_T78 l0 x13_1).f0) == ((rd_T78 l1 x13_1).f0)) || (!(((rd_T78 l0 x13_1).f1) == ((rd_T78 l1 x13_1).f1)))) = true := c8
         clear c8
         obtain rfl := Option.some.inj H
         have p602 : 0 ≤ (x13_1 : Int) := of_decide_eq_true (by first | (with_reducible assumption) | assumption)
         have q602 : x13_1 < (l0.length : Int) := of_decide_eq_true (by first | (with_reducible assumption) | assumption)
         obtain ⟨ad602, e602, hx602_0, hx602_1⟩ := at_T78 HR0.out x13_1 p602 q602
         cases e602
         replace p602 := eq_true p602
         replace q602 := eq_true q602
         have p603 : 0 ≤ (x13_1 : Int) := of_decide_eq_true (by first | (with_reducible assumption) | assumption)
         have q603 : x13_1 < (l1.length : Int) := of_decide_eq_true (by first | (with_reducible assumption) | assumption)
         obtain ⟨ad603, e603, hx603_0, hx603_1⟩ := at_T78 HR1.out x13_1 p603 q603
         cases e603
         replace p603 := eq_true p603
         replace q603 := eq_true q603
         go_wp2
         repeat (go_quiet (fail); try go_wp2)
         go_ret
         exact ⟨by first | rfl | (simp; done) | (simp [*]; done), by repeat (first | exact Drawn0.refl _ | apply Drawn0.step)⟩
        ·rw [if_neg c8] at H
         have c8b0 : (!(((rd_T78 l0 x13_1).f0) == ((rd_T78 l1 x13_1).f0)) || (!(((rd_T78 l0 x13_1).f1) == ((rd_T78 l1 x13_1).f1)))) = false := by simpa using c8
         clear c8
         have H' := Aside0.mk H
         clear H
         have p602 : 0 ≤ (x13_1 : Int) := of_decide_eq_true (by first | (with_reducible assumption) | assumption)
         have q602 : x13_1 < (l0.length : Int) := of_decide_eq_true (by first | (with_reducible assumption) | assumption)
         obtain ⟨ad602, e602, hx602_0, hx602_1⟩ := at_T78 HR0.out x13_1 p602 q602
         cases e602
         replace p602 := eq_true p602
         replace q602 := eq_true q602
         have p603 : 0 ≤ (x13_1 : Int) := of_decide_eq_true (by first | (with_reducible assumption) | assumption)
         have q603 : x13_1 < (l1.length : Int) := of_decide_eq_true (by first | (with_reducible assumption) | assumption)
         obtain ⟨ad603, e603, hx603_0, hx603_1⟩ := at_T78 HR1.out x13_1 p603 q603
         cases e603
         replace p603 := eq_true p603
         replace q603 := eq_true q603
         go_wp2
         repeat (go_quiet (fail); try go_wp2)
         go_roundg k1
         case measure => have := HK1.out; omega
         case rel => exact ⟨(wrap64 (x13_1 + 1)), (by first | rfl | (simp; done) | (simp [*]; done)), H', ⟨by have := HK1.out; omega⟩, by repeat (first | exact Drawn0.refl _ | apply Drawn0.step)⟩
       ·rw [if_neg c7] at H
        exact absurd H (by simp)
      ·rw [if_neg c6] at H
       exact absurd H (by simp)
     ·rw [if_neg c5] at H
      exact absurd H (by simp)
    ·rw [if_neg c4] at H
     have c4b0 : decide (x13_1 < (l0.length : Int)) = false := decide_eq_false c4
     clear c4
     obtain rfl := Option.some.inj H
     go_wp2
     repeat (go_quiet (fail); try go_wp2)
     go_ret
     exact ⟨by first | rfl | (simp; done) | (simp [*]; done), by repeat (first | exact Drawn0.refl _ | apply Drawn0.step)⟩
 ·rw [if_neg c3] at H
  have c3b0 : ((l0.length : Int) == (l1.length : Int)) = false := beq_eq_false_iff_ne.mpr c3
  have c3b1 : ((l0.length : Int) != (l1.length : Int)) = true := bne_iff_ne.mpr c3
  have c3b2 : (l0.length == l1.length) = false := by first | simpa using c3 | (simp at c3 ⊢; omega)
  obtain rfl := Option.some.inj H
  go_enter Try.func48, Try.ntmps48
  go_wp2
  repeat (go_quiet (fail); try go_wp2)
  go_ret
  exact ⟨by first | rfl | (simp; done) | (simp [*]; done), by repeat (first | exact Drawn0.refl _ | apply Drawn0.step)⟩
end Go.Proofs.Ytodhkbahjomfhaa.Q

namespace Go.Proofs.Ytodhkbahjomfhaa.Q
open Go Go.RowKit Go.Sort Go.Proofs Go.Proofs.YtodhkbahjomfhaaW.PrintWords Go.Proofs.YtodhkbahjomfhaaW.PrintLast Go.Proofs.YtodhkbahjomfhaaW.PrintMore
set_option linter.unusedVariables false
def cmpI (x y : Int) : Int := if x < y then -1 else if y < x then 1 else 0
def orI (x y : Int) : Int := if x = 0 then y else x
set_option maxRecDepth 100000 in
theorem isNaN_x (x : Int) (w : World) : Calls Try.prog 140 #[.int .i64 x] w fun e w' => e = .returned (.bool false) ∧ w' = w := by
 go_enter Try.func140, Try.ntmps140
 go_wp2
 go_ret
 exact ⟨rfl, rfl⟩
set_option maxRecDepth 100000 in
theorem cmpI_x (x y : Int) (w : World) : Calls Try.prog 126 #[.int .i64 x, .int .i64 y] w fun e w' => e = .returned (.int .i64 (cmpI x y)) ∧ w' = w := by
 by_cases h1 : x < y
 ·rw [show cmpI x y = -1 by unfold cmpI; rw [if_pos h1]]
  have hd := decide_eq_true h1
  go_enter Try.func126, Try.ntmps126
  go_wp2_with (go_at_call 140; with_reducible refine (isNaN_x _ _).mono ?_; rintro e w5 ⟨rfl, rfl⟩)
  go_ret
  exact ⟨rfl, rfl⟩
 ·have hd := decide_eq_false h1
  by_cases h2 : y < x
  ·rw [show cmpI x y = 1 by unfold cmpI; rw [if_neg h1, if_pos h2]]
   have hd2 := decide_eq_true h2
   go_enter Try.func126, Try.ntmps126
   go_wp2_with (go_at_call 140; with_reducible refine (isNaN_x _ _).mono ?_; rintro e w5 ⟨rfl, rfl⟩)
   go_ret
   exact ⟨rfl, rfl⟩
  ·rw [show cmpI x y = 0 by unfold cmpI; rw [if_neg h1, if_neg h2]]
   have hd2 := decide_eq_false h2
   go_enter Try.func126, Try.ntmps126
   go_wp2_with (go_at_call 140; with_reducible refine (isNaN_x _ _).mono ?_; rintro e w5 ⟨rfl, rfl⟩)
   go_ret
   exact ⟨rfl, rfl⟩
set_option maxRecDepth 100000 in
set_option maxHeartbeats 1000000 in
theorem orI_x (x y : Int) (g : Nat) (w : World) (h0 : w.cell? ⟨g, 0, none⟩ = some (.int .i64 x)) (h1 : w.cell? ⟨g, 1, none⟩ = some (.int .i64 y)) :
 Calls Try.prog 125 #[.slice (some ⟨g, 0, none⟩) 2 2] w fun e w' => e = .returned (.int .i64 (orI x y)) ∧ w' = w := by
 by_cases hx : x = 0
 ·subst hx
  by_cases hy : y = 0
  ·subst hy
   go_enter Try.func125, Try.ntmps125
   go_wp2
   refine wp_loop_rounds 3 ?_
   rw [rounds_succ]
   go_wp2
   rw [rounds_succ]
   go_wp2
   rw [rounds_succ]
   go_wp2
   go_ret
   exact ⟨rfl, rfl⟩
  ·have hb : (y == 0) = false := beq_eq_false_iff_ne.mpr hy
   go_enter Try.func125, Try.ntmps125
   go_wp2
   refine wp_loop_rounds 2 ?_
   rw [rounds_succ]
   go_wp2
   rw [rounds_succ]
   go_wp2
   go_ret
   exact ⟨rfl, rfl⟩
 ·rw [show orI x y = x by unfold orI; rw [if_neg hx]]
  have hb : (x == 0) = false := beq_eq_false_iff_ne.mpr hx
  go_enter Try.func125, Try.ntmps125
  go_wp2
  refine wp_loop_rounds 1 ?_
  rw [rounds_succ]
  go_wp2
  go_ret
  exact ⟨rfl, rfl⟩
def cmpN (x y : Int × Int) : Int := orI (cmpI x.1 y.1) (cmpI x.2 y.2)
set_option maxRecDepth 100000 in
set_option maxHeartbeats 2000000 in
theorem compare_x (x y : Int × Int) (w : World) : Calls Try.prog 105 #[.agg #[.int .i64 x.1, .int .i64 x.2], .agg #[.int .i64 y.1, .int .i64 y.2]] w fun e w' => e = .returned (.int .i64 (cmpN x y)) ∧ ∃ q os', w' = grow (w.drewN q) os' := by
 have mixed : (Try.prog).follows .mixedOrders = true := by kernel_rfl
 have hu78 := Try.underlying78
 obtain ⟨x1, x2⟩ := x
 obtain ⟨y1, y2⟩ := y
 have c1 := cmpI_x x1 y1
 have c2 := cmpI_x x2 y2
 have co := orI_x (cmpI x1 y1) (cmpI x2 y2)
 unfold cmpN
 generalize cmpI x1 y1 = r1 at c1 co ⊢
 generalize cmpI x2 y2 = r2 at c2 co ⊢
 generalize orI r1 r2 = r at co ⊢
 go_enter Try.func105, Try.ntmps105
 go_wp2_with fail
 refine wp_region_still_tail 10 (by kernel_rfl) (by kernel_rfl) ?_
 generalize hW : ((w.alloc (Obj.cells #[Value.int IntKind.i64 x1, Value.int IntKind.i64 x2] 78)).alloc (Obj.cells #[Value.int IntKind.i64 y1, Value.int IntKind.i64 y2] 78)) = W0
 have k0 : W0.heap[w.heap.size]? = some (.cells #[Value.int IntKind.i64 x1, Value.int IntKind.i64 x2] 78 (0, 0)) := by rw [← hW]; exact blk_alloc (heap_alloc_new w _) _
 have k1 : W0.heap[w.heap.size + 1]? = some (.cells #[Value.int IntKind.i64 y1, Value.int IntKind.i64 y2] 78 (0, 0)) := by
  have := heap_alloc_new (w.alloc (Obj.cells #[Value.int IntKind.i64 x1, Value.int IntKind.i64 x2] 78)) (Obj.cells #[Value.int IntKind.i64 y1, Value.int IntKind.i64 y2] 78)
  rw [hW] at this
  simpa using this
 have hx0 : W0.drew.cell? ⟨w.heap.size, 0, none⟩ = some (.int .i64 x1) := (blk_cell (blk_drew k0) 0).trans rfl
 have hx1 : W0.drew.cell? ⟨w.heap.size, 1, none⟩ = some (.int .i64 x2) := (blk_cell (blk_drew k0) 1).trans rfl
 have hy0 : W0.drew.cell? ⟨w.heap.size + 1, 0, none⟩ = some (.int .i64 y1) := (blk_cell (blk_drew k1) 0).trans rfl
 have hy1 : W0.drew.cell? ⟨w.heap.size + 1, 1, none⟩ = some (.int .i64 y2) := (blk_cell (blk_drew k1) 1).trans rfl
 have HW : Aside0 (∃ os', W0.drew = grow (w.drewN 1) os') := ⟨⟨_, by rw [← hW, alloc_eq_grow, alloc_eq_grow, grow_grow]; rfl⟩⟩
 change wpStill _ _ W0.drew (fun a' => wpList _ _ _ _ a' W0.drew) _ _
 clear k0 k1 hW
 generalize W0.drew = W at hx0 hx1 hy0 hy1 HW ⊢
 clear W0
 simp only [List.take_succ_cons, List.take_zero, List.drop_succ_cons, List.drop_zero]
 iterate 4 still_step
 still_call (c1 _)
 iterate 4 still_step
 still_call (c2 _)
 refine wpStill_nil ?_
 go_wp2_with (go_at_call 125; refine (co _ _ (blk_cell (heap_alloc_new W (.cells #[.int .i64 r1, .int .i64 r2] 3)) 0) (blk_cell (heap_alloc_new W (.cells #[.int .i64 r1, .int .i64 r2] 3)) 1)).mono ?_; rintro e w5 ⟨rfl, rfl⟩)
 go_ret
 obtain ⟨os, hos⟩ := HW.out
 exact ⟨rfl, 1, os ++ #[.cells #[.int .i64 r1, .int .i64 r2] 3], by rw [hos, alloc_eq_grow, grow_grow]⟩
end Go.Proofs.Ytodhkbahjomfhaa.Q

namespace Go.Proofs.Ytodhkbahjomfhaa.Gfl
open Go Go.RowKit Go.Sort Go.Proofs Go.Proofs.YtodhkbahjomfhaaW.PrintWords Go.Proofs.YtodhkbahjomfhaaW.PrintLast Go.Proofs.YtodhkbahjomfhaaW.PrintMore
set_option linter.unusedVariables false
structure Flat {α : Type} [Inhabited α] (d : Kd α) (k : Nat) (enc : α → List Value) : Prop where
 sz : d.sz = k
 pos : 0 < k
 len : ∀ x, (enc x).length = k
 one : ∀ x, ∀ v ∈ enc x, v.oneCell' = true
 op : ∀ {w base ok x cs}, d.M w base ok x cs → cs = enc x
 mkM : ∀ w base ok x, d.M w base ok x (enc x)
section
variable {α : Type} [Inhabited α] {d : Kd α} {k : Nat} {enc : α → List Value} {e : Nat} {w : World} {base : Nat} {ok : Nat → Prop} {v : Value} {xs : List α}
theorem cell_at {inner : List Value} {cs : List Value} {i j : Nat} (h : (inner.drop i).take k = cs) (hj : j < k) : inner[i + j]? = cs[j]? := by
 rw [← h, List.getElem?_take_of_lt hj, List.getElem?_drop]
theorem R_holds (F : Flat d k enc) (h : d.R e w base ok v xs) : (v = .slice none 0 0 ∧ xs = []) ∨
 ∃ g cap cur, v = .slice (some ⟨g, 0, none⟩) xs.length cap ∧ ok g ∧ base ≤ g ∧ w.heap[g]? = some (.cells cur e (0, 0)) ∧ xs.length ≤ cap ∧ cap ≤ maxLen ∧ cur.size = cap * k ∧ HoldsK enc k w g 0 xs.toArray := by
 obtain ⟨h0, inner, ho, hr⟩ := h
 rcases ho.2 with ⟨rfl, hn⟩ | ⟨g, cap, cur, rfl, hg, hb, h1, h2, h3, h4⟩
 ·exact .inl ⟨rfl, List.eq_nil_of_length_eq_zero hn⟩
 ·rw [F.sz] at h3 h4 hr
  refine .inr ⟨g, cap, cur, rfl, h0 g rfl, hg, hb, h1, h2, h3, fun t ht => ?_⟩
  have ht' : t < xs.length * k := by simpa using ht
  have k0 := F.pos
  have hi : t / k < xs.length := (Nat.div_lt_iff_lt_mul k0).2 ht'
  have hm : t % k < k := Nat.mod_lt _ k0
  refine ⟨?_, by simp [World.frozen?, hb]⟩
  have hp := F.op (hr.2 (t / k) _ (List.getElem?_eq_getElem hi))
  have hc := cell_at hp hm
  rw [show t / k * k + t % k = t by rw [Nat.mul_comm]; exact Nat.div_add_mod t k, ← h4, List.getElem?_take_of_lt ht', Array.getElem?_toList] at hc
  simp only [World.cell?, hb, Nat.zero_add, Option.isSome_none, Bool.false_eq_true, if_false, id_eq]
  rw [hc, get_flatK _ _ _ t (by simpa using ht')]
  have hl : t % k < (enc xs[t / k]).length := by rw [F.len]; exact hm
  rw [List.getElem?_eq_getElem hl]
  simp [hi, hl]
theorem heap_put {g n : Nat} {os : Array Obj} {cur : Array Value} {fr : Nat × Nat} (dk : Array α) (hb : w.heap[g]? = some (.cells cur e fr)) :
 (grow (putRowK enc k (Sort.ahead w n) g 0 dk) os).heap[g]? = some (.cells (putCells id 0 (flatK enc k dk) cur) e fr) := by
 have hg : g < w.heap.size := (Array.getElem?_eq_some_iff.1 hb).1
 rw [heap_grow_old _ _ (by simpa [putRowK] using hg)]
 simp [putRowK, putRow, mapBlock, Sort.ahead, Array.getElem?_modify, hb, onCells]
theorem grown_put {g n : Nat} {os : Array Obj} (dk : Array α) : w.grownBy (grow (putRowK enc k (Sort.ahead w n) g 0 dk) os) (some g) := by
 refine ⟨rfl, rfl, rfl, by simp [putRowK], fun j hj hne => ?_⟩
 rw [heap_grow_old _ _ (by simpa [putRowK] using hj)]
 have : g ≠ j := fun e => hne (by rw [e])
 simp [putRowK, putRow, mapBlock, Sort.ahead, Array.getElem?_modify, this]
theorem R_put (F : Flat d k enc) {g n cap m : Nat} {os : Array Obj} {cur : Array Value} (dk : Array α) (hb : w.heap[g]? = some (.cells cur e (0, 0))) (hok : ok g) (hbase : base ≤ g) (hd : dk.size ≤ cap) (h2 : cap ≤ maxLen) (h3 : cur.size = cap * k) (hm : m ≤ dk.size) :
 d.R e (grow (putRowK enc k (Sort.ahead w n) g 0 dk) os) base ok (.slice (some ⟨g, 0, none⟩) m cap) (dk.toList.take m) := by
 have hl : (dk.toList.take m).length = m := by rw [List.length_take, Array.length_toList]; omega
 have hmk : m * k ≤ dk.size * k := Nat.mul_le_mul_right k hm
 have hdk : dk.size * k ≤ cap * k := Nat.mul_le_mul_right k hd
 refine ⟨fun j hj => by simp [Value.ownBlock] at hj; subst hj; exact hok, (putCells id 0 (flatK enc k dk) cur).toList.take (m * k), ?_, ?_⟩
 ·rw [hl, F.sz]
  refine ⟨by simp [putCells]; omega, .inr ⟨g, cap, _, rfl, hbase, heap_put dk hb, by omega, h2, by simp [putCells, h3], rfl⟩⟩
 ·rw [F.sz]
  refine ⟨by rw [hl]; simp [putCells]; omega, fun j p hp => ?_⟩
  have hj : j < m := by
   have := (List.getElem?_eq_some_iff.1 hp).1
   omega
  have hjd : j < dk.size := by omega
  have hp' : dk[j]! = p := by
   rw [List.getElem?_take_of_lt hj, Array.getElem?_toList] at hp
   rw [getElem!_pos dk j hjd]
   rw [Array.getElem?_eq_getElem hjd] at hp
   exact Option.some.inj hp
  have hjk : j * k + k ≤ m * k := by rw [← Nat.succ_mul]; exact Nat.mul_le_mul_right k hj
  have : (((putCells id 0 (flatK enc k dk) cur).toList.take (m * k)).drop (j * k)).take k = enc p := by
   apply List.ext_getElem?
   intro i
   by_cases hi : i < k
   ·rw [List.getElem?_take_of_lt hi, List.getElem?_drop, List.getElem?_take_of_lt (by omega), Array.getElem?_toList]
    have hlt : j * k + i < dk.size * k := by omega
    have hc : j * k + i < cur.size := by omega
    have e1 : (j * k + i) / k = j := (blk_iff k j _ F.pos).1 ⟨by omega, by omega⟩
    have e2 : (j * k + i) % k = i := by rw [Nat.mod_eq_sub_div_mul, e1]; omega
    have hg := get_flatK enc k dk (j * k + i) hlt
    rw [e1, e2, hp'] at hg
    have hle : i < (enc p).length := by rw [F.len]; exact hi
    rw [List.getElem?_eq_getElem hle]
    rw [getElem!_pos (enc p) i hle] at hg
    simp only [putCells, Array.getElem?_mapIdx, Array.getElem?_eq_getElem hc, Option.map_some, Nat.zero_le, true_and, Nat.zero_add, size_flatK, if_pos hlt, Nat.sub_zero, id_eq]
    rw [hg]
   ·rw [List.getElem?_eq_none (by simp; omega), List.getElem?_eq_none (by rw [F.len]; omega)]
  rw [this]
  exact F.mkM _ _ _ _
end
end Go.Proofs.Ytodhkbahjomfhaa.Gfl

namespace Go.Proofs
open Go.Shelf
def Try.laysSn_ren : Go.Shelf.Ren := ⟨fun | 6 => 104 | 15 => 124 | 14 => 123 | 28 => 138 | 29 => 139 | 20 => 130 | 21 => 131 | 22 => 132 | 23 => 133 | 24 => 134 | 25 => 135 | 26 => 136 | 27 => 137 | 46 => 145 | 47 => 146 | 48 => 147 | 49 => 148 | 50 => 149 | 57 => 152 | n => n, fun | 22 => 30 | 24 => 78 | 25 => 152 | 3 => 3 | 39 => 142 | 0 => 0 | 53 => 186 | 55 => 141 | 4 => 4 | 46 => 179 | 45 => 178 | 50 => 183 | 5 => 5 | 9 => 9 | 66 => 192 | 70 => 117 | 76 => 197 | 77 => 198 | n => n, fun | n => n⟩
theorem Try.laysSn : Go.Proofs.SlLaysF0.n6 Try.prog Try.laysSn_ren := {
 mixed := by kernel_rfl
 f6 := ⟨Try.f104.name, by decide, Try.func104.trans (congrArg some (by kernel_rfl))⟩
 f14 := ⟨Try.f123.name, by decide, Try.func123.trans (congrArg some (by kernel_rfl))⟩
 f15 := Try.func124.trans (congrArg some (by kernel_rfl))
 f20 := ⟨Try.f130.name, by decide, Try.func130.trans (congrArg some (by kernel_rfl))⟩
 f21 := ⟨Try.f131.name, by decide, Try.func131.trans (congrArg some (by kernel_rfl))⟩
 f22 := ⟨Try.f132.name, by decide, Try.func132.trans (congrArg some (by kernel_rfl))⟩
 f23 := ⟨Try.f133.name, by decide, Try.func133.trans (congrArg some (by kernel_rfl))⟩
 f24 := ⟨Try.f134.name, by decide, Try.func134.trans (congrArg some (by kernel_rfl))⟩
 f25 := ⟨Try.f135.name, by decide, Try.func135.trans (congrArg some (by kernel_rfl))⟩
 f26 := ⟨Try.f136.name, by decide, Try.func136.trans (congrArg some (by kernel_rfl))⟩
 f27 := ⟨Try.f137.name, by decide, Try.func137.trans (congrArg some (by kernel_rfl))⟩
 f28 := Try.func138.trans (congrArg some (by kernel_rfl))
 f29 := Try.func139.trans (congrArg some (by kernel_rfl))
 f46 := ⟨Try.f145.name, by decide, Try.func145.trans (congrArg some (by kernel_rfl))⟩
 f47 := Try.func146.trans (congrArg some (by kernel_rfl))
 f48 := Try.func147.trans (congrArg some (by kernel_rfl))
 f49 := ⟨Try.f148.name, by decide, Try.func148.trans (congrArg some (by kernel_rfl))⟩
 f50 := ⟨Try.f149.name, by decide, Try.func149.trans (congrArg some (by kernel_rfl))⟩
 f57 := ⟨Try.f152.name, by decide, Try.func152.trans (congrArg some (by kernel_rfl))⟩
 t0 := Try.underlying0
 a0 := Try.isAgg0
 z0 := Try.sizeOf0
 v0 := Try.zeroValue0
 t3 := Try.underlying3
 a3 := Try.isAgg3
 z3 := Try.sizeOf3
 v3 := Try.zeroValue3
 t4 := Try.underlying4
 a4 := Try.isAgg4
 z4 := Try.sizeOf4
 v4 := Try.zeroValue4
 t5 := Try.underlying5
 a5 := Try.isAgg5
 z5 := Try.sizeOf5
 v5 := Try.zeroValue5
 t9 := Try.underlying9
 a9 := Try.isAgg9
 z9 := Try.sizeOf9
 v9 := Try.zeroValue9
 t22 := Try.underlying30
 a22 := Try.isAgg30
 z22 := Try.sizeOf30
 v22 := Try.zeroValue30
 t25 := Try.underlying152
 a25 := Try.isAgg152
 z25 := Try.sizeOf152
 v25 := Try.zeroValue152
 t39 := Try.underlying142
 a39 := Try.isAgg142
 z39 := Try.sizeOf142
 v39 := Try.zeroValue142
 t45 := Try.underlying178
 a45 := Try.isAgg178
 z45 := Try.sizeOf178
 v45 := Try.zeroValue178
 t46 := Try.underlying179
 a46 := Try.isAgg179
 z46 := Try.sizeOf179
 v46 := Try.zeroValue179
 t50 := Try.underlying183
 a50 := Try.isAgg183
 z50 := Try.sizeOf183
 v50 := Try.zeroValue183
 t53 := Try.underlying186
 a53 := Try.isAgg186
 z53 := Try.sizeOf186
 v53 := Try.zeroValue186
 t55 := Try.underlying141
 a55 := Try.isAgg141
 z55 := Try.sizeOf141
 v55 := Try.zeroValue141
 t66 := Try.underlying192
 a66 := Try.isAgg192
 z66 := Try.sizeOf192
 v66 := Try.zeroValue192
 t70 := Try.underlying117
 a70 := Try.isAgg117
 z70 := Try.sizeOf117
 v70 := Try.zeroValue117
 t76 := Try.underlying197
 a76 := Try.isAgg197
 z76 := Try.sizeOf197
 v76 := Try.zeroValue197
 t77 := Try.underlying198
 a77 := Try.isAgg198
 z77 := Try.sizeOf198
 v77 := Try.zeroValue198 }
end Go.Proofs

namespace Go.Proofs.Ytodhkbahjomfhaa.Q
open Go Go.RowKit Go.Sort Go.Shelf Go.Proofs Go.Proofs.Ytodhkbahjomfhaa.Gfl Go.Proofs.YtodhkbahjomfhaaW.PrintWords Go.Proofs.YtodhkbahjomfhaaW.PrintLast Go.Proofs.YtodhkbahjomfhaaW.PrintMore
set_option linter.unusedVariables false
instance : Inhabited S78 := ⟨⟨0, 0⟩⟩
def enN (x : S78) : List Value := [.int .i64 x.f0, .int .i64 x.f1]
theorem flatN : Flat k78 2 enN where
 sz := rfl
 pos := by decide
 len := fun _ => rfl
 one := fun x v hv => by simp only [enN, List.mem_cons, List.not_mem_nil, or_false] at hv; rcases hv with rfl | rfl <;> rfl
 op := fun h => k78_openM h
 mkM := fun w base ok x => k78_mkM w base ok x
def cfN (x y : S78) : Int := cmpN (x.f0, x.f1) (y.f0, y.f1)
def ltN (x y : S78) : Prop := x.f0 < y.f0 ∨ x.f0 = y.f0 ∧ x.f1 < y.f1
theorem ltN_eq (x y : S78) : ltOf cfN x y = true ↔ ltN x y := by
 unfold ltOf cfN cmpN orI cmpI ltN
 simp only
 by_cases h1 : x.f0 < y.f0
 ·simp [h1]
 ·by_cases h2 : y.f0 < x.f0
  ·simp [h1, h2]
   omega
  ·by_cases h3 : x.f1 < y.f1
   ·simp [h1, h2, h3]
    omega
   ·by_cases h4 : y.f1 < x.f1 <;> simp [h1, h2, h3, h4]
theorem ltN_not (x y : S78) : ltOf cfN x y = false ↔ ¬ ltN x y := by
 rw [← ltN_eq, Bool.not_eq_true]
theorem swoN : SWO (ltOf cfN) where
 irrefl x := by rw [ltN_not]; unfold ltN; omega
 trans x y z h1 h2 := by rw [ltN_eq] at *; unfold ltN at *; omega
 ntrans x y z h1 h2 := by rw [ltN_not] at *; unfold ltN at *; omega
theorem totN (x y : S78) (h1 : ltOf cfN x y = false) (h2 : ltOf cfN y x = false) : x = y := by
 rw [ltN_not] at h1 h2
 unfold ltN at h1 h2
 obtain ⟨a, b⟩ := x
 obtain ⟨c, d⟩ := y
 simp only at h1 h2
 obtain ⟨rfl, rfl⟩ : a = c ∧ b = d := by omega
 rfl
noncomputable def srtN (l : List S78) : List S78 := l.mergeSort fun x y => !(ltOf cfN) y x
theorem layN (blk off size : Nat) (w : World) : CmpLays Try.prog 105 #[] enN 2 cfN blk off size w :=
 fun _ _ _ _ x y => compare_x (x.f0, x.f1) (y.f0, y.f1) _
theorem sortN_calls {w0 w : World} {base : Nat} {ok : Nat → Prop} {v : Value} {xs : List S78} (h : Kd.R k78 78 w base ok v xs) (hB : Below base w0 w) (hl : xs.length < 4611686018427387904) :
 Calls Try.prog 104 #[v, .func (.func 105) #[] #[]] w fun en w' => en = .returned (.tuple #[]) ∧ Kd.R k78 78 w' base ok v (srtN xs) ∧ w.grownBy w' v.ownBlock ∧ Below base w0 w' := by
 have eg : ∀ args w, (callFunc 105 args).run Try.prog w = .ok (.enter 105 args) w := enters_of Try.func105 (by kernel_rfl) rfl
 rcases R_holds flatN h with ⟨rfl, rfl⟩ | ⟨g, cap, cur, rfl, hok, hg, hb, h1, h2, h3, hH⟩
 ·have hcon := AnyF.slices_SortFunc_none (P := Try.prog) Try.laysSn none 0 (.func (.func 105) #[] #[]) w
  refine hcon.mono ?_
  rintro en w' ⟨rfl, rfl⟩
  exact ⟨rfl, by simpa [srtN] using h, ⟨rfl, rfl, rfl, Nat.le_refl _, fun _ _ _ => rfl⟩, hB⟩
 ·have hcon := AnyQ.slices_SortFunc_total Try.laysSn 2 Try.isAgg78 Try.sizeOf78 enN flatN.len flatN.one cfN swoN 105 #[] g 0 cap xs.toArray w eg (layN g 0 _ w) hH (Array.getElem?_eq_some_iff.1 hb).1 (by simpa using hl) totN
  refine hcon.mono ?_
  rintro en w' ⟨rfl, n, os, rfl⟩
  have hls : (srtN xs).length = xs.length := List.length_mergeSort xs
  have hR := R_put (w := w) (n := n) (os := os) (m := xs.length) (base := base) (ok := ok) flatN (srtN xs).toArray hb hok hg (by simpa [hls] using h1) h2 h3 (by simp [hls])
  have hG := grown_put (w := w) (g := g) (n := n) (os := os) (k := 2) (enc := enN) (srtN xs).toArray
  rw [← hls, List.take_length, hls] at hR
  exact ⟨rfl, hR, hG, hB.grown hG (Nat.le_trans hg (Nat.le_of_lt (Array.getElem?_eq_some_iff.1 hb).1)) (fun j hj => by cases hj; exact hg)⟩
end Go.Proofs.Ytodhkbahjomfhaa.Q

namespace Go.Proofs.Ytodhkbahjomfhaa.Q
open Go
instance decN : DecidableEq S78 := fun x y => decidable_of_iff (x.f0 = y.f0 ∧ x.f1 = y.f1) (by cases x; cases y; simp)
end Go.Proofs.Ytodhkbahjomfhaa.Q

namespace Go.Proofs.Ytodhkbahjomfhaa.Q
attribute [local go_sem high] eqA78
open Go Go.RowKit Go.Sort Go.Lib Go.Proofs Go.Proofs.Ytodhkbahjomfhaa.Gfl Go.Proofs.YtodhkbahjomfhaaW.PrintWords Go.Proofs.YtodhkbahjomfhaaW.PrintLast Go.Proofs.YtodhkbahjomfhaaW.PrintMore
set_option linter.unusedVariables false
section
variable {α : Type} [Inhabited α] {k : Nat} {enc : α → List Value}
theorem setMany_set (hk : ∀ x, (enc x).length = k) (d : Array α) (i : Nat) (hi : i < d.size) (x : α) : setMany (flatK enc k d) (i * k) (enc x) = flatK enc k (d.setIfInBounds i x) := by
 refine ext_get! (by simp) fun t ht => ?_
 have ht' : t < d.size * k := by simpa using ht
 have k0 : 0 < k := by
  rcases Nat.eq_zero_or_pos k with h | h
  ·subst h; simp at ht'
  ·exact h
 rw [get_setMany _ _ _ t (by simpa using ht'), get_flatK _ _ _ t ht', get_flatK _ _ _ t (by simpa using ht'), hk]
 by_cases b : t / k = i
 ·rw [if_pos ((blk_iff k i t k0).2 b), b, getElem!_set_same _ _ _ hi]
  congr 1
  rw [Nat.mod_eq_sub_div_mul, b]
 ·rw [if_neg (fun h => b ((blk_iff k i t k0).1 h)), getElem!_set_other _ _ _ _ b]
theorem store_K (hk : ∀ x, (enc x).length = k) (w : World) (n blk : Nat) (dk : Array α) (i : Nat) (hi : i < dk.size) (x : α) :
 (putRowK enc k (Sort.ahead w n) blk 0 dk).setCells blk (i * k) (enc x) = putRowK enc k (Sort.ahead w n) blk 0 (dk.setIfInBounds i x) := by
 have hle : i * k + k ≤ dk.size * k := by
  have := Nat.mul_le_mul_right k (show i + 1 ≤ dk.size from hi)
  rwa [Nat.add_mul, Nat.one_mul] at this
 have := setCells_putRow (Sort.ahead w n) blk 0 (enc x) (i * k) (flatK enc k dk) (by rw [hk, size_flatK]; exact hle)
 rw [Nat.zero_add] at this
 unfold putRowK
 rw [this, setMany_set hk dk i hi x]
theorem R_beyond {d : Kd α} {e : Nat} {base : Nat} {ok : Nat → Prop} {g m cap : Nat} {ds : List α} (F : Flat d k enc) : ∀ (vs : List Value) (o : Nat) (w : World), m * k ≤ o → d.R e w base ok (.slice (some ⟨g, 0, none⟩) m cap) ds → d.R e (w.setCells g o vs) base ok (.slice (some ⟨g, 0, none⟩) m cap) ds
 | [], _, _, _, h => h
 | v :: r, o, w, ho, h => by
  refine R_beyond F r (o + 1) _ (by omega) ?_
  obtain ⟨h0, inner, hw, hr⟩ := h
  refine ⟨h0, inner, ?_, hr.imp_ (fun p c hp => by rw [F.op hp]; exact F.mkM _ _ _ _)⟩
  obtain ⟨hl, hw⟩ := hw
  refine ⟨hl, ?_⟩
  rcases hw with ⟨hv, _⟩ | ⟨g', cap', cur, hv, hg, hb, h1, h2, h3, h4⟩
  ·cases hv
  ·injection hv with e1 e2 e3
   injection e1 with e1
   injection e1 with e1
   subst e1 e2 e3
   refine .inr ⟨g, cap, cur.setIfInBounds o v, rfl, hg, ?_, h1, h2, by simpa using h3, ?_⟩
   ·simp [World.setCell, Array.getElem?_modify, hb]
   ·rw [← h4, F.sz, Array.toList_setIfInBounds, List.take_set_of_le (by rw [← F.sz]; rw [F.sz]; exact ho)]
theorem grown_setCells {g : Nat} : ∀ (vs : List Value) (o : Nat) (w : World), w.grownBy (w.setCells g o vs) (some g)
 | [], _, _ => ⟨rfl, rfl, rfl, Nat.le_refl _, fun _ _ _ => rfl⟩
 | v :: r, o, w => by
  have h1 : w.grownBy (w.setCell ⟨g, o, none⟩ v) (some g) := ⟨rfl, rfl, rfl, by simp [World.setCell], fun j hj hne => Below.heap_setCell _ _ _ _ (fun e => hne (by rw [e]))⟩
  have h2 := grown_setCells (g := g) r (o + 1) (w.setCell ⟨g, o, none⟩ v)
  exact ⟨h2.os.trans h1.os, h2.tape.trans h1.tape, h2.output.trans h1.output, Nat.le_trans h1.size h2.size, fun j hj hne => (h2.block j (Nat.lt_of_lt_of_le hj h1.size) hne).trans (h1.block j hj hne)⟩
end
theorem run_clearN (w : World) (ty : TypeId) (b o n c : Nat) (hn : 0 < n) (hc : ∀ j, j < n * 2 → (w.cell? ⟨b, o + j, none⟩).isSome = true) (hf : ∀ j, j < n * 2 → w.frozen? ⟨b, o + j, none⟩ = false) :
 (Builtin.clear_ #[30] ty #[.slice (some ⟨b, o, none⟩) n c]).run Try.prog w = .ok (.tuple #[]) (w.setCells b o (List.replicate (n * 2) (.int .i64 0))) := by
 have hz : ∀ w, (zeroValue 78).run Try.prog w = .ok (.agg #[.int .i64 0, .int .i64 0]) w := Try.zeroValue78
 have hzc : (Builtin.zeroCells (Value.agg #[.int .i64 0, .int .i64 0]).cells n).toList = List.replicate (n * 2) (.int .i64 0) := by
  simp [Builtin.zeroCells, Value.cells]
  apply List.ext_getElem
  ·simp
  ·intro i h1 h2
   simp
   rcases Nat.mod_two_eq_zero_or_one i with h | h <;> simp [h]
 have hst := run_storeCells_cells (P := Try.prog) b o (List.replicate (n * 2) (.int .i64 0)) 0 w (by simpa using hc) (by simpa using hf) (by intro v hv'; rw [List.eq_of_mem_replicate hv']; rfl)
 simp only [Nat.add_zero] at hst
 obtain ⟨m, rfl⟩ : ∃ m, n = m + 1 := ⟨n - 1, by omega⟩
 simp [Builtin.clear_, run_underlying Try.underlying30, hz, hzc, hst]
theorem cellN {w : World} {g : Nat} {d : Array S78} (h : HoldsK enN 2 w g 0 d) {i : Nat} (hi : i < d.size) :
 (w.cell? ⟨g, i * 2, none⟩ = some (.int .i64 d[i]!.f0) ∧ w.frozen? ⟨g, i * 2, none⟩ = false) ∧ (w.cell? ⟨g, i * 2 + 1, none⟩ = some (.int .i64 d[i]!.f1) ∧ w.frozen? ⟨g, i * 2 + 1, none⟩ = false) := by
 have h0 := h.cell hi (c := 0) (by decide)
 have h1 := h.cell hi (c := 1) (by decide)
 simp only [Nat.zero_add, Nat.add_zero] at h0 h1
 exact ⟨h0, h1⟩
set_option maxHeartbeats 4000000 in
set_option maxRecDepth 1000000 in
theorem compactN_arr (g cap : Nat) (d : Array S78) (w : World) (hH : HoldsK enN 2 w g 0 d) (hsz : d.size ≤ 1000000) (hcap : d.size ≤ cap) (hcm : cap ≤ maxLen) :
 Calls Try.prog 107 #[.slice (some ⟨g, 0, none⟩) d.size cap] w fun e w' => e = .returned (.slice (some ⟨g, 0, none⟩) (compactUpTo d d.size).length cap) ∧
  ∃ q dk vs, w' = (putRowK enN 2 (Sort.ahead w q) g 0 dk).setCells g ((compactUpTo d d.size).length * 2) vs ∧ dk.size = d.size ∧ dk.toList.take (compactUpTo d d.size).length = compactUpTo d d.size := by
 have mixed : (Try.prog).follows .mixedOrders = true := by kernel_rfl
 have hu78 := Try.underlying78
 have same : ∀ q, (∀ j, j < d.size → keeps d j = true) → (compactUpTo d d.size).length = d.size ∧ ∃ q' dk vs, w.drewN q = (putRowK enN 2 (Sort.ahead w q') g 0 dk).setCells g ((compactUpTo d d.size).length * 2) vs ∧ dk.size = d.size ∧ dk.toList.take (compactUpTo d d.size).length = compactUpTo d d.size := by
  intro q hall
  have e : compactUpTo d d.size = d.toList := by rw [compactUpTo_all d _ hall, range_map_get]
  rw [e]
  exact ⟨by simp, q, d, [], (putRowK_self enN 2 (Sort.ahead w q) g 0 d (holdsK_ahead enN 2 w q g 0 d hH)).symm, rfl, by rw [List.take_length]⟩
 have HS := Aside0.mk same
 clear same
 by_cases h2 : d.size < 2
 ·have hd2 : decide ((d.size : Int) < 2) = true := decide_eq_true (by omega)
  have HH := Aside0.mk hH
  clear hH
  go_enter Try.func107, Try.ntmps107
  go_wp2
  go_ret
  obtain ⟨e1, e2⟩ := HS.out 0 (fun j hj => keeps_lt_one d j (by omega))
  exact ⟨by rw [e1]; rfl, e2⟩
 ·have hd2 : decide ((d.size : Int) < 2) = false := decide_eq_false (by omega)
  have H2 := Aside0.mk h2
  clear h2
  go_enter Try.func107, Try.ntmps107
  go_wp2
  go_loopg [3] d.size (fun gk s3 wr => ∃ k q : Nat, 1 ≤ k ∧ k ≤ d.size ∧ d.size - k ≤ gk ∧ s3 = .int .i64 k ∧ wr = w.drewN q ∧ Aside0 (∀ j, j < k → keeps d j = true))
  case atStart => exact ⟨1, 0, Nat.le_refl _, by have := H2.out; omega, by omega, rfl, rfl, ⟨keeps_lt_one d⟩⟩
  case round =>
   obtain ⟨k, q, hk1, hk, hg, rfl, rfl, hall⟩ := hrel
   by_cases hlt : k < d.size
   ·obtain ⟨⟨c1, f1⟩, c1', f1'⟩ := cellN hH hlt
    obtain ⟨⟨c0, f0⟩, c0', f0'⟩ := cellN hH (show k - 1 < d.size by omega)
    have HH := Aside0.mk hH
    clear hH
    generalize hx : d[k]! = x at c1 c1'
    generalize hy : d[k - 1]! = y at c0 c0'
    have B : Aside0 (d[k]! = x ∧ d[k - 1]! = y) := ⟨⟨hx, hy⟩⟩
    clear hx hy
    obtain ⟨x0, x1⟩ := x
    obtain ⟨y0, y1⟩ := y
    simp only at c1 c1' c0 c0'
    by_cases hdup : (x0 == y0 && (x1 == y1)) = true
    ·go_wp2_with fail
     go_quiet (fail)
     go_wp2
     clear c0 c1 f0 f1 c0' c1' f0' f1'
     have HD : d[k]! = d[k - 1]! := by
      rw [B.out.1, B.out.2]
      simp only [Bool.and_eq_true, beq_iff_eq] at hdup
      rw [hdup.1, hdup.2]
     have HK := Aside0.mk (keeps_neg (by omega) HD)
     clear HD hdup B
     go_loopg [3, 5] d.size (fun gk2 s3 s5 wr => ∃ (kk k2 q2 : Nat) (dk : Array S78), s3 = .int .i64 kk ∧ s5 = .int .i64 k2 ∧ 1 ≤ k2 ∧ k + k2 ≤ d.size ∧ d.size - (k + k2) ≤ gk2 ∧ Aside0 (wr = putRowK enN 2 (Sort.ahead w q2) g 0 dk) ∧ Aside0 (CompInv d (k + k2) kk dk))
     case atStart => exact ⟨k, 1, q + nq, d, rfl, rfl, Nat.le_refl _, by omega, by omega, ⟨(putRowK_self enN 2 (Sort.ahead w (q + nq)) g 0 d (holdsK_ahead enN 2 w _ g 0 d HH.out)).symm⟩, ⟨CompInv.start hall.out HK.out⟩⟩
     case round =>
      obtain ⟨kk, k2, q2, dk, rfl, rfl, h1, hle, hg2, W2, I2⟩ := hrel
      have hkk := I2.out.lt
      have hds := I2.out.size
      have hHk : HoldsK enN 2 wr g 0 dk := by rw [W2.out]; exact holdsK_putRowK enN 2 _ g 0 d dk (holdsK_ahead enN 2 w q2 g 0 d HH.out) hds
      by_cases hlt2 : k + k2 < d.size
      ·obtain ⟨⟨cm, fm⟩, cm', fm'⟩ := cellN hHk (show k + k2 < dk.size by omega)
       obtain ⟨⟨cp, fp⟩, cp', fp'⟩ := cellN hHk (show k + k2 - 1 < dk.size by omega)
       obtain ⟨⟨ck, fk⟩, ck', fk'⟩ := cellN hHk (show kk < dk.size by omega)
       rw [I2.out.high (k + k2) (by omega)] at cm cm'
       rw [I2.out.high (k + k2 - 1) (by omega)] at cp cp'
       rw [show (k + k2) * 2 = k * 2 + k2 * 2 by omega] at cm fm cm' fm'
       rw [show (k + k2 - 1) * 2 = k * 2 + (k2 - 1) * 2 by omega] at cp fp cp' fp'
       clear hHk
       generalize hu : d[k + k2]! = u at cm cm'
       generalize hv : d[k + k2 - 1]! = v at cp cp'
       generalize dk[kk]! = old at ck ck'
       have C : Aside0 (d[k + k2]! = u ∧ d[k + k2 - 1]! = v) := ⟨⟨hu, hv⟩⟩
       clear hu hv
       obtain ⟨u0, u1⟩ := u
       obtain ⟨v0, v1⟩ := v
       simp only at cm cm' cp cp'
       by_cases huv : (u0 == v0 && (u1 == v1)) = true
       ·go_wp2_with fail
        go_quiet (fail)
        go_wp2
        go_roundg (d.size - (k + (k2 + 1)))
        case measure => omega
        case rel =>
         have HE : d[k + k2]! = d[k + k2 - 1]! := by
          rw [C.out.1, C.out.2]
          simp only [Bool.and_eq_true, beq_iff_eq] at huv
          rw [huv.1, huv.2]
         exact ⟨kk, k2 + 1, q2 + nq, dk, rfl, by go_num, by omega, by omega, Nat.le_refl _, ⟨by rw [W2.out]; exact putRowK_drewN enN 2 w q2 nq g 0 dk⟩, ⟨I2.out.skip (keeps_neg (by omega) HE)⟩⟩
       ·have hne : (u0 == v0 && (u1 == v1)) = false := by simpa using huv
        go_wp2_with fail
        go_quiet (fail)
        go_wp2
        go_roundg (d.size - (k + (k2 + 1)))
        case measure => omega
        case rel =>
         have HE : d[k + k2]! ≠ d[k + k2 - 1]! := by
          rw [C.out.1, C.out.2]
          intro hh
          injection hh with h5 h6
          subst h5 h6
          simp at hne
         refine ⟨kk + 1, k2 + 1, q2 + nq, dk.setIfInBounds kk d[k + k2]!, by go_num, by go_num, by omega, by omega, Nat.le_refl _, ⟨?_⟩, ⟨I2.out.keep hlt2 (keeps_pos HE)⟩⟩
         have hs := store_K (enc := enN) (k := 2) (fun _ => rfl) w (q2 + nq) g dk kk (by omega) d[k + k2]!
         rw [← hs, ← putRowK_drewN, ← W2.out, C.out.1]
         rfl
      ·have hend : k + k2 = d.size := by omega
       have hcl : ∀ ty, (Builtin.clear_ #[30] ty #[.slice (some ⟨g, kk * 2, none⟩) (d.size - kk) (cap - kk)]).run Try.prog wr = .ok (.tuple #[]) (wr.setCells g (kk * 2) (List.replicate ((d.size - kk) * 2) (.int .i64 0))) := by
        intro ty
        refine run_clearN wr ty g (kk * 2) (d.size - kk) (cap - kk) (by omega) (fun j hj => ?_) (fun j hj => ?_)
        ·have := (hHk (kk * 2 + j) (by simp; omega)).1
         rw [Nat.zero_add] at this
         rw [this]
         rfl
        ·have := (hHk (kk * 2 + j) (by simp; omega)).2
         rwa [Nat.zero_add] at this
       clear hHk
       go_wp2
       go_ret
       have hI := I2.out
       rw [hend] at hI
       refine ⟨by rw [hI.len]; rfl, q2, dk, _, by rw [hI.len, ← W2.out], hds, ?_⟩
       apply List.ext_getElem?
       intro j
       by_cases hj : j < kk
       ·rw [hI.len, List.getElem?_take_of_lt hj, hI.low j hj, Array.getElem?_toList, Array.getElem?_eq_getElem (by omega), getElem!_pos dk j (by omega)]
       ·rw [hI.len, List.getElem?_eq_none (by rw [List.length_take]; omega), List.getElem?_eq_none (by rw [hI.len]; omega)]
    ·have hne : (x0 == y0 && (x1 == y1)) = false := by simpa using hdup
     go_wp2_with fail
     go_quiet (fail)
     go_wp2
     go_roundg (d.size - (k + 1))
     case measure => omega
     case rel =>
      refine ⟨k + 1, q + nq, by omega, by omega, Nat.le_refl _, by go_num, rfl, ⟨fun j hj => ?_⟩⟩
      by_cases e : j = k
      ·subst e
       refine keeps_pos ?_
       rw [B.out.1, B.out.2]
       intro hh
       injection hh with h5 h6
       subst h5 h6
       simp at hne
      ·exact hall.out j (by omega)
   ·have hkd : k = d.size := by omega
    subst hkd
    have HH := Aside0.mk hH
    clear hH
    go_wp2
    go_ret
    obtain ⟨e1, e2⟩ := HS.out q hall.out
    exact ⟨by rw [e1]; rfl, e2⟩
theorem compactN_none (w : World) : Calls Try.prog 107 #[.slice none 0 0] w fun e w' => e = .returned (.slice none 0 0) ∧ w' = w := by
 go_enter Try.func107, Try.ntmps107
 go_wp2
 go_ret
 exact ⟨rfl, rfl⟩
theorem compactN_calls {w0 w : World} {base : Nat} {ok : Nat → Prop} {v : Value} {xs : List S78} (h : Kd.R k78 78 w base ok v xs) (hB : Below base w0 w) (hl : xs.length ≤ 1000000) :
 Calls Try.prog 107 #[v] w fun en w' => ∃ v', en = .returned v' ∧ Kd.R k78 78 w' base ok v' (Lib.compact xs) ∧ w.grownBy w' v.ownBlock ∧ Below base w0 w' := by
 rcases R_holds flatN h with ⟨rfl, rfl⟩ | ⟨g, cap, cur, rfl, hok, hg, hb, h1, h2, h3, hH⟩
 ·refine (compactN_none w).mono ?_
  rintro en w' ⟨rfl, rfl⟩
  exact ⟨_, rfl, by simpa [Lib.compact, Lib.compactUpTo] using h, ⟨rfl, rfl, rfl, Nat.le_refl _, fun _ _ _ => rfl⟩, hB⟩
 ·have hcon := compactN_arr g cap xs.toArray w hH (by simpa using hl) (by simpa using h1) h2
  have hsz : xs.toArray.size = xs.length := by simp
  rw [hsz] at hcon
  refine hcon.mono ?_
  rintro en w' ⟨rfl, q, dk, vs, rfl, hd, ht⟩
  change dk.toList.take (Lib.compact xs).length = Lib.compact xs at ht
  have hle : (Lib.compact xs).length ≤ dk.size := by
   have h5 := congrArg List.length ht
   rw [List.length_take] at h5
   exact Nat.le_trans (Nat.le_of_eq h5.symm) (Nat.le_trans (Nat.min_le_right _ _) (Nat.le_of_eq Array.length_toList))
  have hP := R_put (w := w) (n := q) (os := #[]) (m := (Lib.compact xs).length) (base := base) (ok := ok) flatN dk hb hok hg (by rw [hd]; exact h1) h2 h3 hle
  have hG := grown_put (w := w) (g := g) (n := q) (os := #[]) (k := 2) (enc := enN) dk
  rw [grow_empty] at hP hG
  rw [ht] at hP
  have hR := R_beyond flatN vs ((Lib.compact xs).length * 2) _ (Nat.le_refl _) hP
  have hG2 := grown_setCells (g := g) vs ((Lib.compact xs).length * 2) (putRowK enN 2 (Sort.ahead w q) g 0 dk)
  have hG3 : w.grownBy ((putRowK enN 2 (Sort.ahead w q) g 0 dk).setCells g ((Lib.compact xs).length * 2) vs) (some g) := ⟨hG2.os.trans hG.os, hG2.tape.trans hG.tape, hG2.output.trans hG.output, Nat.le_trans hG.size hG2.size, fun j hj hne => (hG2.block j (Nat.lt_of_lt_of_le hj hG.size) hne).trans (hG.block j hj hne)⟩
  exact ⟨_, rfl, hR, hG3, hB.grown hG3 (Nat.le_trans hg (Nat.le_of_lt (Array.getElem?_eq_some_iff.1 hb).1)) (fun j hj => by cases hj; exact hg)⟩
end Go.Proofs.Ytodhkbahjomfhaa.Q

namespace Go.Proofs.Ytodhkbahjomfhaa.Q
open Go Go.RowKit Go.Proofs.YtodhkbahjomfhaaW.PrintWords Go.Proofs.YtodhkbahjomfhaaW.PrintLast Go.Proofs.YtodhkbahjomfhaaW.PrintMore
set_option linter.unusedVariables false
def api_Name_106.f (l : List S78) : Option (List S78) := if l.length ≤ 1000000 then some l else none
theorem name_KM {w : World} {base : Nat} {ok : Nat → Prop} (x : S78) (cs : List Value) (h : k78.K w x cs) : k78.M w base ok x cs := by
 obtain rfl := k78_open h
 exact k78_mkM _ _ _ _
set_option maxHeartbeats 1000000 in
set_option maxRecDepth 100000 in
theorem api_Name_106.calls (A0 : Option Addr) (c0 : Nat) (l0 : List S78) (r : List S78) (w : World) (hr0 : Kd.C k78 w A0 l0.length l0) (hc0 : l0.length ≤ c0) (h : api_Name_106.f l0 = some r) :
 Calls Try.prog 106 #[.slice A0 l0.length c0] w fun e w' => ∃ v0_ : Value, e = .returned v0_ ∧ Kd.R k78 78 w' w.heap.size (fun _ => True) v0_ r ∧ Below w.heap.size w w' := by
 unfold api_Name_106.f at h
 split at h
 case isFalse => cases h
 case isTrue hle =>
 obtain rfl := Option.some.inj h
 clear h
 have q22 := fun (w : World) (a : Option Addr) (n c n' c' : Nat) => Lib.run_eql_slice_nil (P := Try.prog) w 30 78 a n c n' c' Try.underlying30
 have HR := Aside0.mk hr0
 have HL := Aside0.mk hle
 have HC := Aside0.mk hc0
 clear hr0 hle hc0
 cases A0 with
 | none =>
  have hn : l0 = [] := by
   rcases Nat.eq_zero_or_pos l0.length with e | e
   ·exact List.eq_nil_of_length_eq_zero e
   ·obtain ⟨ad, e2, -⟩ := HR.out.2.2 e
    cases e2
  subst hn
  go_enter Try.func106, Try.ntmps106
  go_wp2
  go_ret
  exact ⟨_, rfl, Kd.R_nil _ _ _ _ _, Below.refl _ _⟩
 | some ad =>
  go_enter Try.func106, Try.ntmps106
  go_wp2_with (at_builtin; refine Kd.R_append_rows k78 (w0 := w) w.heap.size rfl (.tmp 5) (.tmp 6) 30 78 (.agg #[(.int .i64 0), (.int .i64 0)]) 16 rfl Try.underlying30 info78 rfl (by decide) (by omega) (.slice (some ⟨w.heap.size, 0, none⟩) 0 0) ([] : List S78) l0 _ _ _ (fun _ => True) (fun _ => False) rfl rfl ?aO ?aR (fun x cs hx => name_KM x cs hx) (fun _ h => h.elim) ?aF ?aB ?aS ?aL ?_)
  case aO => exact ⟨fun _ _ => trivial, [], World.ownsRow_made w #[] 0 (Nat.le_refl _) (Nat.zero_le _) (by simp), Reps.none _ _⟩
  case aR => exact Kd.C_alloc HR.out _
  case aF => exact fun _ _ => trivial
  case aB => exact below_alloc (Below.refl _ _) _
  case aS => exact below_size (below_alloc (Below.refl _ _) _)
  case aL => have := HL.out; simp only [List.length_nil]; omega
  intro v1 w1 ho hb hg hat
  go_wp2
  go_ret
  exact ⟨_, rfl, by simpa using ho, hb⟩
end Go.Proofs.Ytodhkbahjomfhaa.Q

namespace Go.Proofs.Ytodhkbahjomfhaa.Q
open Go.RowKit Go.Proofs.YtodhkbahjomfhaaW.PrintWords Go.Proofs.YtodhkbahjomfhaaW.PrintLast Go.Proofs.YtodhkbahjomfhaaW.PrintMore Go.Proofs.Ytodhkbahjomfhaa.Gput Go.Proofs.Ytodhkbahjomfhaa.Gputl
attribute [local go_sem] max2_int min2_int max_two min_two max_three min_three max_four min_four   -- for this text's walks alone
set_option linter.unusedVariables false
set_option linter.unusedSimpArgs false
attribute [local go_sem high] eqA78
noncomputable def api_Name_122.l0 : Nat → List (S78) → Int → Int → Int → Int → Option (Int)
 | 0, _, _, _, _, _ => none
 | k + 1, x0, x7, x8, x692000, x692001 => if x8 < x7 then (if 0 ≤ x8 then (if x8 < (x0.length : Int) then (if (x692000 == ((rd_T78 x0 x8).f0) && (x692001 == ((rd_T78 x0 x8).f1))) = true then (some x8) else (api_Name_122.l0 k x0 x7 (wrap64 (x8 + 1)) x692000 x692001)) else (none)) else (none)) else (some (-1))
noncomputable def api_Name_122.f (k : Nat) (l0 : List (S78)) (a1_0 : Int) (a1_1 : Int) : Option (Int) := api_Name_122.l0 k l0 (l0.length : Int) 0 a1_0 a1_1
set_option maxHeartbeats 8000000 in
set_option maxRecDepth 100000 in
theorem api_Name_122.calls (k : Nat) (A0 : Option Addr) (c0 : Nat) (l0 : List (S78)) (a1_0 : Int) (a1_1 : Int) (r : Int) (w : World) (hr0 : Kd.C k78 w A0 l0.length l0) (hc0 : l0.length ≤ c0) (h : api_Name_122.f k l0 a1_0 a1_1 = some r) :
 Calls Try.prog 122 #[.slice A0 l0.length c0, .agg #[.int .i64 a1_0, .int .i64 a1_1]] w fun e w' => e = .returned (.int .i64 r) ∧ Below w.heap.size w w' := by
 have hu78 := Try.underlying78
 have HR0 := Aside0.mk hr0
 have HC0 := Aside0.mk hc0
 clear hr0 hc0
 have HB := Aside0.mk (Below.refl w.heap.size w)
 have H : (api_Name_122.l0 k l0 (l0.length : Int) 0 a1_0 a1_1) = some r := h
 clear h
 have H' := Aside0.mk H
 clear H
 go_enter Try.func122, Try.ntmps122
 go_wp2_with (first | ((with_reducible refine gate_dst (N := 3) rfl ?_); refine box_event ?hg (N := 3) ?hd (cs := #[.int .i64 a1_0, .int .i64 a1_1]) (t := 78) ?hr ?_; (case hd => rfl); (case hg => rfl); (case hr => first | (go_simp; done) | (go_simp; rfl)); intro gb691 hg w3 hbox hb; have n0_ := Aside0.mk (below_step (by repeat (first | (with_reducible first | exact HB.out | apply below_alloc | apply pw_below_drewN | apply below_drew1) | exact HB.out)) hb); have n1_ := Aside0.mk (hbox); have n2_ := Aside0.mk ((by rw [hg]; exact (below_size (by repeat (first | (with_reducible first | exact HB.out | apply below_alloc | apply pw_below_drewN | apply below_drew1) | exact HB.out))) : w.heap.size ≤ gb691)); have n3_ := Aside0.mk ((by rw [hg]; exact (below_size (by repeat (first | (with_reducible first | exact HB.out | apply below_alloc | apply pw_below_drewN | apply below_drew1) | exact HB.out))) : w.heap.size ≤ gb691)); clear HB; have HB := n0_; have BK691 := n1_; have GW691 := n2_; have GE691 := n3_; clear n0_ n1_ n2_ n3_; clear hb hbox hg))
 repeat (go_quiet (first | ((with_reducible refine gate_dst (N := 3) rfl ?_); refine box_event ?hg (N := 3) ?hd (cs := #[.int .i64 a1_0, .int .i64 a1_1]) (t := 78) ?hr ?_; (case hd => rfl); (case hg => rfl); (case hr => first | (go_simp; done) | (go_simp; rfl)); intro gb691 hg w3 hbox hb; have n0_ := Aside0.mk (below_step (by repeat (first | (with_reducible first | exact HB.out | apply below_alloc | apply pw_below_drewN | apply below_drew1) | exact HB.out)) hb); have n1_ := Aside0.mk (hbox); have n2_ := Aside0.mk ((by rw [hg]; exact (below_size (by repeat (first | (with_reducible first | exact HB.out | apply below_alloc | apply pw_below_drewN | apply below_drew1) | exact HB.out))) : w.heap.size ≤ gb691)); have n3_ := Aside0.mk ((by rw [hg]; exact (below_size (by repeat (first | (with_reducible first | exact HB.out | apply below_alloc | apply pw_below_drewN | apply below_drew1) | exact HB.out))) : w.heap.size ≤ gb691)); clear HB; have HB := n0_; have BK691 := n1_; have GW691 := n2_; have GE691 := n3_; clear n0_ n1_ n2_ n3_; clear hb hbox hg)); try go_wp2_with (first | ((with_reducible refine gate_dst (N := 3) rfl ?_); refine box_event ?hg (N := 3) ?hd (cs := #[.int .i64 a1_0, .int .i64 a1_1]) (t := 78) ?hr ?_; (case hd => rfl); (case hg => rfl); (case hr => first | (go_simp; done) | (go_simp; rfl)); intro gb691 hg w3 hbox hb; have n0_ := Aside0.mk (below_step (by repeat (first | (with_reducible first | exact HB.out | apply below_alloc | apply pw_below_drewN | apply below_drew1) | exact HB.out)) hb); have n1_ := Aside0.mk (hbox); have n2_ := Aside0.mk ((by rw [hg]; exact (below_size (by repeat (first | (with_reducible first | exact HB.out | apply below_alloc | apply pw_below_drewN | apply below_drew1) | exact HB.out))) : w.heap.size ≤ gb691)); have n3_ := Aside0.mk ((by rw [hg]; exact (below_size (by repeat (first | (with_reducible first | exact HB.out | apply below_alloc | apply pw_below_drewN | apply below_drew1) | exact HB.out))) : w.heap.size ≤ gb691)); clear HB; have HB := n0_; have BK691 := n1_; have GW691 := n2_; have GE691 := n3_; clear n0_ n1_ n2_ n3_; clear hb hbox hg)))
 go_loopg [8] k (fun kq v8 w' => ∃ (x8_1 : Int), v8 = .int .i64 x8_1 ∧ Aside0 (api_Name_122.l0 kq l0 (l0.length : Int) x8_1 a1_0 a1_1 = some r) ∧ Aside0 (kq ≤ k) ∧ Aside0 (w'.heap[gb691]? = some (.cells #[.int .i64 a1_0, .int .i64 a1_1] 78 (0, 0))) ∧ Aside0 (Below w.heap.size w w'))
 case atStart => exact ⟨(0), (by first | rfl | (simp; done) | (simp [*]; done)), H', ⟨Nat.le_refl _⟩, ⟨by (with_reducible repeat (first | refine blk_drewN ?_ _ | refine blk_drew ?_ | refine blk_alloc ?_ _)); exact BK691.out⟩, ⟨by repeat (first | (with_reducible first | exact HB.out | apply below_alloc | apply pw_below_drewN | apply below_drew1 | refine below_set ?_ GE691.out) | exact HB.out)⟩⟩
 case round =>
  clear H'
  try clear c1
  try clear p2
  obtain ⟨x8_1, rfl, HA, HK1, BK691, HB⟩ := hrel
  cases gk with
  | zero => exact absurd HA.out (by simp [api_Name_122.l0])
  | succ k1 =>
   have H := HA.out
   clear HA
   simp only [api_Name_122.l0] at H
   by_cases c4 : x8_1 < (l0.length : Int)
   ·rw [if_pos c4] at H
    have c4b0 : decide (x8_1 < (l0.length : Int)) = true := decide_eq_true c4
    clear c4
    by_cases c5 : 0 ≤ x8_1
    ·rw [if_pos c5] at H
     have c5b0 : decide (0 ≤ x8_1) = true := decide_eq_true c5
     clear c5
     by_cases c6 : x8_1 < (l0.length : Int)
     ·rw [if_pos c6] at H
      have c6b0 : decide (x8_1 < (l0.length : Int)) = true := decide_eq_true c6
      clear c6
      by_cases c7 : (a1_0 == ((rd_T78 l0 x8_1).f0) && (a1_1 == ((rd_T78 l0 x8_1).f1))) = true
      ·rw [if_pos c7] at H
       have c7b0 : (a1_0 == ((rd_T78 l0 x8_1).f0) && (a1_1 == ((rd_T78 l0 x8_1).f1))) = true := c7
       (try (have c7b1 : decide (a1_0 = ((rd_T78 l0 x8_1).f0) && (a1_1 == ((rd_T78 l0 x8_1).f1))) = true := by simpa using c7))
       (try (have c7b2 : (a1_0 == ((rd_T78 l0 x8_1).f0) && (a1_1 == ((rd_T78 l0 x8_1).f1))) = true := by simpa using c7))
       clear c7
       obtain rfl := Option.some.inj H
       have hcz8_0 : wr.cell? ⟨gb691, 0, none⟩ = some (.int .i64 a1_0) := (blk_cell BK691.out 0).trans rfl
       have hcz8_1 : wr.cell? ⟨gb691, 1, none⟩ = some (.int .i64 a1_1) := (blk_cell BK691.out 1).trans rfl
       have hfz8_0 := blk_frozen BK691.out 0
       have hfz8_1 := blk_frozen BK691.out 1
       have p692 : 0 ≤ (x8_1 : Int) := of_decide_eq_true (by first | (with_reducible assumption) | assumption)
       have q692 : x8_1 < (l0.length : Int) := of_decide_eq_true (by first | (with_reducible assumption) | assumption)
       obtain ⟨ad692, e692, hx692_0, hx692_1⟩ := at_T78 HR0.out x8_1 p692 q692
       cases e692
       replace hx692_0 := (HB.out.cell (World.block_lt_of_cell? w _ hx692_0)).trans hx692_0
       replace hx692_1 := (HB.out.cell (World.block_lt_of_cell? w _ hx692_1)).trans hx692_1
       replace p692 := eq_true p692
       replace q692 := eq_true q692
       go_wp2
       repeat (go_quiet (fail); try go_wp2)
       go_ret
       exact ⟨by first | rfl | (simp [errW_none, errW_some] <;> rfl) | (simp [*, errW_none, errW_some] <;> rfl), by repeat (first | (with_reducible first | exact HB.out | apply below_alloc | apply pw_below_drewN | apply below_drew1 | refine below_set ?_ GE691.out) | exact HB.out)⟩
      ·rw [if_neg c7] at H
       have c7b0 : (a1_0 == ((rd_T78 l0 x8_1).f0) && (a1_1 == ((rd_T78 l0 x8_1).f1))) = false := by simpa using c7
       (try (have c7b1 : decide (a1_0 = ((rd_T78 l0 x8_1).f0) && (a1_1 == ((rd_T78 l0 x8_1).f1))) = false := by simpa using c7))
       (try (have c7b2 : (a1_0 == ((rd_T78 l0 x8_1).f0) && (a1_1 == ((rd_T78 l0 x8_1).f1))) = false := by simpa using c7))
       (try (have c7b3 : ¬ (a1_0 = ((rd_T78 l0 x8_1).f0) && (a1_1 == ((rd_T78 l0 x8_1).f1))) := by simpa using c7))
       clear c7
       have H' := Aside0.mk H
       clear H
       have hcz9_0 : wr.cell? ⟨gb691, 0, none⟩ = some (.int .i64 a1_0) := (blk_cell BK691.out 0).trans rfl
       have hcz9_1 : wr.cell? ⟨gb691, 1, none⟩ = some (.int .i64 a1_1) := (blk_cell BK691.out 1).trans rfl
       have hfz9_0 := blk_frozen BK691.out 0
       have hfz9_1 := blk_frozen BK691.out 1
       have p692 : 0 ≤ (x8_1 : Int) := of_decide_eq_true (by first | (with_reducible assumption) | assumption)
       have q692 : x8_1 < (l0.length : Int) := of_decide_eq_true (by first | (with_reducible assumption) | assumption)
       obtain ⟨ad692, e692, hx692_0, hx692_1⟩ := at_T78 HR0.out x8_1 p692 q692
       cases e692
       replace hx692_0 := (HB.out.cell (World.block_lt_of_cell? w _ hx692_0)).trans hx692_0
       replace hx692_1 := (HB.out.cell (World.block_lt_of_cell? w _ hx692_1)).trans hx692_1
       replace p692 := eq_true p692
       replace q692 := eq_true q692
       go_wp2
       repeat (go_quiet (fail); try go_wp2)
       go_roundg k1
       case measure => have := HK1.out; omega
       case rel => exact ⟨(wrap64 (x8_1 + 1)), (by first | rfl | (simp; done) | (simp [*]; done)), H', ⟨by have := HK1.out; omega⟩, ⟨by (with_reducible repeat (first | refine blk_drewN ?_ _ | refine blk_drew ?_ | refine blk_alloc ?_ _)); exact BK691.out⟩, ⟨by repeat (first | (with_reducible first | exact HB.out | apply below_alloc | apply pw_below_drewN | apply below_drew1 | refine below_set ?_ GE691.out) | exact HB.out)⟩⟩
     ·rw [if_neg c6] at H
      exact absurd H (by simp)
    ·rw [if_neg c5] at H
     exact absurd H (by simp)
   ·rw [if_neg c4] at H
    have c4b0 : decide (x8_1 < (l0.length : Int)) = false := decide_eq_false c4
    clear c4
    obtain rfl := Option.some.inj H
    go_wp2
    repeat (go_quiet (fail); try go_wp2)
    go_ret
    exact ⟨by first | rfl | (simp [errW_none, errW_some] <;> rfl) | (simp [*, errW_none, errW_some] <;> rfl), by repeat (first | (with_reducible first | exact HB.out | apply below_alloc | apply pw_below_drewN | apply below_drew1 | refine below_set ?_ GE691.out) | exact HB.out)⟩
end Go.Proofs.Ytodhkbahjomfhaa.Q

namespace Go.Proofs.Ytodhkbahjomfhaa.Q
open Go.RowKit Go.Proofs.YtodhkbahjomfhaaW.PrintWords Go.Proofs.YtodhkbahjomfhaaW.PrintLast Go.Proofs.YtodhkbahjomfhaaW.PrintMore Go.Proofs.Ytodhkbahjomfhaa.Gput Go.Proofs.Ytodhkbahjomfhaa.Gputl
attribute [local go_sem] max2_int min2_int max_two min_two max_three min_three max_four min_four   -- for this text's walks alone
set_option linter.unusedVariables false
set_option linter.unusedSimpArgs false
noncomputable def api_Name_103.f (k : Nat) (l0 : List (S78)) (a1_0 : Int) (a1_1 : Int) : Option (Bool) := (api_Name_122.f k l0 a1_0 a1_1).bind fun t694 => (some (decide (t694 ≥ 0)))
set_option maxHeartbeats 8000000 in
set_option maxRecDepth 100000 in
theorem api_Name_103.calls (k : Nat) (A0 : Option Addr) (c0 : Nat) (l0 : List (S78)) (a1_0 : Int) (a1_1 : Int) (r : Bool) (w : World) (hr0 : Kd.C k78 w A0 l0.length l0) (hc0 : l0.length ≤ c0) (h : api_Name_103.f k l0 a1_0 a1_1 = some r) :
 Calls Try.prog 103 #[.slice A0 l0.length c0, .agg #[.int .i64 a1_0, .int .i64 a1_1]] w fun e w' => e = .returned (.bool r) ∧ Below w.heap.size w w' := by
 have hu78 := Try.underlying78
 have HR0 := Aside0.mk hr0
 have HC0 := Aside0.mk hc0
 clear hr0 hc0
 have HB := Aside0.mk (Below.refl w.heap.size w)
 have H : ((api_Name_122.f k l0 a1_0 a1_1).bind fun t694 => (some (decide (t694 ≥ 0)))) = some r := h
 clear h
 replace H := Option.bind_eq_some_iff.mp H
 obtain ⟨t694, A30, H⟩ := H
 replace H : (some (decide (t694 ≥ 0))) = some r := H
 have A3 := Aside0.mk A30
 clear A30
 obtain rfl := Option.some.inj H
 go_enter Try.func103, Try.ntmps103
 go_wp2_with (first | ((with_reducible refine gate_dst (N := 3) rfl ?_); refine box_event ?hg (N := 3) ?hd (cs := #[.int .i64 a1_0, .int .i64 a1_1]) (t := 78) ?hr ?_; (case hd => rfl); (case hg => rfl); (case hr => first | (go_simp; done) | (go_simp; rfl)); intro gb693 hg w4 hbox hb; have n0_ := Aside0.mk (below_step (by repeat (first | (with_reducible first | exact HB.out | apply below_alloc | apply pw_below_drewN | apply below_drew1) | exact HB.out)) hb); have n1_ := Aside0.mk (hbox); have n2_ := Aside0.mk ((by rw [hg]; exact (below_size (by repeat (first | (with_reducible first | exact HB.out | apply below_alloc | apply pw_below_drewN | apply below_drew1) | exact HB.out))) : w.heap.size ≤ gb693)); have n3_ := Aside0.mk ((by rw [hg]; exact (below_size (by repeat (first | (with_reducible first | exact HB.out | apply below_alloc | apply pw_below_drewN | apply below_drew1) | exact HB.out))) : w.heap.size ≤ gb693)); clear HB; have HB := n0_; have BK693 := n1_; have GW693 := n2_; have GE693 := n3_; clear n0_ n1_ n2_ n3_; clear hb hbox hg; have hcz5_0 : w4.cell? ⟨gb693, 0, none⟩ = some (.int .i64 a1_0) := (blk_cell BK693.out 0).trans rfl; have hcz5_1 : w4.cell? ⟨gb693, 1, none⟩ = some (.int .i64 a1_1) := (blk_cell BK693.out 1).trans rfl; have hfz5_0 := blk_frozen BK693.out 0; have hfz5_1 := blk_frozen BK693.out 1) | ((with_reducible refine gate_callee (f := 122) rfl ?_); refine goesL_ (some 7) rfl rfl Try.func122 (by kernel_rfl) rfl #[.slice A0 l0.length c0, .agg #[.int .i64 a1_0, .int .i64 a1_1]] rfl (by (try simp only [List.map_toArray, List.map_cons, List.map_nil]); first | done | rfl | (simp only [List.length_drop, List.length_take]; rfl)) ?_; (with_reducible refine (api_Name_122.calls k _ _ l0 a1_0 a1_1 t694 _ ?side1 ?side2 A3.out).mono ?_); (case side1 => repeat (first | exact (Kd.C_below HR0.out HB.out) | (with_reducible refine Kd.C_alloc ?_ _) | (with_reducible refine Kd.C_drewN ?_ _) | (with_reducible refine Kd.C_drew ?_))); (case side2 => exact HC0.out); rintro e w6 ⟨rfl, hb⟩; refine ⟨_, rfl, ?_⟩; have n0_ := Aside0.mk (blk_below (g := gb693) (o := .cells #[.int .i64 a1_0, .int .i64 a1_1] 78 (0, 0)) (by (with_reducible repeat (first | refine blk_drewN ?_ _ | refine blk_drew ?_ | refine blk_alloc ?_ _)); exact BK693.out) hb); have n1_ := Aside0.mk (below_step (by repeat (first | (with_reducible first | exact HB.out | apply below_alloc | apply pw_below_drewN | apply below_drew1 | refine below_set ?_ GE693.out) | exact HB.out)) hb); clear BK693; clear HB; have BK693 := n0_; have HB := n1_; clear n0_ n1_; (try clear hb); (try clear hb2); (try clear hk); (try clear hi)))
 go_ret
 exact ⟨by first | rfl | (simp [errW_none, errW_some] <;> rfl) | (simp [*, errW_none, errW_some] <;> rfl), by repeat (first | (with_reducible first | exact HB.out | apply below_alloc | apply pw_below_drewN | apply below_drew1 | refine below_set ?_ GE693.out) | exact HB.out)⟩
end Go.Proofs.Ytodhkbahjomfhaa.Q

namespace Go.Proofs.Ytodhkbahjomfhaa.Q
open Go Go.RowKit Go.Sort Go.Lib Go.Proofs Go.Proofs.Ytodhkbahjomfhaa.Gfl Go.Proofs.YtodhkbahjomfhaaW.PrintWords Go.Proofs.YtodhkbahjomfhaaW.PrintLast Go.Proofs.YtodhkbahjomfhaaW.PrintMore
set_option linter.unusedVariables false
theorem rd_N (m : List S78) (i : Nat) (hi : i < m.length) : rd_T78 m (i : Int) = m[i] := by
 simp [rd_T78, List.getD, hi]
theorem idx_eq (m : List S78) (x : S78) (hm : m.length ≤ 1000000) : ∀ (n i k : Nat), m.length - i = n → i ≤ m.length → n + 1 ≤ k →
 ∃ j : Int, api_Name_122.l0 k m (m.length : Int) (i : Int) x.f0 x.f1 = some j ∧ (0 ≤ j ↔ x ∈ m.drop i) := by
 intro n
 induction n with
 | zero =>
  intro i k h1 h2 h3
  obtain ⟨k, rfl⟩ : ∃ k', k = k' + 1 := ⟨k - 1, by omega⟩
  have hi : i = m.length := by omega
  subst hi
  refine ⟨-1, ?_, by simp⟩
  simp only [api_Name_122.l0]
  rw [if_neg (by omega)]
 | succ n ih =>
  intro i k h1 h2 h3
  obtain ⟨k, rfl⟩ : ∃ k', k = k' + 1 := ⟨k - 1, by omega⟩
  have hi : i < m.length := by omega
  simp only [api_Name_122.l0]
  rw [if_pos (by omega), if_pos (by omega), if_pos (by omega), rd_N m i hi, List.drop_eq_getElem_cons hi]
  by_cases hx : x = m[i]
  ·rw [if_pos (by rw [hx]; simp)]
   exact ⟨_, rfl, fun _ => by rw [hx]; exact List.mem_cons_self, fun _ => by omega⟩
  ·rw [if_neg (by
    simp only [Bool.and_eq_true, beq_iff_eq]
    rintro ⟨h5, h6⟩
    apply hx
    cases x
    cases hmi : m[i]
    rw [hmi] at h5 h6
    simp only at h5 h6
    rw [h5, h6])]
   have hw : wrap64 ((i : Int) + 1) = ((i + 1 : Nat) : Int) := by
    unfold wrap64
    omega
   rw [hw]
   obtain ⟨j, hj, hh⟩ := ih (i + 1) k (by omega) (by omega) (by omega)
   refine ⟨j, hj, ?_⟩
   rw [hh, List.mem_cons]
   exact ⟨fun h => .inr h, fun h => h.resolve_left hx⟩
theorem con_eq (m : List S78) (x : S78) (hm : m.length ≤ 1000000) : api_Name_103.f (m.length + 1) m x.f0 x.f1 = some (decide (x ∈ m)) := by
 unfold api_Name_103.f api_Name_122.f
 obtain ⟨j, hj, hh⟩ := idx_eq m x hm m.length 0 (m.length + 1) rfl (Nat.zero_le _) (Nat.le_refl _)
 simp only [Int.ofNat_zero, Int.natCast_zero, List.drop_zero] at hj hh
 rw [hj]
 simp only [Option.bind_some, Option.some.injEq]
 exact decide_eq_decide.2 hh
noncomputable def notIn (l m : List S78) : List S78 := l.filter fun n => !decide (n ∈ m)
noncomputable def woN (l m : List S78) : List S78 := Lib.compact (srtN (notIn l m))
noncomputable def manifest_without.f (l0 l1 : List S78) : Option (List S78) := if l0.length ≤ 1000000 ∧ l1.length ≤ 1000000 then some (woN l0 l1) else none
theorem srtN_length (l : List S78) : (srtN l).length = l.length := List.length_mergeSort l
theorem compact_le (l : List S78) : (Lib.compact l).length ≤ l.length := by
 unfold Lib.compact Lib.compactUpTo
 rw [List.length_map]
 exact Nat.le_trans (List.length_filter_le _ _) (by rw [List.length_range]; exact Nat.le_refl _)
structure WoW (w W : World) (vs : Value) (out : List S78) : Prop where
 hb : Below w.heap.size w W
 r : Kd.R k78 78 W w.heap.size (fun _ => True) vs out
theorem WoW.below {w W W' : World} {vs : Value} {out : List S78} (h : WoW w W vs out) (hb : Below W.heap.size W W') : WoW w W' vs out := ⟨below_step h.hb hb, Kd.R_below h.r hb⟩
theorem WoW.alloc {w W : World} {vs : Value} {out : List S78} (h : WoW w W vs out) (o : Obj) : WoW w (W.alloc o) vs out := h.below (below_alloc (Below.refl _ _) o)
set_option maxRecDepth 100000 in
set_option maxHeartbeats 4000000 in
theorem manifest_without.calls (A0 : Option Addr) (c0 : Nat) (l0 : List S78) (A1 : Option Addr) (c1 : Nat) (l1 : List S78) (r : List S78) (w : World) (hr0 : Kd.C k78 w A0 l0.length l0) (hc0 : l0.length ≤ c0) (hr1 : Kd.C k78 w A1 l1.length l1) (hc1 : l1.length ≤ c1) (h : manifest_without.f l0 l1 = some r) :
 Calls Try.prog 86 #[.slice A0 l0.length c0, .slice A1 l1.length c1] w fun e w' => ∃ v0_ : Value, e = .returned v0_ ∧ Kd.R k78 78 w' w.heap.size (fun _ => True) v0_ r ∧ Below w.heap.size w w' := by
 unfold manifest_without.f at h
 split at h
 case isFalse => cases h
 case isTrue hle =>
 obtain rfl := Option.some.inj h
 clear h
 have hu78 := Try.underlying78
 have HR := Aside0.mk hr0
 have HR1 := Aside0.mk hr1
 have HC1 := Aside0.mk hc1
 have HL := Aside0.mk hle
 have HE : Aside0 (notIn (l0.take 0) l1 = []) := ⟨by simp [notIn]⟩
 have HS : Aside0 (WoW w w (.slice none 0 0) []) := ⟨⟨Below.refl _ _, Kd.R_nil _ _ _ _ _⟩⟩
 have hl0 : l0.length ≤ 1000000 := HL.out.1
 clear hr0 hr1 hc1 hle hc0
 go_enter Try.func86, Try.ntmps86
 go_wp2
 go_loopw [5, 10] (fun v5 v10 wr => ∃ (k : Nat), k ≤ l0.length ∧ v10 = .int .i64 k ∧ Aside0 (WoW w wr v5 (notIn (l0.take k) l1))) (fun _ v10 _ => l0.length - (intOf v10).toNat)
 case atStart => exact ⟨0, Nat.zero_le _, rfl, ⟨by rw [HE.out]; exact HS.out⟩⟩
 case round =>
  clear HS HE
  obtain ⟨k, hk, rfl, HS⟩ := hrel
  by_cases hlt : k < l0.length
  case pos =>
   obtain ⟨ad, ead, hx0, hx1⟩ := at_T78 HR.out k (by omega) (by omega)
   cases ead
   replace hx0 := (HS.out.hb.cell (World.block_lt_of_cell? w _ hx0)).trans hx0
   replace hx1 := (HS.out.hb.cell (World.block_lt_of_cell? w _ hx1)).trans hx1
   simp only [Int.toNat_natCast] at hx0 hx1
   rw [rd_N l0 k hlt] at hx0 hx1
   have htk : l0.take (k + 1) = l0.take k ++ [l0[k]] := List.take_succ_eq_append_getElem hlt
   have hnl : (notIn (l0.take k) l1).length ≤ 1000000 := Nat.le_trans (List.length_filter_le _ _) (by rw [List.length_take]; have := HL.out; omega)
   have hcon := con_eq l1 l0[k] HL.out.2
   have hnext : notIn (l0.take (k + 1)) l1 = notIn (l0.take k) l1 ++ (if l0[k] ∈ l1 then [] else [l0[k]]) := by
    rw [htk]
    unfold notIn
    rw [List.filter_append]
    congr 1
    by_cases hm : l0[k] ∈ l1 <;> simp [hm]
   generalize hxk : l0[k] = x at hx0 hx1 hcon hnext
   obtain ⟨x0, x1⟩ := x
   simp only at hx0 hx1 hcon
   have HNX := Aside0.mk hnext
   have HNL := Aside0.mk hnl
   clear htk hnl hnext hxk
   generalize hout : notIn (l0.take k) l1 = out at HS HNX HNL
   clear hout
   by_cases hm : (⟨x0, x1⟩ : S78) ∈ l1
   ·rw [decide_eq_true hm] at hcon
    have HCN := Aside0.mk hcon
    have HM := Aside0.mk hm
    clear hcon hm
    go_wp2_with (go_at_call 103; with_reducible refine (api_Name_103.calls (l1.length + 1) A1 c1 l1 x0 x1 _ _ (Kd.C_below HR1.out (below_alloc HS.out.hb _)) HC1.out HCN.out).mono ?_; rintro e w2 ⟨rfl, hb⟩; have n_ := Aside0.mk ((HS.out.alloc _).below hb); clear HS hx0 hx1; have HS := n_; clear n_ hb)
    go_roundw
    case rel => exact ⟨k + 1, by omega, by simp, ⟨by rw [HNX.out, if_pos HM.out, List.append_nil]; exact HS.out⟩⟩
    case measure => simp only [intOf]; omega
   ·rw [decide_eq_false hm] at hcon
    have HCN := Aside0.mk hcon
    have HM := Aside0.mk hm
    clear hcon hm
    go_wp2_with (first | (go_at_call 103; with_reducible refine (api_Name_103.calls (l1.length + 1) A1 c1 l1 x0 x1 _ _ (Kd.C_below HR1.out (below_alloc HS.out.hb _)) HC1.out HCN.out).mono ?_; rintro e w2 ⟨rfl, hb⟩; have B7 := Aside0.mk (blk_below (heap_alloc_new wr (.cells #[.int .i64 x0, .int .i64 x1] 78)) hb); have n_ := Aside0.mk ((HS.out.alloc _).below hb); clear HS hx0 hx1; have HS := n_; clear n_ hb; have hc7_0 : w2.cell? ⟨wr.heap.size, 0, none⟩ = some (.int .i64 x0) := (blk_cell B7.out 0).trans rfl; have hc7_1 : w2.cell? ⟨wr.heap.size, 1, none⟩ = some (.int .i64 x1) := (blk_cell B7.out 1).trans rfl) | (at_builtin; refine Kd.R_append k78 (w0 := w) w.heap.size rfl (.tmp 18) (.tmp 20) 30 78 (.agg #[.int .i64 0, .int .i64 0]) 16 rfl Try.underlying30 info78 rfl (by decide) (by omega) u5 out (⟨x0, x1⟩ : S78) [.int .i64 x0, .int .i64 x1] (fun _ => True) (fun _ => False) rfl rfl (k78_mkM _ _ _ _) (fun _ hk => hk.elim) (fun _ _ => trivial) HS.out.r HS.out.hb HS.out.hb.size (by have := HNL.out; omega) ?_; intro v1 w4_ ho hb hg hat; have n_ : Aside0 (WoW w w4_ v1 (out ++ [(⟨x0, x1⟩ : S78)])) := ⟨⟨hb, ho⟩⟩; clear HS B7 hc7_0 hc7_1; have HS := n_; clear n_ ho hb hg hat))
    go_roundw
    case rel => exact ⟨k + 1, by omega, by simp, ⟨by rw [HNX.out, if_neg HM.out]; exact HS.out⟩⟩
    case measure => simp only [intOf]; omega
  case neg =>
   have hkl : k = l0.length := by omega
   subst hkl
   rw [List.take_length] at HS
   have hnl : (notIn l0 l1).length ≤ 1000000 := Nat.le_trans (List.length_filter_le _ _) HL.out.1
   have hn2 : (srtN (notIn l0 l1)).length ≤ 1000000 := by rw [srtN_length]; exact hnl
   have hn3 : (Lib.compact (srtN (notIn l0 l1))).length ≤ 1000000 := Nat.le_trans (compact_le _) hn2
   have HNL := Aside0.mk hnl
   have HN2 := Aside0.mk hn2
   have HN3 := Aside0.mk hn3
   clear hnl hn2 hn3
   go_wp2_with (first | (go_at_call 104; with_reducible refine (sortN_calls HS.out.r HS.out.hb (by have := HNL.out; omega)).mono ?_; rintro e w2 ⟨rfl, hr, hg, hb⟩; have n_ := Aside0.mk (WoW.mk hb hr); clear HS; have HS := n_; clear n_ hb hr hg) | (go_at_call 107; with_reducible refine (compactN_calls HS.out.r HS.out.hb HN2.out).mono ?_; rintro e w3 ⟨v', rfl, hr, hg, hb⟩; obtain ⟨A, c, ev, hl, hC⟩ := Kd.R_reads hr; subst ev; have HCC := Aside0.mk hC; have HCL := Aside0.mk hl; have n_ := Aside0.mk (WoW.mk hb hr); clear HS; have HS := n_; clear n_ hb hr hg hl hC) | (go_at_call 106; with_reducible refine (api_Name_106.calls A c (Lib.compact (srtN (notIn l0 l1))) (Lib.compact (srtN (notIn l0 l1))) _ HCC.out HCL.out (by unfold api_Name_106.f; rw [if_pos HN3.out])).mono ?_; rintro e w4 ⟨v4, rfl, hr, hb⟩; have n_ := Aside0.mk (WoW.mk (below_step HS.out.hb hb) (Kd.R_lower hr HS.out.hb.size)); clear HS; have HS := n_; clear n_ hb hr))
   go_ret
   exact ⟨_, rfl, HS.out.r, HS.out.hb⟩
end Go.Proofs.Ytodhkbahjomfhaa.Q

namespace Go.Proofs.Ytodhkbahjomfhaa.Q
open Go.RowKit Go.Proofs.YtodhkbahjomfhaaW.PrintWords Go.Proofs.YtodhkbahjomfhaaW.PrintLast Go.Proofs.YtodhkbahjomfhaaW.PrintMore Go.Proofs.Ytodhkbahjomfhaa.Gput Go.Proofs.Ytodhkbahjomfhaa.Gputl
attribute [local go_sem] max2_int min2_int max_two min_two max_three min_three max_four min_four   -- for this text's walks alone
set_option linter.unusedVariables false
set_option linter.unusedSimpArgs false
noncomputable def manifest_Change.f (k : Nat) (a0_0 : Int) (l0_1 : List (S78)) (a1_0 : Int) (l1_1 : List (S78)) : Option ((List (S78)) × (List (S78)) × Int) := (manifest_Check.f k a0_0 l0_1).bind fun t724 => (if t724 = 0 then ((manifest_Check.f k a1_0 l1_1).bind fun t725 => (if t725 = 0 then ((manifest_without.f l1_1 l0_1).bind fun t726 => ((manifest_without.f l0_1 l1_1).bind fun t729 => (some (t726, t729, 0)))) else (some (([] : List (S78)), ([] : List (S78)), t725)))) else (some (([] : List (S78)), ([] : List (S78)), t724)))
noncomputable def manifest_Change.T7 : Bool × List (List Nat × List Nat) := (true, [([], []), ([0], [0]), ([], []), ([2], [2]), ([1, 3], [1, 3]), ([], []), ([5], [5]), ([], []), ([7], [7]), ([6, 8, 4], [6, 8]), ([4, 9, 0, 1, 2, 3, 4], [4]), ([9, 10, 0, 1, 2, 3, 4, 5, 6, 7, 8, 9, 10], [9]), ([11, 0, 1, 2, 3, 4, 5, 6, 7, 8, 9, 10, 11], [])])
noncomputable def manifest_Change.B7 : List Nat := [0, 1, 0, 4, 15, 0, 32, 0, 128, 511, 1023, 2047, 4095]
theorem manifest_Change.tab7 : rtab .any (opsOf Try.f47 7) = manifest_Change.T7 := by kernel_rfl
theorem manifest_Change.bits7 : waitsOk manifest_Change.T7.2 manifest_Change.B7 = true := by kernel_rfl
set_option maxHeartbeats 8000000 in
set_option maxRecDepth 100000 in
theorem manifest_Change.calls (k : Nat) (a0_0 : Int) (A0_1 : Option Addr) (c0_1 : Nat) (l0_1 : List (S78)) (a1_0 : Int) (A1_1 : Option Addr) (c1_1 : Nat) (l1_1 : List (S78)) (r1 : List (S78)) (r2 : List (S78)) (r3 : Int) (w : World) (hr0_1 : Kd.C k78 w A0_1 l0_1.length l0_1) (hc0_1 : l0_1.length ≤ c0_1) (hr1_1 : Kd.C k78 w A1_1 l1_1.length l1_1) (hc1_1 : l1_1.length ≤ c1_1) (h : manifest_Change.f k a0_0 l0_1 a1_0 l1_1 = some (r1, r2, r3)) :
 Calls Try.prog 47 #[.agg #[.int .i64 a0_0, .slice A0_1 l0_1.length c0_1], .agg #[.int .i64 a1_0, .slice A1_1 l1_1.length c1_1]] w fun e w' => ∃ v0_ v1_ : Value, e = .returned (.tuple #[v0_, v1_, .int .i64 r3]) ∧ Kd.R k78 78 w' w.heap.size (fun k_ => some k_ ≠ (v1_ : Value).ownBlock) v0_ r1 ∧ Kd.R k78 78 w' w.heap.size (fun k_ => some k_ ≠ (v0_ : Value).ownBlock) v1_ r2 ∧ Below w.heap.size w w' := by
 have hu32 := Try.underlying32
 have HR0_1 := Aside0.mk hr0_1
 have HC0_1 := Aside0.mk hc0_1
 clear hr0_1 hc0_1
 have HR1_1 := Aside0.mk hr1_1
 have HC1_1 := Aside0.mk hc1_1
 clear hr1_1 hc1_1
 have HB := Aside0.mk (Below.refl w.heap.size w)
 have H : ((manifest_Check.f k a0_0 l0_1).bind fun t724 => (if t724 = 0 then ((manifest_Check.f k a1_0 l1_1).bind fun t725 => (if t725 = 0 then ((manifest_without.f l1_1 l0_1).bind fun t726 => ((manifest_without.f l0_1 l1_1).bind fun t729 => (some (t726, t729, 0)))) else (some (([] : List (S78)), ([] : List (S78)), t725)))) else (some (([] : List (S78)), ([] : List (S78)), t724)))) = some (r1, r2, r3) := h
 clear h
 replace H := Option.bind_eq_some_iff.mp H
 obtain ⟨t724, A30, H⟩ := H
 replace H : (if t724 = 0 then ((manifest_Check.f k a1_0 l1_1).bind fun t725 => (if t725 = 0 then ((manifest_without.f l1_1 l0_1).bind fun t726 => ((manifest_without.f l0_1 l1_1).bind fun t729 => (some (t726, t729, 0)))) else (some (([] : List (S78)), ([] : List (S78)), t725)))) else (some (([] : List (S78)), ([] : List (S78)), t724))) = some (r1, r2, r3) := H
 have A3 := Aside0.mk A30
 clear A30
 by_cases c4 : t724 = 0
 ·rw [if_pos c4] at H
  have c4b0 : (t724 == 0) = true := beq_iff_eq.mpr c4
  have c4b1 : (t724 != 0) = false := bne_eq_false_iff_eq.mpr c4
  clear c4
  replace H := Option.bind_eq_some_iff.mp H
  obtain ⟨t725, A50, H⟩ := H
  replace H : (if t725 = 0 then ((manifest_without.f l1_1 l0_1).bind fun t726 => ((manifest_without.f l0_1 l1_1).bind fun t729 => (some (t726, t729, 0)))) else (some (([] : List (S78)), ([] : List (S78)), t725))) = some (r1, r2, r3) := H
  have A5 := Aside0.mk A50
  clear A50
  by_cases c6 : t725 = 0
  ·rw [if_pos c6] at H
   have c6b0 : (t725 == 0) = true := beq_iff_eq.mpr c6
   have c6b1 : (t725 != 0) = false := bne_eq_false_iff_eq.mpr c6
   clear c6
   replace H := Option.bind_eq_some_iff.mp H
   obtain ⟨t726, A70, H⟩ := H
   replace H : ((manifest_without.f l0_1 l1_1).bind fun t729 => (some (t726, t729, 0))) = some (r1, r2, r3) := H
   have A7 := Aside0.mk A70
   clear A70
   replace H := Option.bind_eq_some_iff.mp H
   obtain ⟨t729, A80, H⟩ := H
   replace H : (some (t726, t729, 0)) = some (r1, r2, r3) := H
   have A8 := Aside0.mk A80
   clear A80
   simp only [Option.some.injEq, Prod.mk.injEq] at H
   obtain ⟨rfl, rfl, rfl⟩ := H
   go_enter Try.func47, Try.ntmps47
   try go_wp2_with (first | ((with_reducible refine gate_dst (N := 2) rfl ?_); refine box_event ?hg (N := 2) ?hd (cs := #[.int .i64 a0_0, .slice A0_1 l0_1.length c0_1]) (t := 32) ?hr ?_; (case hd => rfl); (case hg => rfl); (case hr => first | (go_simp; done) | (go_simp; rfl)); intro gb722 hg w9 hbox hb; have n0_ := Aside0.mk (below_step (by repeat (first | (with_reducible first | exact HB.out | apply below_alloc | apply pw_below_drewN | apply below_drew1) | exact HB.out)) hb); have n1_ := Aside0.mk (hbox); have n2_ := Aside0.mk ((by rw [hg]; exact (below_size (by repeat (first | (with_reducible first | exact HB.out | apply below_alloc | apply pw_below_drewN | apply below_drew1) | exact HB.out))) : w.heap.size ≤ gb722)); have n3_ := Aside0.mk ((by rw [hg]; exact (below_size (by repeat (first | (with_reducible first | exact HB.out | apply below_alloc | apply pw_below_drewN | apply below_drew1) | exact HB.out))) : w.heap.size ≤ gb722)); clear HB; have HB := n0_; have BK722 := n1_; have GW722 := n2_; have GE722 := n3_; clear n0_ n1_ n2_ n3_; clear hb hbox hg) | ((with_reducible refine gate_dst (N := 3) rfl ?_); refine box_event ?hg (N := 3) ?hd (cs := #[.int .i64 a1_0, .slice A1_1 l1_1.length c1_1]) (t := 32) ?hr ?_; (case hd => rfl); (case hg => rfl); (case hr => first | (go_simp; done) | (go_simp; rfl)); intro gb723 hg w10 hbox hb; have n0_ := Aside0.mk (blk_below (g := gb722) (o := .cells #[.int .i64 a0_0, .slice A0_1 l0_1.length c0_1] 32 (0, 0)) (by (with_reducible repeat (first | refine blk_drewN ?_ _ | refine blk_drew ?_ | refine blk_alloc ?_ _)); exact BK722.out) hb); have n1_ := Aside0.mk (below_step (by repeat (first | (with_reducible first | exact HB.out | apply below_alloc | apply pw_below_drewN | apply below_drew1 | refine below_set ?_ GE722.out) | exact HB.out)) hb); have n2_ := Aside0.mk (hbox); have n3_ := Aside0.mk ((by rw [hg]; exact (below_size (by repeat (first | (with_reducible first | exact HB.out | apply below_alloc | apply pw_below_drewN | apply below_drew1 | refine below_set ?_ GE722.out) | exact HB.out))) : w.heap.size ≤ gb723)); have n4_ := Aside0.mk ((by rw [hg]; exact (below_size (by repeat (first | (with_reducible first | exact HB.out | apply below_alloc | apply pw_below_drewN | apply below_drew1 | refine below_set ?_ GE722.out) | exact HB.out))) : w.heap.size ≤ gb723)); have n5_ := Aside0.mk ((by rw [hg]; exact Nat.ne_of_lt (blk_lt (g := gb722) (o := .cells #[.int .i64 a0_0, .slice A0_1 l0_1.length c0_1] 32 (0, 0)) (by (with_reducible repeat (first | refine blk_drewN ?_ _ | refine blk_drew ?_ | refine blk_alloc ?_ _)); exact BK722.out)) : gb722 ≠ gb723)); have n6_ := Aside0.mk ((by rw [hg]; exact Nat.ne_of_gt (blk_lt (g := gb722) (o := .cells #[.int .i64 a0_0, .slice A0_1 l0_1.length c0_1] 32 (0, 0)) (by (with_reducible repeat (first | refine blk_drewN ?_ _ | refine blk_drew ?_ | refine blk_alloc ?_ _)); exact BK722.out)) : gb723 ≠ gb722)); clear BK722; clear HB; have BK722 := n0_; have HB := n1_; have BK723 := n2_; have GW723 := n3_; have GE723 := n4_; have NB722_723 := n5_; have NB723_722 := n6_; clear n0_ n1_ n2_ n3_ n4_ n5_ n6_; clear hb hbox hg; have hnb11 := NB722_723.out; have hnc11 := NB723_722.out; have hcz12_0 : w10.cell? ⟨gb722, 0, none⟩ = some (.int .i64 a0_0) := (blk_cell BK722.out 0).trans rfl; have hcz12_1 : w10.cell? ⟨gb722, 1, none⟩ = some (.slice A0_1 l0_1.length c0_1) := (blk_cell BK722.out 1).trans rfl; have hfz12_0 := blk_frozen BK722.out 0; have hfz12_1 := blk_frozen BK722.out 1) | ((with_reducible refine gate_callee (f := 56) rfl ?_); refine goesL_ (some 10) rfl rfl Try.func56 (by kernel_rfl) rfl #[.agg #[.int .i64 a0_0, .slice A0_1 l0_1.length c0_1]] rfl (by (try simp only [List.map_toArray, List.map_cons, List.map_nil]); first | done | rfl | (simp only [List.length_drop, List.length_take]; rfl)) ?_; (with_reducible refine (manifest_Check.calls k a0_0 _ _ l0_1 t724 _ ?side1 ?side2 A3.out).mono ?_); (case side1 => repeat (first | exact (Kd.C_below HR0_1.out HB.out) | (with_reducible refine Kd.C_alloc ?_ _) | (with_reducible refine Kd.C_drewN ?_ _) | (with_reducible refine Kd.C_drew ?_))); (case side2 => exact HC0_1.out); rintro e w13 ⟨rfl, hb⟩; refine ⟨_, rfl, ?_⟩; have n0_ := Aside0.mk (blk_below (g := gb722) (o := .cells #[.int .i64 a0_0, .slice A0_1 l0_1.length c0_1] 32 (0, 0)) (by (with_reducible repeat (first | refine blk_drewN ?_ _ | refine blk_drew ?_ | refine blk_alloc ?_ _)); exact BK722.out) hb); have n1_ := Aside0.mk (blk_below (g := gb723) (o := .cells #[.int .i64 a1_0, .slice A1_1 l1_1.length c1_1] 32 (0, 0)) (by (with_reducible repeat (first | refine blk_drewN ?_ _ | refine blk_drew ?_ | refine blk_alloc ?_ _)); exact BK723.out) hb); have n2_ := Aside0.mk (below_step (by repeat (first | (with_reducible first | exact HB.out | apply below_alloc | apply pw_below_drewN | apply below_drew1 | refine below_set ?_ GE722.out | refine below_set ?_ GE723.out) | exact HB.out)) hb); clear BK722; clear BK723; clear HB; have BK722 := n0_; have BK723 := n1_; have HB := n2_; clear n0_ n1_ n2_; (try clear hb); (try clear hb2); (try clear hk); (try clear hi); have hcz14_0 : w13.cell? ⟨gb723, 0, none⟩ = some (.int .i64 a1_0) := (blk_cell BK723.out 0).trans rfl; have hcz14_1 : w13.cell? ⟨gb723, 1, none⟩ = some (.slice A1_1 l1_1.length c1_1) := (blk_cell BK723.out 1).trans rfl; have hfz14_0 := blk_frozen BK723.out 0; have hfz14_1 := blk_frozen BK723.out 1) | ((with_reducible refine gate_callee (f := 56) rfl ?_); refine goesL_ (some 15) rfl rfl Try.func56 (by kernel_rfl) rfl #[.agg #[.int .i64 a1_0, .slice A1_1 l1_1.length c1_1]] rfl (by (try simp only [List.map_toArray, List.map_cons, List.map_nil]); first | done | rfl | (simp only [List.length_drop, List.length_take]; rfl)) ?_; (with_reducible refine (manifest_Check.calls k a1_0 _ _ l1_1 t725 _ ?side1 ?side2 A5.out).mono ?_); (case side1 => repeat (first | exact (Kd.C_below HR1_1.out HB.out) | (with_reducible refine Kd.C_alloc ?_ _) | (with_reducible refine Kd.C_drewN ?_ _) | (with_reducible refine Kd.C_drew ?_))); (case side2 => exact HC1_1.out); rintro e w15 ⟨rfl, hb⟩; refine ⟨_, rfl, ?_⟩; have n0_ := Aside0.mk (blk_below (g := gb722) (o := .cells #[.int .i64 a0_0, .slice A0_1 l0_1.length c0_1] 32 (0, 0)) (by (with_reducible repeat (first | refine blk_drewN ?_ _ | refine blk_drew ?_ | refine blk_alloc ?_ _)); exact BK722.out) hb); have n1_ := Aside0.mk (blk_below (g := gb723) (o := .cells #[.int .i64 a1_0, .slice A1_1 l1_1.length c1_1] 32 (0, 0)) (by (with_reducible repeat (first | refine blk_drewN ?_ _ | refine blk_drew ?_ | refine blk_alloc ?_ _)); exact BK723.out) hb); have n2_ := Aside0.mk (below_step (by repeat (first | (with_reducible first | exact HB.out | apply below_alloc | apply pw_below_drewN | apply below_drew1 | refine below_set ?_ GE722.out | refine below_set ?_ GE723.out) | exact HB.out)) hb); clear BK722; clear BK723; clear HB; have BK722 := n0_; have BK723 := n1_; have HB := n2_; clear n0_ n1_ n2_; (try clear hb); (try clear hb2); (try clear hk); (try clear hi)))
   have n0_ := Aside0.mk (blk_drew BK722.out)
   have n1_ := Aside0.mk (blk_drew BK723.out)
   have n2_ := Aside0.mk (below_drew1 HB.out)
   clear BK722
   clear BK723
   clear HB
   have BK722 := n0_
   have BK723 := n1_
   have HB := n2_
   clear n0_ n1_ n2_
   refine start_ (n := 13) (S := fun w' => w'.cell? ⟨gb723, 0, none⟩ = some (.int .i64 a1_0) ∧ w'.cell? ⟨gb723, 1, none⟩ = some (.slice A1_1 l1_1.length c1_1) ∧ w'.cell? ⟨gb722, 0, none⟩ = some (.int .i64 a0_0) ∧ w'.cell? ⟨gb722, 1, none⟩ = some (.slice A0_1 l0_1.length c0_1)) (ds := []) #[false, false, false, false, false, false, false, false, false, false, false, false, false] (by kernel_rfl) rfl rfl ⟨(blk_cell BK723.out 0).trans rfl, (blk_cell BK723.out 1).trans rfl, (blk_cell BK722.out 0).trans rfl, (blk_cell BK722.out 1).trans rfl⟩ (fun hHeld => ?_); refine with_tabW manifest_Change.tab7 manifest_Change.bits7 (fun HT_ HW_ => ?_)
   generalize w15.drew = w16 at BK722 BK723 HB hHeld ⊢
   refine pu 0 19 (v := ?_) (a' := ?_) HT_ rfl rfl (by kernel_rfl) (fun _ _ _ h => h) (Or.inl ⟨by rfl, ?_⟩) ?_ ?_
   rotate_left; (intro w'; go_simp; with_reducible rfl); rotate_left; (simp only [Act.put, Sa, Sz, Ss, i64_w, i32_w]; rfl)
   refine pu 2 21 (v := ?_) (a' := ?_) HT_ rfl rfl (by kernel_rfl) (fun _ _ _ h => h) (Or.inl ⟨by rfl, ?_⟩) ?_ ?_
   rotate_left; (intro w'; go_simp; with_reducible rfl); rotate_left; (simp only [Act.put, Sa, Sz, Ss, i64_w, i32_w]; rfl)
   refine pu 5 24 (v := ?_) (a' := ?_) HT_ rfl rfl (by kernel_rfl) (fun _ _ _ h => h) (Or.inl ⟨by rfl, ?_⟩) ?_ ?_
   rotate_left; (intro w'; go_simp; with_reducible rfl); rotate_left; (simp only [Act.put, Sa, Sz, Ss, i64_w, i32_w]; rfl)
   refine pu 7 26 (v := ?_) (a' := ?_) HT_ rfl rfl (by kernel_rfl) (fun _ _ _ h => h) (Or.inl ⟨by rfl, ?_⟩) ?_ ?_
   rotate_left; (intro w'; go_simp; with_reducible rfl); rotate_left; (simp only [Act.put, Sa, Sz, Ss, i64_w, i32_w]; rfl)
   refine tk 1 20 (v := ?_) (a' := ?_) HT_ HW_ rfl rfl (by kernel_rfl) (fun _ _ _ h => h) (Or.inl ⟨by rfl, ?_⟩) hHeld ?_ ?_
   rotate_left; (rintro w' ⟨s0, s1, s2, s3⟩; go_simp; with_reducible rfl); rotate_left; (simp only [Act.put, Sa, Sz, Ss, i64_w, i32_w]; rfl)
   refine tk 3 22 (v := ?_) (a' := ?_) HT_ HW_ rfl rfl (by kernel_rfl) (fun _ _ _ h => h) (Or.inl ⟨by rfl, ?_⟩) hHeld ?_ ?_
   rotate_left; (rintro w' ⟨s0, s1, s2, s3⟩; go_simp; with_reducible rfl); rotate_left; (simp only [Act.put, Sa, Sz, Ss, i64_w, i32_w]; rfl)
   refine tk 6 25 (v := ?_) (a' := ?_) HT_ HW_ rfl rfl (by kernel_rfl) (fun _ _ _ h => h) (Or.inl ⟨by rfl, ?_⟩) hHeld ?_ ?_
   rotate_left; (rintro w' ⟨s0, s1, s2, s3⟩; go_simp; with_reducible rfl); rotate_left; (simp only [Act.put, Sa, Sz, Ss, i64_w, i32_w]; rfl)
   refine tk 8 27 (v := ?_) (a' := ?_) HT_ HW_ rfl rfl (by kernel_rfl) (fun _ _ _ h => h) (Or.inl ⟨by rfl, ?_⟩) hHeld ?_ ?_
   rotate_left; (rintro w' ⟨s0, s1, s2, s3⟩; go_simp; with_reducible rfl); rotate_left; (simp only [Act.put, Sa, Sz, Ss, i64_w, i32_w]; rfl)
   refine one_ (i := 4) (N := some 23) #[true, true, true, true, true, true, true, true, true, false, false, false, false] rfl rfl (one_of HT_.out (by kernel_rfl)) (by decide) (fun K hK => ?_)
   refine goes_ Try.func86 (by kernel_rfl) rfl #[.slice A1_1 l1_1.length c1_1, .slice A0_1 l0_1.length c0_1] (by rfl) rfl rfl (by (try simp only [List.map_toArray, List.map_cons, List.map_nil]); first | done | rfl | (simp only [List.length_drop, List.length_take]; rfl)) ?_
   with_reducible refine (manifest_without.calls _ _ l1_1 _ _ l0_1 t726 _ ?side1 ?side2 ?side3 ?side4 A7.out).mono ?_
   (case side1 => repeat (first | exact (Kd.C_below HR1_1.out HB.out) | (with_reducible refine Kd.C_alloc ?_ _) | (with_reducible refine Kd.C_drewN ?_ _) | (with_reducible refine Kd.C_drew ?_)))
   (case side2 => exact HC1_1.out)
   (case side3 => repeat (first | exact (Kd.C_below HR0_1.out HB.out) | (with_reducible refine Kd.C_alloc ?_ _) | (with_reducible refine Kd.C_drewN ?_ _) | (with_reducible refine Kd.C_drew ?_)))
   (case side4 => exact HC0_1.out)
   rintro e w17 ⟨v727, rfl, ho0, hb⟩
   refine ⟨_, rfl, ?_⟩
   have n0_ := Aside0.mk (Kd.R_lower ho0 (below_size (by repeat (first | (with_reducible first | exact HB.out | apply below_alloc | apply pw_below_drewN | apply below_drew1 | refine below_set ?_ GE722.out | refine below_set ?_ GE723.out) | exact HB.out))))
   have n1_ := Aside0.mk (blk_below (g := gb722) (o := .cells #[.int .i64 a0_0, .slice A0_1 l0_1.length c0_1] 32 (0, 0)) (by (with_reducible repeat (first | refine blk_drewN ?_ _ | refine blk_drew ?_ | refine blk_alloc ?_ _)); exact BK722.out) hb)
   have n2_ := Aside0.mk (blk_below (g := gb723) (o := .cells #[.int .i64 a1_0, .slice A1_1 l1_1.length c1_1] 32 (0, 0)) (by (with_reducible repeat (first | refine blk_drewN ?_ _ | refine blk_drew ?_ | refine blk_alloc ?_ _)); exact BK723.out) hb)
   have n3_ := Aside0.mk (below_step (by repeat (first | (with_reducible first | exact HB.out | apply below_alloc | apply pw_below_drewN | apply below_drew1 | refine below_set ?_ GE722.out | refine below_set ?_ GE723.out) | exact HB.out)) hb)
   clear BK722
   clear BK723
   clear HB
   have HO728 := n0_
   have BK722 := n1_
   have BK723 := n2_
   have HB := n3_
   clear n0_ n1_ n2_ n3_
   (try clear hb)
   (try clear hb2)
   (try clear hk)
   (try clear hi)
   (try clear ho0)
   refine hK.out _ _ ⟨(blk_cell BK723.out 0).trans rfl, (blk_cell BK723.out 1).trans rfl, (blk_cell BK722.out 0).trans rfl, (blk_cell BK722.out 1).trans rfl⟩ (fun hHeld => ?_)
   clear hK K
   refine norm_ (a' := ?_) ?_ ?_
   rotate_left
   ·show Act.put _ (some 23) _ = _
    simp only [Act.put, Sa, Sz, Ss, i64_w, i32_w]
    rfl
   refine one_ (i := 9) (N := some 28) #[true, true, true, true, true, true, true, true, true, true, false, false, false] rfl rfl (one_of HT_.out (by kernel_rfl)) (by decide) (fun K hK => ?_)
   refine goes_ Try.func86 (by kernel_rfl) rfl #[.slice A0_1 l0_1.length c0_1, .slice A1_1 l1_1.length c1_1] (by rfl) rfl rfl (by (try simp only [List.map_toArray, List.map_cons, List.map_nil]); first | done | rfl | (simp only [List.length_drop, List.length_take]; rfl)) ?_
   with_reducible refine (manifest_without.calls _ _ l0_1 _ _ l1_1 t729 _ ?side1 ?side2 ?side3 ?side4 A8.out).mono ?_
   (case side1 => repeat (first | exact (Kd.C_below HR0_1.out HB.out) | (with_reducible refine Kd.C_alloc ?_ _) | (with_reducible refine Kd.C_drewN ?_ _) | (with_reducible refine Kd.C_drew ?_)))
   (case side2 => exact HC0_1.out)
   (case side3 => repeat (first | exact (Kd.C_below HR1_1.out HB.out) | (with_reducible refine Kd.C_alloc ?_ _) | (with_reducible refine Kd.C_drewN ?_ _) | (with_reducible refine Kd.C_drew ?_)))
   (case side4 => exact HC1_1.out)
   rintro e w18 ⟨v730, rfl, ho0, hb⟩
   refine ⟨_, rfl, ?_⟩
   have n0_ := Aside0.mk (Kd.R_elder' (by (with_reducible repeat (first | apply Kd.R_alloc | apply Kd.R_drewN | apply Kd.R_drew)); exact HO728.out) (Kd.R_base ho0) hb)
   have n1_ := Aside0.mk (Kd.R_lower (Kd.R_new' ho0 (Kd.R_lt (by (with_reducible repeat (first | apply Kd.R_alloc | apply Kd.R_drewN | apply Kd.R_drew)); exact HO728.out))) (below_size (by repeat (first | (with_reducible first | exact HB.out | apply below_alloc | apply pw_below_drewN | apply below_drew1 | refine below_set ?_ GE722.out | refine below_set ?_ GE723.out) | exact HB.out))))
   have n2_ := Aside0.mk (blk_below (g := gb722) (o := .cells #[.int .i64 a0_0, .slice A0_1 l0_1.length c0_1] 32 (0, 0)) (by (with_reducible repeat (first | refine blk_drewN ?_ _ | refine blk_drew ?_ | refine blk_alloc ?_ _)); exact BK722.out) hb)
   have n3_ := Aside0.mk (blk_below (g := gb723) (o := .cells #[.int .i64 a1_0, .slice A1_1 l1_1.length c1_1] 32 (0, 0)) (by (with_reducible repeat (first | refine blk_drewN ?_ _ | refine blk_drew ?_ | refine blk_alloc ?_ _)); exact BK723.out) hb)
   have n4_ := Aside0.mk (below_step (by repeat (first | (with_reducible first | exact HB.out | apply below_alloc | apply pw_below_drewN | apply below_drew1 | refine below_set ?_ GE722.out | refine below_set ?_ GE723.out) | exact HB.out)) hb)
   clear HO728
   clear BK722
   clear BK723
   clear HB
   have HO728 := n0_
   have HO731 := n1_
   have BK722 := n2_
   have BK723 := n3_
   have HB := n4_
   clear n0_ n1_ n2_ n3_ n4_
   (try clear hb)
   (try clear hb2)
   (try clear hk)
   (try clear hi)
   (try clear ho0)
   refine hK.out _ _ ⟨(blk_cell BK723.out 0).trans rfl, (blk_cell BK723.out 1).trans rfl, (blk_cell BK722.out 0).trans rfl, (blk_cell BK722.out 1).trans rfl⟩ (fun hHeld => ?_)
   clear hK K
   refine norm_ (a' := ?_) ?_ ?_
   rotate_left
   ·show Act.put _ (some 28) _ = _
    simp only [Act.put, Sa, Sz, Ss, i64_w, i32_w]
    rfl
   refine pu 10 4 (v := ?_) (a' := ?_) HT_ rfl rfl (by kernel_rfl) (fun _ _ _ h => h) (Or.inl ⟨by rfl, ?_⟩) ?_ ?_
   rotate_left; (intro w'; go_simp; with_reducible rfl); rotate_left; (simp only [Act.put, Sa, Sz, Ss, i64_w, i32_w]; rfl)
   refine pu 11 5 (v := ?_) (a' := ?_) HT_ rfl rfl (by kernel_rfl) (fun _ _ _ h => h) (Or.inl ⟨by rfl, ?_⟩) ?_ ?_
   rotate_left; (intro w'; go_simp; with_reducible rfl); rotate_left; (simp only [Act.put, Sa, Sz, Ss, i64_w, i32_w]; rfl)
   refine pu 12 6 (v := ?_) (a' := ?_) HT_ rfl rfl (by kernel_rfl) (fun _ _ _ h => h) (Or.inl ⟨by rfl, ?_⟩) ?_ ?_
   rotate_left; (intro w'; go_simp; with_reducible rfl); rotate_left; (simp only [Act.put, Sa, Sz, Ss, i64_w, i32_w]; rfl)
   refine done_ (done_of HT_.out (by kernel_rfl)) ?_
   try go_wp2
   go_ret3
   exact ⟨_, _, by first | rfl | (simp [errW_none, errW_some] <;> rfl) | (simp [*, errW_none, errW_some] <;> rfl), by (with_reducible repeat (first | apply Kd.R_alloc | apply Kd.R_drewN | apply Kd.R_drew)); exact Kd.R_mono HO728.out (fun _ hk => hk.2), by (with_reducible repeat (first | apply Kd.R_alloc | apply Kd.R_drewN | apply Kd.R_drew)); exact Kd.R_mono HO731.out (fun _ hk => hk.2), by repeat (first | (with_reducible first | exact HB.out | apply below_alloc | apply pw_below_drewN | apply below_drew1 | refine below_set ?_ GE722.out | refine below_set ?_ GE723.out) | exact HB.out)⟩
  ·rw [if_neg c6] at H
   have c6b0 : (t725 == 0) = false := beq_eq_false_iff_ne.mpr c6
   have c6b1 : (t725 != 0) = true := bne_iff_ne.mpr c6
   simp only [Option.some.injEq, Prod.mk.injEq] at H
   obtain ⟨rfl, rfl, rfl⟩ := H
   go_enter Try.func47, Try.ntmps47
   go_wp2_with (first | ((with_reducible refine gate_dst (N := 2) rfl ?_); refine box_event ?hg (N := 2) ?hd (cs := #[.int .i64 a0_0, .slice A0_1 l0_1.length c0_1]) (t := 32) ?hr ?_; (case hd => rfl); (case hg => rfl); (case hr => first | (go_simp; done) | (go_simp; rfl)); intro gb722 hg w19 hbox hb; have n0_ := Aside0.mk (below_step (by repeat (first | (with_reducible first | exact HB.out | apply below_alloc | apply pw_below_drewN | apply below_drew1) | exact HB.out)) hb); have n1_ := Aside0.mk (hbox); have n2_ := Aside0.mk ((by rw [hg]; exact (below_size (by repeat (first | (with_reducible first | exact HB.out | apply below_alloc | apply pw_below_drewN | apply below_drew1) | exact HB.out))) : w.heap.size ≤ gb722)); have n3_ := Aside0.mk ((by rw [hg]; exact (below_size (by repeat (first | (with_reducible first | exact HB.out | apply below_alloc | apply pw_below_drewN | apply below_drew1) | exact HB.out))) : w.heap.size ≤ gb722)); clear HB; have HB := n0_; have BK722 := n1_; have GW722 := n2_; have GE722 := n3_; clear n0_ n1_ n2_ n3_; clear hb hbox hg) | ((with_reducible refine gate_dst (N := 3) rfl ?_); refine box_event ?hg (N := 3) ?hd (cs := #[.int .i64 a1_0, .slice A1_1 l1_1.length c1_1]) (t := 32) ?hr ?_; (case hd => rfl); (case hg => rfl); (case hr => first | (go_simp; done) | (go_simp; rfl)); intro gb723 hg w20 hbox hb; have n0_ := Aside0.mk (blk_below (g := gb722) (o := .cells #[.int .i64 a0_0, .slice A0_1 l0_1.length c0_1] 32 (0, 0)) (by (with_reducible repeat (first | refine blk_drewN ?_ _ | refine blk_drew ?_ | refine blk_alloc ?_ _)); exact BK722.out) hb); have n1_ := Aside0.mk (below_step (by repeat (first | (with_reducible first | exact HB.out | apply below_alloc | apply pw_below_drewN | apply below_drew1 | refine below_set ?_ GE722.out) | exact HB.out)) hb); have n2_ := Aside0.mk (hbox); have n3_ := Aside0.mk ((by rw [hg]; exact (below_size (by repeat (first | (with_reducible first | exact HB.out | apply below_alloc | apply pw_below_drewN | apply below_drew1 | refine below_set ?_ GE722.out) | exact HB.out))) : w.heap.size ≤ gb723)); have n4_ := Aside0.mk ((by rw [hg]; exact (below_size (by repeat (first | (with_reducible first | exact HB.out | apply below_alloc | apply pw_below_drewN | apply below_drew1 | refine below_set ?_ GE722.out) | exact HB.out))) : w.heap.size ≤ gb723)); have n5_ := Aside0.mk ((by rw [hg]; exact Nat.ne_of_lt (blk_lt (g := gb722) (o := .cells #[.int .i64 a0_0, .slice A0_1 l0_1.length c0_1] 32 (0, 0)) (by (with_reducible repeat (first | refine blk_drewN ?_ _ | refine blk_drew ?_ | refine blk_alloc ?_ _)); exact BK722.out)) : gb722 ≠ gb723)); have n6_ := Aside0.mk ((by rw [hg]; exact Nat.ne_of_gt (blk_lt (g := gb722) (o := .cells #[.int .i64 a0_0, .slice A0_1 l0_1.length c0_1] 32 (0, 0)) (by (with_reducible repeat (first | refine blk_drewN ?_ _ | refine blk_drew ?_ | refine blk_alloc ?_ _)); exact BK722.out)) : gb723 ≠ gb722)); clear BK722; clear HB; have BK722 := n0_; have HB := n1_; have BK723 := n2_; have GW723 := n3_; have GE723 := n4_; have NB722_723 := n5_; have NB723_722 := n6_; clear n0_ n1_ n2_ n3_ n4_ n5_ n6_; clear hb hbox hg; have hnb21 := NB722_723.out; have hnc21 := NB723_722.out; have hcz22_0 : w20.cell? ⟨gb722, 0, none⟩ = some (.int .i64 a0_0) := (blk_cell BK722.out 0).trans rfl; have hcz22_1 : w20.cell? ⟨gb722, 1, none⟩ = some (.slice A0_1 l0_1.length c0_1) := (blk_cell BK722.out 1).trans rfl; have hfz22_0 := blk_frozen BK722.out 0; have hfz22_1 := blk_frozen BK722.out 1) | ((with_reducible refine gate_callee (f := 56) rfl ?_); refine goesL_ (some 10) rfl rfl Try.func56 (by kernel_rfl) rfl #[.agg #[.int .i64 a0_0, .slice A0_1 l0_1.length c0_1]] rfl (by (try simp only [List.map_toArray, List.map_cons, List.map_nil]); first | done | rfl | (simp only [List.length_drop, List.length_take]; rfl)) ?_; (with_reducible refine (manifest_Check.calls k a0_0 _ _ l0_1 t724 _ ?side1 ?side2 A3.out).mono ?_); (case side1 => repeat (first | exact (Kd.C_below HR0_1.out HB.out) | (with_reducible refine Kd.C_alloc ?_ _) | (with_reducible refine Kd.C_drewN ?_ _) | (with_reducible refine Kd.C_drew ?_))); (case side2 => exact HC0_1.out); rintro e w23 ⟨rfl, hb⟩; refine ⟨_, rfl, ?_⟩; have n0_ := Aside0.mk (blk_below (g := gb722) (o := .cells #[.int .i64 a0_0, .slice A0_1 l0_1.length c0_1] 32 (0, 0)) (by (with_reducible repeat (first | refine blk_drewN ?_ _ | refine blk_drew ?_ | refine blk_alloc ?_ _)); exact BK722.out) hb); have n1_ := Aside0.mk (blk_below (g := gb723) (o := .cells #[.int .i64 a1_0, .slice A1_1 l1_1.length c1_1] 32 (0, 0)) (by (with_reducible repeat (first | refine blk_drewN ?_ _ | refine blk_drew ?_ | refine blk_alloc ?_ _)); exact BK723.out) hb); have n2_ := Aside0.mk (below_step (by repeat (first | (with_reducible first | exact HB.out | apply below_alloc | apply pw_below_drewN | apply below_drew1 | refine below_set ?_ GE722.out | refine below_set ?_ GE723.out) | exact HB.out)) hb); clear BK722; clear BK723; clear HB; have BK722 := n0_; have BK723 := n1_; have HB := n2_; clear n0_ n1_ n2_; (try clear hb); (try clear hb2); (try clear hk); (try clear hi); have hcz24_0 : w23.cell? ⟨gb723, 0, none⟩ = some (.int .i64 a1_0) := (blk_cell BK723.out 0).trans rfl; have hcz24_1 : w23.cell? ⟨gb723, 1, none⟩ = some (.slice A1_1 l1_1.length c1_1) := (blk_cell BK723.out 1).trans rfl; have hfz24_0 := blk_frozen BK723.out 0; have hfz24_1 := blk_frozen BK723.out 1) | ((with_reducible refine gate_callee (f := 56) rfl ?_); refine goesL_ (some 15) rfl rfl Try.func56 (by kernel_rfl) rfl #[.agg #[.int .i64 a1_0, .slice A1_1 l1_1.length c1_1]] rfl (by (try simp only [List.map_toArray, List.map_cons, List.map_nil]); first | done | rfl | (simp only [List.length_drop, List.length_take]; rfl)) ?_; (with_reducible refine (manifest_Check.calls k a1_0 _ _ l1_1 t725 _ ?side1 ?side2 A5.out).mono ?_); (case side1 => repeat (first | exact (Kd.C_below HR1_1.out HB.out) | (with_reducible refine Kd.C_alloc ?_ _) | (with_reducible refine Kd.C_drewN ?_ _) | (with_reducible refine Kd.C_drew ?_))); (case side2 => exact HC1_1.out); rintro e w25 ⟨rfl, hb⟩; refine ⟨_, rfl, ?_⟩; have n0_ := Aside0.mk (blk_below (g := gb722) (o := .cells #[.int .i64 a0_0, .slice A0_1 l0_1.length c0_1] 32 (0, 0)) (by (with_reducible repeat (first | refine blk_drewN ?_ _ | refine blk_drew ?_ | refine blk_alloc ?_ _)); exact BK722.out) hb); have n1_ := Aside0.mk (blk_below (g := gb723) (o := .cells #[.int .i64 a1_0, .slice A1_1 l1_1.length c1_1] 32 (0, 0)) (by (with_reducible repeat (first | refine blk_drewN ?_ _ | refine blk_drew ?_ | refine blk_alloc ?_ _)); exact BK723.out) hb); have n2_ := Aside0.mk (below_step (by repeat (first | (with_reducible first | exact HB.out | apply below_alloc | apply pw_below_drewN | apply below_drew1 | refine below_set ?_ GE722.out | refine below_set ?_ GE723.out) | exact HB.out)) hb); clear BK722; clear BK723; clear HB; have BK722 := n0_; have BK723 := n1_; have HB := n2_; clear n0_ n1_ n2_; (try clear hb); (try clear hb2); (try clear hk); (try clear hi)))
   go_ret3
   exact ⟨_, _, by first | rfl | (simp [errW_none, errW_some] <;> rfl) | (simp [*, errW_none, errW_some] <;> rfl), by first | exact Kd.R_nil _ _ _ _ _ | exact Kd.N_nil _ _ _ _ _ | exact Kd.V_nil _ _ _ _ _ | exact Kd.Q_nil _ _ _ _ _ | exact Kd.S_nil _ _ _ _ _, by first | exact Kd.R_nil _ _ _ _ _ | exact Kd.N_nil _ _ _ _ _ | exact Kd.V_nil _ _ _ _ _ | exact Kd.Q_nil _ _ _ _ _ | exact Kd.S_nil _ _ _ _ _, by repeat (first | (with_reducible first | exact HB.out | apply below_alloc | apply pw_below_drewN | apply below_drew1 | refine below_set ?_ GE722.out | refine below_set ?_ GE723.out) | exact HB.out)⟩
 ·rw [if_neg c4] at H
  have c4b0 : (t724 == 0) = false := beq_eq_false_iff_ne.mpr c4
  have c4b1 : (t724 != 0) = true := bne_iff_ne.mpr c4
  simp only [Option.some.injEq, Prod.mk.injEq] at H
  obtain ⟨rfl, rfl, rfl⟩ := H
  go_enter Try.func47, Try.ntmps47
  go_wp2_with (first | ((with_reducible refine gate_dst (N := 2) rfl ?_); refine box_event ?hg (N := 2) ?hd (cs := #[.int .i64 a0_0, .slice A0_1 l0_1.length c0_1]) (t := 32) ?hr ?_; (case hd => rfl); (case hg => rfl); (case hr => first | (go_simp; done) | (go_simp; rfl)); intro gb722 hg w26 hbox hb; have n0_ := Aside0.mk (below_step (by repeat (first | (with_reducible first | exact HB.out | apply below_alloc | apply pw_below_drewN | apply below_drew1) | exact HB.out)) hb); have n1_ := Aside0.mk (hbox); have n2_ := Aside0.mk ((by rw [hg]; exact (below_size (by repeat (first | (with_reducible first | exact HB.out | apply below_alloc | apply pw_below_drewN | apply below_drew1) | exact HB.out))) : w.heap.size ≤ gb722)); have n3_ := Aside0.mk ((by rw [hg]; exact (below_size (by repeat (first | (with_reducible first | exact HB.out | apply below_alloc | apply pw_below_drewN | apply below_drew1) | exact HB.out))) : w.heap.size ≤ gb722)); clear HB; have HB := n0_; have BK722 := n1_; have GW722 := n2_; have GE722 := n3_; clear n0_ n1_ n2_ n3_; clear hb hbox hg) | ((with_reducible refine gate_dst (N := 3) rfl ?_); refine box_event ?hg (N := 3) ?hd (cs := #[.int .i64 a1_0, .slice A1_1 l1_1.length c1_1]) (t := 32) ?hr ?_; (case hd => rfl); (case hg => rfl); (case hr => first | (go_simp; done) | (go_simp; rfl)); intro gb723 hg w27 hbox hb; have n0_ := Aside0.mk (blk_below (g := gb722) (o := .cells #[.int .i64 a0_0, .slice A0_1 l0_1.length c0_1] 32 (0, 0)) (by (with_reducible repeat (first | refine blk_drewN ?_ _ | refine blk_drew ?_ | refine blk_alloc ?_ _)); exact BK722.out) hb); have n1_ := Aside0.mk (below_step (by repeat (first | (with_reducible first | exact HB.out | apply below_alloc | apply pw_below_drewN | apply below_drew1 | refine below_set ?_ GE722.out) | exact HB.out)) hb); have n2_ := Aside0.mk (hbox); have n3_ := Aside0.mk ((by rw [hg]; exact (below_size (by repeat (first | (with_reducible first | exact HB.out | apply below_alloc | apply pw_below_drewN | apply below_drew1 | refine below_set ?_ GE722.out) | exact HB.out))) : w.heap.size ≤ gb723)); have n4_ := Aside0.mk ((by rw [hg]; exact (below_size (by repeat (first | (with_reducible first | exact HB.out | apply below_alloc | apply pw_below_drewN | apply below_drew1 | refine below_set ?_ GE722.out) | exact HB.out))) : w.heap.size ≤ gb723)); have n5_ := Aside0.mk ((by rw [hg]; exact Nat.ne_of_lt (blk_lt (g := gb722) (o := .cells #[.int .i64 a0_0, .slice A0_1 l0_1.length c0_1] 32 (0, 0)) (by (with_reducible repeat (first | refine blk_drewN ?_ _ | refine blk_drew ?_ | refine blk_alloc ?_ _)); exact BK722.out)) : gb722 ≠ gb723)); have n6_ := Aside0.mk ((by rw [hg]; exact Nat.ne_of_gt (blk_lt (g := gb722) (o := .cells #[.int .i64 a0_0, .slice A0_1 l0_1.length c0_1] 32 (0, 0)) (by (with_reducible repeat (first | refine blk_drewN ?_ _ | refine blk_drew ?_ | refine blk_alloc ?_ _)); exact BK722.out)) : gb723 ≠ gb722)); clear BK722; clear HB; have BK722 := n0_; have HB := n1_; have BK723 := n2_; have GW723 := n3_; have GE723 := n4_; have NB722_723 := n5_; have NB723_722 := n6_; clear n0_ n1_ n2_ n3_ n4_ n5_ n6_; clear hb hbox hg; have hnb28 := NB722_723.out; have hnc28 := NB723_722.out; have hcz29_0 : w27.cell? ⟨gb722, 0, none⟩ = some (.int .i64 a0_0) := (blk_cell BK722.out 0).trans rfl; have hcz29_1 : w27.cell? ⟨gb722, 1, none⟩ = some (.slice A0_1 l0_1.length c0_1) := (blk_cell BK722.out 1).trans rfl; have hfz29_0 := blk_frozen BK722.out 0; have hfz29_1 := blk_frozen BK722.out 1) | ((with_reducible refine gate_callee (f := 56) rfl ?_); refine goesL_ (some 10) rfl rfl Try.func56 (by kernel_rfl) rfl #[.agg #[.int .i64 a0_0, .slice A0_1 l0_1.length c0_1]] rfl (by (try simp only [List.map_toArray, List.map_cons, List.map_nil]); first | done | rfl | (simp only [List.length_drop, List.length_take]; rfl)) ?_; (with_reducible refine (manifest_Check.calls k a0_0 _ _ l0_1 t724 _ ?side1 ?side2 A3.out).mono ?_); (case side1 => repeat (first | exact (Kd.C_below HR0_1.out HB.out) | (with_reducible refine Kd.C_alloc ?_ _) | (with_reducible refine Kd.C_drewN ?_ _) | (with_reducible refine Kd.C_drew ?_))); (case side2 => exact HC0_1.out); rintro e w30 ⟨rfl, hb⟩; refine ⟨_, rfl, ?_⟩; have n0_ := Aside0.mk (blk_below (g := gb722) (o := .cells #[.int .i64 a0_0, .slice A0_1 l0_1.length c0_1] 32 (0, 0)) (by (with_reducible repeat (first | refine blk_drewN ?_ _ | refine blk_drew ?_ | refine blk_alloc ?_ _)); exact BK722.out) hb); have n1_ := Aside0.mk (blk_below (g := gb723) (o := .cells #[.int .i64 a1_0, .slice A1_1 l1_1.length c1_1] 32 (0, 0)) (by (with_reducible repeat (first | refine blk_drewN ?_ _ | refine blk_drew ?_ | refine blk_alloc ?_ _)); exact BK723.out) hb); have n2_ := Aside0.mk (below_step (by repeat (first | (with_reducible first | exact HB.out | apply below_alloc | apply pw_below_drewN | apply below_drew1 | refine below_set ?_ GE722.out | refine below_set ?_ GE723.out) | exact HB.out)) hb); clear BK722; clear BK723; clear HB; have BK722 := n0_; have BK723 := n1_; have HB := n2_; clear n0_ n1_ n2_; (try clear hb); (try clear hb2); (try clear hk); (try clear hi)))
  go_ret3
  exact ⟨_, _, by first | rfl | (simp [errW_none, errW_some] <;> rfl) | (simp [*, errW_none, errW_some] <;> rfl), by first | exact Kd.R_nil _ _ _ _ _ | exact Kd.N_nil _ _ _ _ _ | exact Kd.V_nil _ _ _ _ _ | exact Kd.Q_nil _ _ _ _ _ | exact Kd.S_nil _ _ _ _ _, by first | exact Kd.R_nil _ _ _ _ _ | exact Kd.N_nil _ _ _ _ _ | exact Kd.V_nil _ _ _ _ _ | exact Kd.Q_nil _ _ _ _ _ | exact Kd.S_nil _ _ _ _ _, by repeat (first | (with_reducible first | exact HB.out | apply below_alloc | apply pw_below_drewN | apply below_drew1 | refine below_set ?_ GE722.out | refine below_set ?_ GE723.out) | exact HB.out)⟩
end Go.Proofs.Ytodhkbahjomfhaa.Q

namespace Go.Proofs.Ytodhkbahjomfhaa.Q
open Go.RowKit Go.Proofs.YtodhkbahjomfhaaW.PrintWords Go.Proofs.YtodhkbahjomfhaaW.PrintLast Go.Proofs.YtodhkbahjomfhaaW.PrintMore Go.Proofs.Ytodhkbahjomfhaa.Gput Go.Proofs.Ytodhkbahjomfhaa.Gputl
attribute [local go_sem] max2_int min2_int max_two min_two max_three min_three max_four min_four   -- for this text's walks alone
set_option linter.unusedVariables false
set_option linter.unusedSimpArgs false
attribute [local go_sem high] eqA78
noncomputable def storagebarterlaw08_has.l0 : Nat → List (S78) → Int → Int → Int → Int → Option (Bool)
 | 0, _, _, _, _, _ => none
 | k + 1, x7, x8, x9, x733000, x733001 => if x9 < x8 then (if 0 ≤ x9 then (if x9 < (x7.length : Int) then (if (((rd_T78 x7 x9).f0) == x733000 && (((rd_T78 x7 x9).f1) == x733001)) = true then (some true) else (storagebarterlaw08_has.l0 k x7 x8 (wrap64 (x9 + 1)) x733000 x733001)) else (none)) else (none)) else (some false)
noncomputable def storagebarterlaw08_has.f (k : Nat) (l0 : List (S78)) (a1_0 : Int) (a1_1 : Int) : Option (Bool) := storagebarterlaw08_has.l0 k l0 (l0.length : Int) 0 a1_0 a1_1
set_option maxHeartbeats 8000000 in
set_option maxRecDepth 100000 in
theorem storagebarterlaw08_has.calls (k : Nat) (A0 : Option Addr) (c0 : Nat) (l0 : List (S78)) (a1_0 : Int) (a1_1 : Int) (r : Bool) (w : World) (hr0 : Kd.C k78 w A0 l0.length l0) (hc0 : l0.length ≤ c0) (h : storagebarterlaw08_has.f k l0 a1_0 a1_1 = some r) :
 Calls Try.prog 49 #[.slice A0 l0.length c0, .agg #[.int .i64 a1_0, .int .i64 a1_1]] w fun e w' => e = .returned (.bool r) ∧ Below w.heap.size w w' := by
 have hu78 := Try.underlying78
 have HR0 := Aside0.mk hr0
 have HC0 := Aside0.mk hc0
 clear hr0 hc0
 have HB := Aside0.mk (Below.refl w.heap.size w)
 have H : (storagebarterlaw08_has.l0 k l0 (l0.length : Int) 0 a1_0 a1_1) = some r := h
 clear h
 have H' := Aside0.mk H
 clear H
 go_enter Try.func49, Try.ntmps49
 go_wp2_with (first | ((with_reducible refine gate_dst (N := 3) rfl ?_); refine box_event ?hg (N := 3) ?hd (cs := #[.int .i64 a1_0, .int .i64 a1_1]) (t := 78) ?hr ?_; (case hd => rfl); (case hg => rfl); (case hr => first | (go_simp; done) | (go_simp; rfl)); intro gb732 hg w3 hbox hb; have n0_ := Aside0.mk (below_step (by repeat (first | (with_reducible first | exact HB.out | apply below_alloc | apply pw_below_drewN | apply below_drew1) | exact HB.out)) hb); have n1_ := Aside0.mk (hbox); have n2_ := Aside0.mk ((by rw [hg]; exact (below_size (by repeat (first | (with_reducible first | exact HB.out | apply below_alloc | apply pw_below_drewN | apply below_drew1) | exact HB.out))) : w.heap.size ≤ gb732)); have n3_ := Aside0.mk ((by rw [hg]; exact (below_size (by repeat (first | (with_reducible first | exact HB.out | apply below_alloc | apply pw_below_drewN | apply below_drew1) | exact HB.out))) : w.heap.size ≤ gb732)); clear HB; have HB := n0_; have BK732 := n1_; have GW732 := n2_; have GE732 := n3_; clear n0_ n1_ n2_ n3_; clear hb hbox hg))
 go_loopg [9] k (fun kq v9 w' => ∃ (x9_1 : Int), v9 = .int .i64 x9_1 ∧ Aside0 (storagebarterlaw08_has.l0 kq l0 (l0.length : Int) x9_1 a1_0 a1_1 = some r) ∧ Aside0 (kq ≤ k) ∧ Aside0 (w'.heap[gb732]? = some (.cells #[.int .i64 a1_0, .int .i64 a1_1] 78 (0, 0))) ∧ Aside0 (Below w.heap.size w w'))
 case atStart => exact ⟨(0), (by first | rfl | (simp; done) | (simp [*]; done)), H', ⟨Nat.le_refl _⟩, ⟨by (with_reducible repeat (first | refine blk_drewN ?_ _ | refine blk_drew ?_ | refine blk_alloc ?_ _)); exact BK732.out⟩, ⟨by repeat (first | (with_reducible first | exact HB.out | apply below_alloc | apply pw_below_drewN | apply below_drew1 | refine below_set ?_ GE732.out) | exact HB.out)⟩⟩
 case round =>
  clear H'
  try clear p2
  obtain ⟨x9_1, rfl, HA, HK1, BK732, HB⟩ := hrel
  cases gk with
  | zero => exact absurd HA.out (by simp [storagebarterlaw08_has.l0])
  | succ k1 =>
   have H := HA.out
   clear HA
   simp only [storagebarterlaw08_has.l0] at H
   by_cases c4 : x9_1 < (l0.length : Int)
   ·rw [if_pos c4] at H
    have c4b0 : decide (x9_1 < (l0.length : Int)) = true := decide_eq_true c4
    clear c4
    by_cases c5 : 0 ≤ x9_1
    ·rw [if_pos c5] at H
     have c5b0 : decide (0 ≤ x9_1) = true := decide_eq_true c5
     clear c5
     by_cases c6 : x9_1 < (l0.length : Int)
     ·rw [if_pos c6] at H
      have c6b0 : decide (x9_1 < (l0.length : Int)) = true := decide_eq_true c6
      clear c6
      by_cases c7 : (((rd_T78 l0 x9_1).f0) == a1_0 && (((rd_T78 l0 x9_1).f1) == a1_1)) = true
      ·rw [if_pos c7] at H
       have c7b0 : (((rd_T78 l0 x9_1).f0) == a1_0 && (((rd_T78 l0 x9_1).f1) == a1_1)) = true := c7
       (try (have c7b1 : decide (((rd_T78 l0 x9_1).f0) = a1_0 && (((rd_T78 l0 x9_1).f1) == a1_1)) = true := by simpa using c7))
       (try (have c7b2 : (((rd_T78 l0 x9_1).f0) == a1_0 && (((rd_T78 l0 x9_1).f1) == a1_1)) = true := by simpa using c7))
       clear c7
       obtain rfl := Option.some.inj H
       have p733 : 0 ≤ (x9_1 : Int) := of_decide_eq_true (by first | (with_reducible assumption) | assumption)
       have q733 : x9_1 < (l0.length : Int) := of_decide_eq_true (by first | (with_reducible assumption) | assumption)
       obtain ⟨ad733, e733, hx733_0, hx733_1⟩ := at_T78 HR0.out x9_1 p733 q733
       cases e733
       replace hx733_0 := (HB.out.cell (World.block_lt_of_cell? w _ hx733_0)).trans hx733_0
       replace hx733_1 := (HB.out.cell (World.block_lt_of_cell? w _ hx733_1)).trans hx733_1
       replace p733 := eq_true p733
       replace q733 := eq_true q733
       go_wp2_with (first | ((with_reducible refine gate_dst (N := 6) rfl ?_); refine box_event ?hg (N := 6) ?hd (cs := #[.int .i64 0, .int .i64 0]) (t := 78) ?hr ?_; (case hd => rfl); (case hg => rfl); (case hr => first | (go_simp; done) | (go_simp; rfl)); intro gb734 hg w8 hbox hb; have n0_ := Aside0.mk (blk_below (g := gb732) (o := .cells #[.int .i64 a1_0, .int .i64 a1_1] 78 (0, 0)) (by (with_reducible repeat (first | refine blk_drewN ?_ _ | refine blk_drew ?_ | refine blk_alloc ?_ _)); exact BK732.out) hb); have n1_ := Aside0.mk (below_step (by repeat (first | (with_reducible first | exact HB.out | apply below_alloc | apply pw_below_drewN | apply below_drew1 | refine below_set ?_ GE732.out) | exact HB.out)) hb); have n2_ := Aside0.mk (hbox); have n3_ := Aside0.mk ((by rw [hg]; exact (below_size (by repeat (first | (with_reducible first | exact HB.out | apply below_alloc | apply pw_below_drewN | apply below_drew1 | refine below_set ?_ GE732.out) | exact HB.out))) : w.heap.size ≤ gb734)); have n4_ := Aside0.mk ((by rw [hg]; exact (below_size (by repeat (first | (with_reducible first | exact HB.out | apply below_alloc | apply pw_below_drewN | apply below_drew1 | refine below_set ?_ GE732.out) | exact HB.out))) : w.heap.size ≤ gb734)); have n5_ := Aside0.mk ((by rw [hg]; exact Nat.ne_of_lt (blk_lt (g := gb732) (o := .cells #[.int .i64 a1_0, .int .i64 a1_1] 78 (0, 0)) (by (with_reducible repeat (first | refine blk_drewN ?_ _ | refine blk_drew ?_ | refine blk_alloc ?_ _)); exact BK732.out)) : gb732 ≠ gb734)); have n6_ := Aside0.mk ((by rw [hg]; exact Nat.ne_of_gt (blk_lt (g := gb732) (o := .cells #[.int .i64 a1_0, .int .i64 a1_1] 78 (0, 0)) (by (with_reducible repeat (first | refine blk_drewN ?_ _ | refine blk_drew ?_ | refine blk_alloc ?_ _)); exact BK732.out)) : gb734 ≠ gb732)); clear BK732; clear HB; have BK732 := n0_; have HB := n1_; have BK734 := n2_; have GW734 := n3_; have GE734 := n4_; have NB732_734 := n5_; have NB734_732 := n6_; clear n0_ n1_ n2_ n3_ n4_ n5_ n6_; clear hb hbox hg; have hnb9 := NB734_732.out; have hnc9 := NB732_734.out; have hcz10_0 : w8.cell? ⟨gb734, 0, none⟩ = some (.int .i64 0) := (blk_cell BK734.out 0).trans rfl; have hcz10_1 : w8.cell? ⟨gb734, 1, none⟩ = some (.int .i64 0) := (blk_cell BK734.out 1).trans rfl; have hfz10_0 := blk_frozen BK734.out 0; have hfz10_1 := blk_frozen BK734.out 1; have hcz11_0 : w8.cell? ⟨gb732, 0, none⟩ = some (.int .i64 a1_0) := (blk_cell BK732.out 0).trans rfl; have hcz11_1 : w8.cell? ⟨gb732, 1, none⟩ = some (.int .i64 a1_1) := (blk_cell BK732.out 1).trans rfl; have hfz11_0 := blk_frozen BK732.out 0; have hfz11_1 := blk_frozen BK732.out 1))
       go_ret
       exact ⟨by first | rfl | (simp [errW_none, errW_some] <;> rfl) | (simp [*, errW_none, errW_some] <;> rfl), by repeat (first | (with_reducible first | exact HB.out | apply below_alloc | apply pw_below_drewN | apply below_drew1 | refine below_set ?_ GE732.out | refine below_set ?_ GE734.out) | exact HB.out)⟩
      ·rw [if_neg c7] at H
       have c7b0 : (((rd_T78 l0 x9_1).f0) == a1_0 && (((rd_T78 l0 x9_1).f1) == a1_1)) = false := by simpa using c7
       (try (have c7b1 : decide (((rd_T78 l0 x9_1).f0) = a1_0 && (((rd_T78 l0 x9_1).f1) == a1_1)) = false := by simpa using c7))
       (try (have c7b2 : (((rd_T78 l0 x9_1).f0) == a1_0 && (((rd_T78 l0 x9_1).f1) == a1_1)) = false := by simpa using c7))
       (try (have c7b3 : ¬ (((rd_T78 l0 x9_1).f0) = a1_0 && (((rd_T78 l0 x9_1).f1) == a1_1)) := by simpa using c7))
       clear c7
       have H' := Aside0.mk H
       clear H
       have p733 : 0 ≤ (x9_1 : Int) := of_decide_eq_true (by first | (with_reducible assumption) | assumption)
       have q733 : x9_1 < (l0.length : Int) := of_decide_eq_true (by first | (with_reducible assumption) | assumption)
       obtain ⟨ad733, e733, hx733_0, hx733_1⟩ := at_T78 HR0.out x9_1 p733 q733
       cases e733
       replace hx733_0 := (HB.out.cell (World.block_lt_of_cell? w _ hx733_0)).trans hx733_0
       replace hx733_1 := (HB.out.cell (World.block_lt_of_cell? w _ hx733_1)).trans hx733_1
       replace p733 := eq_true p733
       replace q733 := eq_true q733
       go_wp2_with (first | ((with_reducible refine gate_dst (N := 6) rfl ?_); refine box_event ?hg (N := 6) ?hd (cs := #[.int .i64 0, .int .i64 0]) (t := 78) ?hr ?_; (case hd => rfl); (case hg => rfl); (case hr => first | (go_simp; done) | (go_simp; rfl)); intro gb734 hg w12 hbox hb; have n0_ := Aside0.mk (blk_below (g := gb732) (o := .cells #[.int .i64 a1_0, .int .i64 a1_1] 78 (0, 0)) (by (with_reducible repeat (first | refine blk_drewN ?_ _ | refine blk_drew ?_ | refine blk_alloc ?_ _)); exact BK732.out) hb); have n1_ := Aside0.mk (below_step (by repeat (first | (with_reducible first | exact HB.out | apply below_alloc | apply pw_below_drewN | apply below_drew1 | refine below_set ?_ GE732.out) | exact HB.out)) hb); have n2_ := Aside0.mk (hbox); have n3_ := Aside0.mk ((by rw [hg]; exact (below_size (by repeat (first | (with_reducible first | exact HB.out | apply below_alloc | apply pw_below_drewN | apply below_drew1 | refine below_set ?_ GE732.out) | exact HB.out))) : w.heap.size ≤ gb734)); have n4_ := Aside0.mk ((by rw [hg]; exact (below_size (by repeat (first | (with_reducible first | exact HB.out | apply below_alloc | apply pw_below_drewN | apply below_drew1 | refine below_set ?_ GE732.out) | exact HB.out))) : w.heap.size ≤ gb734)); have n5_ := Aside0.mk ((by rw [hg]; exact Nat.ne_of_lt (blk_lt (g := gb732) (o := .cells #[.int .i64 a1_0, .int .i64 a1_1] 78 (0, 0)) (by (with_reducible repeat (first | refine blk_drewN ?_ _ | refine blk_drew ?_ | refine blk_alloc ?_ _)); exact BK732.out)) : gb732 ≠ gb734)); have n6_ := Aside0.mk ((by rw [hg]; exact Nat.ne_of_gt (blk_lt (g := gb732) (o := .cells #[.int .i64 a1_0, .int .i64 a1_1] 78 (0, 0)) (by (with_reducible repeat (first | refine blk_drewN ?_ _ | refine blk_drew ?_ | refine blk_alloc ?_ _)); exact BK732.out)) : gb734 ≠ gb732)); clear BK732; clear HB; have BK732 := n0_; have HB := n1_; have BK734 := n2_; have GW734 := n3_; have GE734 := n4_; have NB732_734 := n5_; have NB734_732 := n6_; clear n0_ n1_ n2_ n3_ n4_ n5_ n6_; clear hb hbox hg; have hnb13 := NB734_732.out; have hnc13 := NB732_734.out; have hcz14_0 : w12.cell? ⟨gb734, 0, none⟩ = some (.int .i64 0) := (blk_cell BK734.out 0).trans rfl; have hcz14_1 : w12.cell? ⟨gb734, 1, none⟩ = some (.int .i64 0) := (blk_cell BK734.out 1).trans rfl; have hfz14_0 := blk_frozen BK734.out 0; have hfz14_1 := blk_frozen BK734.out 1; have hcz15_0 : w12.cell? ⟨gb732, 0, none⟩ = some (.int .i64 a1_0) := (blk_cell BK732.out 0).trans rfl; have hcz15_1 : w12.cell? ⟨gb732, 1, none⟩ = some (.int .i64 a1_1) := (blk_cell BK732.out 1).trans rfl; have hfz15_0 := blk_frozen BK732.out 0; have hfz15_1 := blk_frozen BK732.out 1))
       go_roundg k1
       case measure => have := HK1.out; omega
       case rel => exact ⟨(wrap64 (x9_1 + 1)), (by first | rfl | (simp; done) | (simp [*]; done)), H', ⟨by have := HK1.out; omega⟩, ⟨by (with_reducible repeat (first | refine blk_drewN ?_ _ | refine blk_drew ?_ | refine blk_alloc ?_ _)); refine blk_far ?_ NB732_734.out _; (with_reducible repeat (first | refine blk_drewN ?_ _ | refine blk_drew ?_ | refine blk_alloc ?_ _)); refine blk_far ?_ NB732_734.out _; (with_reducible repeat (first | refine blk_drewN ?_ _ | refine blk_drew ?_ | refine blk_alloc ?_ _)); exact BK732.out⟩, ⟨by repeat (first | (with_reducible first | exact HB.out | apply below_alloc | apply pw_below_drewN | apply below_drew1 | refine below_set ?_ GE732.out | refine below_set ?_ GE734.out) | exact HB.out)⟩⟩
     ·rw [if_neg c6] at H
      exact absurd H (by simp)
    ·rw [if_neg c5] at H
     exact absurd H (by simp)
   ·rw [if_neg c4] at H
    have c4b0 : decide (x9_1 < (l0.length : Int)) = false := decide_eq_false c4
    clear c4
    obtain rfl := Option.some.inj H
    go_wp2
    go_ret
    exact ⟨by first | rfl | (simp [errW_none, errW_some] <;> rfl) | (simp [*, errW_none, errW_some] <;> rfl), by repeat (first | (with_reducible first | exact HB.out | apply below_alloc | apply pw_below_drewN | apply below_drew1 | refine below_set ?_ GE732.out) | exact HB.out)⟩
end Go.Proofs.Ytodhkbahjomfhaa.Q
