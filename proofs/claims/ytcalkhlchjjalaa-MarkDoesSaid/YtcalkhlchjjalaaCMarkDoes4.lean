/- Which directories are valid, who is in them, all marks, and what verifies, or the error, for any arguments; and the row, whose second argument is a slice of structs. -/
import Derived.Test.YtcalkhlchjjalaaCMarkDoes3
import Derived.Test.YtcalkhlchjjalaaRows
import Derived.Deep.SlicePairs
import Derived.WalkKit
import Derived.ProofKit
import Derived.OpenShut
import Derived.ShutString
import Derived.ChangeOld
import Derived.Below
import Derived.SizedLaws
import Derived.Test.YtcalkhlchjjalaaWSized
namespace Go.Proofs.Ytcalkhlchjjalaa.Q
open Go.RowKit Go.Proofs.YtcalkhlchjjalaaW.PrintWords Go.Proofs.YtcalkhlchjjalaaW.PrintLast Go.Proofs.YtcalkhlchjjalaaW.PrintMore Go.Proofs.Ytcalkhlchjjalaa.Gput
attribute [local go_sem] max2_int min2_int max_two min_two max_three min_three max_four min_four   -- for this text's walks alone
set_option linter.unusedVariables false
set_option linter.unusedSimpArgs false

/-! ### storagebarterref14_Verify: function 18 -/
def storagebarterref14_Verify.f (k : Nat) (l0 : List (S31)) (a1 : Int) (a2 : ByteArray) (a3 : Int) : Option (Bool) := (storagebarterref14_Find.f k l0 a1).bind fun bt151 => (if bt151.2.2 = true then ((storagebarterref14_Sign.f k bt151.2.1 a2).bind fun bt155 => (if bt155.2 = 0 then (some (bt155.1 == a3)) else (some false))) else (some false))
theorem storagebarterref14_Verify.mono : ∀ a0 a1 a2 a3 k, LeO (storagebarterref14_Verify.f k a0 a1 a2 a3) (storagebarterref14_Verify.f (k + 1) a0 a1 a2 a3) := by
  intro a0 a1 a2 a3 k
  unfold storagebarterref14_Verify.f
  repeat' first
      | (with_reducible exact storagebarterref14_Find.mono _ _ _)
      | (with_reducible exact storagebarterref14_Sign.mono _ _ _)
      | (with_reducible exact LeO.refl _)
      | (with_reducible exact LeO.none _)
      | (with_reducible refine LeO.ite ?_ ?_)
      | (with_reducible refine LeO.bind ?_ (fun _ => ?_))
      | exact storagebarterref14_Find.mono _ _ _
      | exact storagebarterref14_Sign.mono _ _ _
      | exact LeO.none _
      | refine LeO.ite ?_ ?_
      | refine LeO.bind ?_ (fun _ => ?_)
set_option maxHeartbeats 8000000 in
set_option maxRecDepth 100000 in
theorem storagebarterref14_Verify.calls (k : Nat) (A0 : Option Addr) (c0 : Nat) (l0 : List (S31)) (a1 : Int) (a2 : ByteArray) (a3 : Int) (r : Bool) (w : World) (hr0 : Kd.C k31 w A0 l0.length l0) (hc0 : l0.length ≤ c0) (h : storagebarterref14_Verify.f k l0 a1 a2 a3 = some r) :
    Calls Try.prog 18 #[.slice A0 l0.length c0, .int .i64 a1, .string a2, .int .i64 a3] w fun e w' => e = .returned (.bool r) ∧ Below w.heap.size w w' := by
  have hu31 := Try.underlying31
  have HR0 := Aside0.mk hr0
  have HC0 := Aside0.mk hc0
  clear hr0 hc0
  have HB := Aside0.mk (Below.refl w.heap.size w)
  have H : ((storagebarterref14_Find.f k l0 a1).bind fun bt151 => (if bt151.2.2 = true then ((storagebarterref14_Sign.f k bt151.2.1 a2).bind fun bt155 => (if bt155.2 = 0 then (some (bt155.1 == a3)) else (some false))) else (some false))) = some r := h
  clear h
  replace H := Option.bind_eq_some_iff.mp H
  obtain ⟨⟨t151, t152, t153⟩, A50, H⟩ := H
  replace H : (if t153 = true then ((storagebarterref14_Sign.f k t152 a2).bind fun bt155 => (if bt155.2 = 0 then (some (bt155.1 == a3)) else (some false))) else (some false)) = some r := H
  have A5 := Aside0.mk A50
  clear A50
  by_cases c6 : t153 = true
  · subst c6
    have H1 : ((storagebarterref14_Sign.f k t152 a2).bind fun bt155 => (if bt155.2 = 0 then (some (bt155.1 == a3)) else (some false))) = some r := by rw [if_pos rfl] at H; exact H
    clear H
    have H := H1
    clear H1
    replace H := Option.bind_eq_some_iff.mp H
    obtain ⟨⟨t155, t156⟩, A70, H⟩ := H
    replace H : (if t156 = 0 then (some (t155 == a3)) else (some false)) = some r := H
    have A7 := Aside0.mk A70
    clear A70
    by_cases c8 : t156 = 0
    · rw [if_pos c8] at H
      have c8b0 : (t156 == 0) = true := beq_iff_eq.mpr c8
      have c8b1 : (t156 != 0) = false := bne_eq_false_iff_eq.mpr c8
      clear c8
      obtain rfl := Option.some.inj H
      go_enter Try.func18, Try.ntmps18
      go_wp2_with (first | ((with_reducible refine gate_callee (f := 15) rfl ?_); refine goesL_ (some 16) rfl rfl Try.func15 (by kernel_rfl) rfl #[.slice A0 l0.length c0, .int .i64 a1] rfl (by (try simp only [List.map_toArray, List.map_cons, List.map_nil]); first | done | rfl | (simp only [List.length_drop, List.length_take]; rfl)) ?_; (with_reducible refine (storagebarterref14_Find.calls k _ _ l0 a1 t151 t152 true _ ?side1 ?side2 A5.out).mono ?_); (case side1 => repeat (first | exact HR0.out | (with_reducible refine Kd.C_alloc ?_ _) | (with_reducible refine Kd.C_drewN ?_ _) | (with_reducible refine Kd.C_drew ?_))); (case side2 => exact HC0.out); rintro e w9 ⟨rfl, hb⟩; refine ⟨_, rfl, ?_⟩; have n0_ := Aside0.mk (below_step (by repeat (first | (with_reducible first | exact HB.out | apply below_alloc | apply pw_below_drewN | apply below_drew1) | exact HB.out)) hb); clear HB; have HB := n0_; clear n0_; (try clear hb); (try clear hb2); (try clear hk); (try clear hi)) | ((with_reducible refine gate_dst (N := 9) rfl ?_); refine box_event ?hg (N := 9) ?hd (cs := #[.int .i64 0, .int .i64 0]) (t := 31) ?hr ?_; (case hd => rfl); (case hg => rfl); (case hr => first | (go_simp; done) | (go_simp; rfl)); intro gb154 hg w10 hbox hb; have n0_ := Aside0.mk (below_step (by repeat (first | (with_reducible first | exact HB.out | apply below_alloc | apply pw_below_drewN | apply below_drew1) | exact HB.out)) hb); have n1_ := Aside0.mk (hbox); have n2_ := Aside0.mk ((by rw [hg]; exact (below_size (by repeat (first | (with_reducible first | exact HB.out | apply below_alloc | apply pw_below_drewN | apply below_drew1) | exact HB.out))) : w.heap.size ≤ gb154)); have n3_ := Aside0.mk ((by rw [hg]; exact (below_size (by repeat (first | (with_reducible first | exact HB.out | apply below_alloc | apply pw_below_drewN | apply below_drew1) | exact HB.out))) : w.heap.size ≤ gb154)); clear HB; have HB := n0_; have BK154 := n1_; have GW154 := n2_; have GE154 := n3_; clear n0_ n1_ n2_ n3_; clear hb hbox hg; have hcz11_0 : w10.cell? ⟨gb154, 0, none⟩ = some (.int .i64 0) := (blk_cell BK154.out 0).trans rfl; have hcz11_1 : w10.cell? ⟨gb154, 1, none⟩ = some (.int .i64 0) := (blk_cell BK154.out 1).trans rfl; have hfz11_0 := blk_frozen BK154.out 0; have hfz11_1 := blk_frozen BK154.out 1) | ((with_reducible refine gate_callee (f := 16) rfl ?_); refine goesL_ (some 25) rfl rfl Try.func16 (by kernel_rfl) rfl #[.int .i64 t152, .string a2] rfl (by (try simp only [List.map_toArray, List.map_cons, List.map_nil]); first | done | rfl | (simp only [List.length_drop, List.length_take]; rfl)) ?_; (with_reducible refine (storagebarterref14_Sign.calls k t152 a2 t155 t156 _ A7.out).mono ?_); rintro e w12 ⟨rfl, hb⟩; refine ⟨_, rfl, ?_⟩; have n0_ := Aside0.mk (blk_below (g := gb154) (o := .cells #[.int .i64 t151, .int .i64 t152] 31 (0, 0)) (by (with_reducible repeat (first | refine blk_drewN ?_ _ | refine blk_drew ?_ | refine blk_alloc ?_ _)); refine blk_put (cs := #[.int .i64 t151, .int .i64 0]) ?_ 1 _ rfl; (with_reducible repeat (first | refine blk_drewN ?_ _ | refine blk_drew ?_ | refine blk_alloc ?_ _)); refine blk_put (cs := #[.int .i64 0, .int .i64 0]) ?_ 0 _ rfl; (with_reducible repeat (first | refine blk_drewN ?_ _ | refine blk_drew ?_ | refine blk_alloc ?_ _)); exact BK154.out) hb); have n1_ := Aside0.mk (below_step (by repeat (first | (with_reducible first | exact HB.out | apply below_alloc | apply pw_below_drewN | apply below_drew1 | refine below_set ?_ GE154.out) | exact HB.out)) hb); clear BK154; clear HB; have BK154 := n0_; have HB := n1_; clear n0_ n1_; (try clear hb); (try clear hb2); (try clear hk); (try clear hi)))
      go_ret
      exact ⟨by first | rfl | (simp [errW_none, errW_some] <;> rfl) | (simp [*, errW_none, errW_some] <;> rfl), by repeat (first | (with_reducible first | exact HB.out | apply below_alloc | apply pw_below_drewN | apply below_drew1 | refine below_set ?_ GE154.out) | exact HB.out)⟩
    · rw [if_neg c8] at H
      have c8b0 : (t156 == 0) = false := beq_eq_false_iff_ne.mpr c8
      have c8b1 : (t156 != 0) = true := bne_iff_ne.mpr c8
      obtain rfl := Option.some.inj H
      go_enter Try.func18, Try.ntmps18
      go_wp2_with (first | ((with_reducible refine gate_callee (f := 15) rfl ?_); refine goesL_ (some 16) rfl rfl Try.func15 (by kernel_rfl) rfl #[.slice A0 l0.length c0, .int .i64 a1] rfl (by (try simp only [List.map_toArray, List.map_cons, List.map_nil]); first | done | rfl | (simp only [List.length_drop, List.length_take]; rfl)) ?_; (with_reducible refine (storagebarterref14_Find.calls k _ _ l0 a1 t151 t152 true _ ?side1 ?side2 A5.out).mono ?_); (case side1 => repeat (first | exact HR0.out | (with_reducible refine Kd.C_alloc ?_ _) | (with_reducible refine Kd.C_drewN ?_ _) | (with_reducible refine Kd.C_drew ?_))); (case side2 => exact HC0.out); rintro e w13 ⟨rfl, hb⟩; refine ⟨_, rfl, ?_⟩; have n0_ := Aside0.mk (below_step (by repeat (first | (with_reducible first | exact HB.out | apply below_alloc | apply pw_below_drewN | apply below_drew1) | exact HB.out)) hb); clear HB; have HB := n0_; clear n0_; (try clear hb); (try clear hb2); (try clear hk); (try clear hi)) | ((with_reducible refine gate_dst (N := 9) rfl ?_); refine box_event ?hg (N := 9) ?hd (cs := #[.int .i64 0, .int .i64 0]) (t := 31) ?hr ?_; (case hd => rfl); (case hg => rfl); (case hr => first | (go_simp; done) | (go_simp; rfl)); intro gb154 hg w14 hbox hb; have n0_ := Aside0.mk (below_step (by repeat (first | (with_reducible first | exact HB.out | apply below_alloc | apply pw_below_drewN | apply below_drew1) | exact HB.out)) hb); have n1_ := Aside0.mk (hbox); have n2_ := Aside0.mk ((by rw [hg]; exact (below_size (by repeat (first | (with_reducible first | exact HB.out | apply below_alloc | apply pw_below_drewN | apply below_drew1) | exact HB.out))) : w.heap.size ≤ gb154)); have n3_ := Aside0.mk ((by rw [hg]; exact (below_size (by repeat (first | (with_reducible first | exact HB.out | apply below_alloc | apply pw_below_drewN | apply below_drew1) | exact HB.out))) : w.heap.size ≤ gb154)); clear HB; have HB := n0_; have BK154 := n1_; have GW154 := n2_; have GE154 := n3_; clear n0_ n1_ n2_ n3_; clear hb hbox hg; have hcz15_0 : w14.cell? ⟨gb154, 0, none⟩ = some (.int .i64 0) := (blk_cell BK154.out 0).trans rfl; have hcz15_1 : w14.cell? ⟨gb154, 1, none⟩ = some (.int .i64 0) := (blk_cell BK154.out 1).trans rfl; have hfz15_0 := blk_frozen BK154.out 0; have hfz15_1 := blk_frozen BK154.out 1) | ((with_reducible refine gate_callee (f := 16) rfl ?_); refine goesL_ (some 25) rfl rfl Try.func16 (by kernel_rfl) rfl #[.int .i64 t152, .string a2] rfl (by (try simp only [List.map_toArray, List.map_cons, List.map_nil]); first | done | rfl | (simp only [List.length_drop, List.length_take]; rfl)) ?_; (with_reducible refine (storagebarterref14_Sign.calls k t152 a2 t155 t156 _ A7.out).mono ?_); rintro e w16 ⟨rfl, hb⟩; refine ⟨_, rfl, ?_⟩; have n0_ := Aside0.mk (blk_below (g := gb154) (o := .cells #[.int .i64 t151, .int .i64 t152] 31 (0, 0)) (by (with_reducible repeat (first | refine blk_drewN ?_ _ | refine blk_drew ?_ | refine blk_alloc ?_ _)); refine blk_put (cs := #[.int .i64 t151, .int .i64 0]) ?_ 1 _ rfl; (with_reducible repeat (first | refine blk_drewN ?_ _ | refine blk_drew ?_ | refine blk_alloc ?_ _)); refine blk_put (cs := #[.int .i64 0, .int .i64 0]) ?_ 0 _ rfl; (with_reducible repeat (first | refine blk_drewN ?_ _ | refine blk_drew ?_ | refine blk_alloc ?_ _)); exact BK154.out) hb); have n1_ := Aside0.mk (below_step (by repeat (first | (with_reducible first | exact HB.out | apply below_alloc | apply pw_below_drewN | apply below_drew1 | refine below_set ?_ GE154.out) | exact HB.out)) hb); clear BK154; clear HB; have BK154 := n0_; have HB := n1_; clear n0_ n1_; (try clear hb); (try clear hb2); (try clear hk); (try clear hi)))
      go_ret
      exact ⟨by first | rfl | (simp [errW_none, errW_some] <;> rfl) | (simp [*, errW_none, errW_some] <;> rfl), by repeat (first | (with_reducible first | exact HB.out | apply below_alloc | apply pw_below_drewN | apply below_drew1 | refine below_set ?_ GE154.out) | exact HB.out)⟩
  · replace c6 := Bool.eq_false_iff.mpr c6
    subst c6
    have H1 : (some false) = some r := by rw [if_neg (show ¬ (false = true) by decide)] at H; exact H
    clear H
    have H := H1
    clear H1
    obtain rfl := Option.some.inj H
    go_enter Try.func18, Try.ntmps18
    go_wp2_with (first | ((with_reducible refine gate_callee (f := 15) rfl ?_); refine goesL_ (some 16) rfl rfl Try.func15 (by kernel_rfl) rfl #[.slice A0 l0.length c0, .int .i64 a1] rfl (by (try simp only [List.map_toArray, List.map_cons, List.map_nil]); first | done | rfl | (simp only [List.length_drop, List.length_take]; rfl)) ?_; (with_reducible refine (storagebarterref14_Find.calls k _ _ l0 a1 t151 t152 false _ ?side1 ?side2 A5.out).mono ?_); (case side1 => repeat (first | exact HR0.out | (with_reducible refine Kd.C_alloc ?_ _) | (with_reducible refine Kd.C_drewN ?_ _) | (with_reducible refine Kd.C_drew ?_))); (case side2 => exact HC0.out); rintro e w17 ⟨rfl, hb⟩; refine ⟨_, rfl, ?_⟩; have n0_ := Aside0.mk (below_step (by repeat (first | (with_reducible first | exact HB.out | apply below_alloc | apply pw_below_drewN | apply below_drew1) | exact HB.out)) hb); clear HB; have HB := n0_; clear n0_; (try clear hb); (try clear hb2); (try clear hk); (try clear hi)) | ((with_reducible refine gate_dst (N := 9) rfl ?_); refine box_event ?hg (N := 9) ?hd (cs := #[.int .i64 0, .int .i64 0]) (t := 31) ?hr ?_; (case hd => rfl); (case hg => rfl); (case hr => first | (go_simp; done) | (go_simp; rfl)); intro gb154 hg w18 hbox hb; have n0_ := Aside0.mk (below_step (by repeat (first | (with_reducible first | exact HB.out | apply below_alloc | apply pw_below_drewN | apply below_drew1) | exact HB.out)) hb); have n1_ := Aside0.mk (hbox); have n2_ := Aside0.mk ((by rw [hg]; exact (below_size (by repeat (first | (with_reducible first | exact HB.out | apply below_alloc | apply pw_below_drewN | apply below_drew1) | exact HB.out))) : w.heap.size ≤ gb154)); have n3_ := Aside0.mk ((by rw [hg]; exact (below_size (by repeat (first | (with_reducible first | exact HB.out | apply below_alloc | apply pw_below_drewN | apply below_drew1) | exact HB.out))) : w.heap.size ≤ gb154)); clear HB; have HB := n0_; have BK154 := n1_; have GW154 := n2_; have GE154 := n3_; clear n0_ n1_ n2_ n3_; clear hb hbox hg; have hcz19_0 : w18.cell? ⟨gb154, 0, none⟩ = some (.int .i64 0) := (blk_cell BK154.out 0).trans rfl; have hcz19_1 : w18.cell? ⟨gb154, 1, none⟩ = some (.int .i64 0) := (blk_cell BK154.out 1).trans rfl; have hfz19_0 := blk_frozen BK154.out 0; have hfz19_1 := blk_frozen BK154.out 1))
    go_ret
    exact ⟨by first | rfl | (simp [errW_none, errW_some] <;> rfl) | (simp [*, errW_none, errW_some] <;> rfl), by repeat (first | (with_reducible first | exact HB.out | apply below_alloc | apply pw_below_drewN | apply below_drew1 | refine below_set ?_ GE154.out) | exact HB.out)⟩

end Go.Proofs.Ytcalkhlchjjalaa.Q

namespace Go.Proofs.Ytcalkhlchjjalaa.Q
open Go.RowKit Go.Proofs.YtcalkhlchjjalaaW.PrintWords Go.Proofs.YtcalkhlchjjalaaW.PrintLast Go.Proofs.YtcalkhlchjjalaaW.PrintMore Go.Proofs.Ytcalkhlchjjalaa.Gput
attribute [local go_sem] max2_int min2_int max_two min_two max_three min_three max_four min_four   -- for this text's walks alone
set_option linter.unusedVariables false
set_option linter.unusedSimpArgs false

attribute [local go_sem high] eqA31
/-! ### storagebarterlaw14_MarkDoes: function 3 -/
mutual
def storagebarterlaw14_MarkDoes.j0 : Nat → List Int → List (S31) → Int → Int → Int → ByteArray → Bool → Option (Bool)
  | 0, _, _, _, _, _, _, _ => none
  | k + 1, x0, x1, x2, x3, x4, x5, x47 => if x47 = true then (some true) else ((storagebartermake_New.f x0).bind fun bt159 => ((storagebartermake_Deck_Next.f bt159.1 bt159.2 5).bind fun bt162 => ((storagebartermake_People.f k bt159.1 bt162.2 (wrap64 (1 + bt162.1))).bind fun bt164 => (if ([] : List (S31)).length + bt164.1.length < 8796093022208 then ((some (([] : List (S31)) ++ bt164.1 : List (S31))).bind fun y168 => ((storagebartermake_Deck_Next.f bt159.1 bt164.2 (y168.length : Int)).bind fun bt171 => (if 0 ≤ bt171.1 then (if bt171.1 < (y168.length : Int) then ((some (([] : List (S31)) ++ bt164.1 : List (S31))).bind fun y174 => ((storagebartermake_Deck_Next.f bt159.1 bt171.2 (y174.length : Int)).bind fun bt177 => (if 0 < (y174.length : Int) then (if 0 ≤ bt177.1 then (if bt177.1 < (y174.length : Int) then ((some (([x1, bt164.1, (y168.set (bt171.1 : Int).toNat (⟨(rd_T31 y168 bt171.1).f0, x3⟩ : S31)), (y174.set (bt177.1 : Int).toNat (⟨(rd_T31 y174 bt177.1).f0, (rd_T31 y174 0).f1⟩ : S31))] : List (List (S31))) : List (List (S31)))).bind fun y181 => (storagebarterlaw14_MarkDoes.l0 k x2 x3 x4 x5 y181 (y181.length : Int) 0)) else (none)) else (none)) else (none)))) else (none)) else (none)))) else (none)))))
def storagebarterlaw14_MarkDoes.l0 : Nat → Int → Int → Int → ByteArray → List (List (S31)) → Int → Int → Option (Bool)
  | 0, _, _, _, _, _, _, _ => none
  | k + 1, x2, x3, x4, x5, x82, x83, x84 => if x84 < x83 then (if 0 ≤ x84 then (if x84 < (x82.length : Int) then ((mark_Check.f (rd_L3 x82 x84)).bind fun t183 => ((storagebarterref14_Check.f k (rd_L3 x82 x84)).bind fun t184 => (if t183 = t184 then ((storagebartermake_Mod.f x2 6).bind fun t185 => ((some (([x2, t185] : List Int) : List Int)).bind fun y186 => (storagebarterlaw14_MarkDoes.l1 k x2 x3 x4 x5 (rd_L3 x82 x84) x82 x83 x84 y186 (y186.length : Int) 0))) else (some false)))) else (none)) else (none)) else ((storagebartermake_Mod.f x3 99).bind fun t204 => ((some (([x3, wrap64 (1 + t204)] : List Int) : List Int)).bind fun y205 => (storagebarterlaw14_MarkDoes.l2 k x5 y205 (y205.length : Int) 0)))
def storagebarterlaw14_MarkDoes.l1 : Nat → Int → Int → Int → ByteArray → List (S31) → List (List (S31)) → Int → Int → List Int → Int → Int → Option (Bool)
  | 0, _, _, _, _, _, _, _, _, _, _, _ => none
  | k + 1, x2, x3, x4, x5, x18, x82, x83, x84, x96, x97, x98 => if x98 < x97 then (if 0 ≤ x98 then (if x98 < (x96.length : Int) then ((mark_Find.f x18 (rd x96 x98)).bind fun bt190 => ((storagebarterref14_Find.f k x18 (rd x96 x98)).bind fun bt194 => ((storagebarterref14_Sign.f k bt194.2.1 x5).bind fun bt198 => (if (!(bt190.1 == bt194.1) || (!(bt190.2.1 == bt194.2.1))) = true then (some false) else (if (bt190.2.2 != bt194.2.2) = true then (some false) else ((mark_Verify.f k x18 (rd x96 x98) x5 x4).bind fun t200 => ((storagebarterref14_Verify.f k x18 (rd x96 x98) x5 x4).bind fun t201 => (if (t200 != t201) = true then (some false) else ((mark_Verify.f k x18 (rd x96 x98) x5 bt198.1).bind fun t202 => ((storagebarterref14_Verify.f k x18 (rd x96 x98) x5 bt198.1).bind fun t203 => (if (t202 != t203) = true then (some false) else (storagebarterlaw14_MarkDoes.l1 k x2 x3 x4 x5 x18 x82 x83 x84 x96 x97 (wrap64 (x98 + 1)))))))))))))) else (none)) else (none)) else (storagebarterlaw14_MarkDoes.l0 k x2 x3 x4 x5 x82 x83 (wrap64 (x84 + 1)))
def storagebarterlaw14_MarkDoes.l2 : Nat → ByteArray → List Int → Int → Int → Option (Bool)
  | 0, _, _, _, _ => none
  | k + 1, x5, x161, x162, x163 => if x163 < x162 then (if 0 ≤ x163 then (if x163 < (x161.length : Int) then ((mark_Sign.f k (rd x161 x163) x5).bind fun bt209 => ((storagebarterref14_Sign.f k (rd x161 x163) x5).bind fun bt211 => (if bt209.1 = bt211.1 then (if bt209.2 = bt211.2 then (storagebarterlaw14_MarkDoes.l2 k x5 x161 x162 (wrap64 (x163 + 1))) else (some false)) else (some false)))) else (none)) else (none)) else (some true)
end
def storagebarterlaw14_MarkDoes.f (k : Nat) (l0 : List Int) (l1 : List (S31)) (a2 : Int) (a3 : Int) (a4 : Int) (a5 : ByteArray) : Option (Bool) := (storagebarterlaw14_sane.f k).bind fun t157 => (if t157 = true then ((storagebartermake_Few.f l0).bind fun t158 => (if t158 = true then (if (l1.length : Int) > 100 then (storagebarterlaw14_MarkDoes.j0 k l0 l1 a2 a3 a4 a5 true) else (storagebarterlaw14_MarkDoes.j0 k l0 l1 a2 a3 a4 a5 (decide ((a5.size : Int) > 3000)))) else (storagebarterlaw14_MarkDoes.j0 k l0 l1 a2 a3 a4 a5 true))) else (some false))
theorem storagebarterlaw14_MarkDoes.mono_l : ∀ k, (∀ y0 y1 y2 y3 y4 y5 y6, LeO (storagebarterlaw14_MarkDoes.j0 k y0 y1 y2 y3 y4 y5 y6) (storagebarterlaw14_MarkDoes.j0 (k + 1) y0 y1 y2 y3 y4 y5 y6)) ∧ (∀ y0 y1 y2 y3 y4 y5 y6, LeO (storagebarterlaw14_MarkDoes.l0 k y0 y1 y2 y3 y4 y5 y6) (storagebarterlaw14_MarkDoes.l0 (k + 1) y0 y1 y2 y3 y4 y5 y6)) ∧ (∀ y0 y1 y2 y3 y4 y5 y6 y7 y8 y9 y10, LeO (storagebarterlaw14_MarkDoes.l1 k y0 y1 y2 y3 y4 y5 y6 y7 y8 y9 y10) (storagebarterlaw14_MarkDoes.l1 (k + 1) y0 y1 y2 y3 y4 y5 y6 y7 y8 y9 y10)) ∧ (∀ y0 y1 y2 y3, LeO (storagebarterlaw14_MarkDoes.l2 k y0 y1 y2 y3) (storagebarterlaw14_MarkDoes.l2 (k + 1) y0 y1 y2 y3))
  | 0 => ⟨fun _ _ _ _ _ _ _ r h => by simp [storagebarterlaw14_MarkDoes.j0] at h, fun _ _ _ _ _ _ _ r h => by simp [storagebarterlaw14_MarkDoes.l0] at h, fun _ _ _ _ _ _ _ _ _ _ _ r h => by simp [storagebarterlaw14_MarkDoes.l1] at h, fun _ _ _ _ r h => by simp [storagebarterlaw14_MarkDoes.l2] at h⟩
  | k + 1 => by
    obtain ⟨ih0, ih1, ih2, ih3⟩ := storagebarterlaw14_MarkDoes.mono_l k
    refine ⟨?_, ?_, ?_, ?_⟩
    · intro y0 y1 y2 y3 y4 y5 y6
      unfold storagebarterlaw14_MarkDoes.j0
      repeat' first
      | (with_reducible exact ih0 _ _ _ _ _ _ _)
      | (with_reducible exact ih1 _ _ _ _ _ _ _)
      | (with_reducible exact ih2 _ _ _ _ _ _ _ _ _ _ _)
      | (with_reducible exact ih3 _ _ _ _)
      | (with_reducible exact mark_Sign.mono _ _ _)
      | (with_reducible exact mark_Verify.mono _ _ _ _ _)
      | (with_reducible exact storagebarterlaw14_sane.mono _)
      | (with_reducible exact storagebartermake_People.mono _ _ _ _)
      | (with_reducible exact storagebarterref14_Check.mono _ _)
      | (with_reducible exact storagebarterref14_Find.mono _ _ _)
      | (with_reducible exact storagebarterref14_Sign.mono _ _ _)
      | (with_reducible exact storagebarterref14_Verify.mono _ _ _ _ _)
      | (with_reducible exact LeO.refl _)
      | (with_reducible exact LeO.none _)
      | (with_reducible refine LeO.ite ?_ ?_)
      | (with_reducible refine LeO.bind ?_ (fun _ => ?_))
      | exact ih0 _ _ _ _ _ _ _
      | exact ih1 _ _ _ _ _ _ _
      | exact ih2 _ _ _ _ _ _ _ _ _ _ _
      | exact ih3 _ _ _ _
      | exact mark_Sign.mono _ _ _
      | exact mark_Verify.mono _ _ _ _ _
      | exact storagebarterlaw14_sane.mono _
      | exact storagebartermake_People.mono _ _ _ _
      | exact storagebarterref14_Check.mono _ _
      | exact storagebarterref14_Find.mono _ _ _
      | exact storagebarterref14_Sign.mono _ _ _
      | exact storagebarterref14_Verify.mono _ _ _ _ _
      | exact LeO.none _
      | refine LeO.ite ?_ ?_
      | refine LeO.bind ?_ (fun _ => ?_)
    · intro y0 y1 y2 y3 y4 y5 y6
      unfold storagebarterlaw14_MarkDoes.l0
      repeat' first
      | (with_reducible exact ih0 _ _ _ _ _ _ _)
      | (with_reducible exact ih1 _ _ _ _ _ _ _)
      | (with_reducible exact ih2 _ _ _ _ _ _ _ _ _ _ _)
      | (with_reducible exact ih3 _ _ _ _)
      | (with_reducible exact mark_Sign.mono _ _ _)
      | (with_reducible exact mark_Verify.mono _ _ _ _ _)
      | (with_reducible exact storagebarterlaw14_sane.mono _)
      | (with_reducible exact storagebartermake_People.mono _ _ _ _)
      | (with_reducible exact storagebarterref14_Check.mono _ _)
      | (with_reducible exact storagebarterref14_Find.mono _ _ _)
      | (with_reducible exact storagebarterref14_Sign.mono _ _ _)
      | (with_reducible exact storagebarterref14_Verify.mono _ _ _ _ _)
      | (with_reducible exact LeO.refl _)
      | (with_reducible exact LeO.none _)
      | (with_reducible refine LeO.ite ?_ ?_)
      | (with_reducible refine LeO.bind ?_ (fun _ => ?_))
      | exact ih0 _ _ _ _ _ _ _
      | exact ih1 _ _ _ _ _ _ _
      | exact ih2 _ _ _ _ _ _ _ _ _ _ _
      | exact ih3 _ _ _ _
      | exact mark_Sign.mono _ _ _
      | exact mark_Verify.mono _ _ _ _ _
      | exact storagebarterlaw14_sane.mono _
      | exact storagebartermake_People.mono _ _ _ _
      | exact storagebarterref14_Check.mono _ _
      | exact storagebarterref14_Find.mono _ _ _
      | exact storagebarterref14_Sign.mono _ _ _
      | exact storagebarterref14_Verify.mono _ _ _ _ _
      | exact LeO.none _
      | refine LeO.ite ?_ ?_
      | refine LeO.bind ?_ (fun _ => ?_)
    · intro y0 y1 y2 y3 y4 y5 y6 y7 y8 y9 y10
      unfold storagebarterlaw14_MarkDoes.l1
      repeat' first
      | (with_reducible exact ih0 _ _ _ _ _ _ _)
      | (with_reducible exact ih1 _ _ _ _ _ _ _)
      | (with_reducible exact ih2 _ _ _ _ _ _ _ _ _ _ _)
      | (with_reducible exact ih3 _ _ _ _)
      | (with_reducible exact mark_Sign.mono _ _ _)
      | (with_reducible exact mark_Verify.mono _ _ _ _ _)
      | (with_reducible exact storagebarterlaw14_sane.mono _)
      | (with_reducible exact storagebartermake_People.mono _ _ _ _)
      | (with_reducible exact storagebarterref14_Check.mono _ _)
      | (with_reducible exact storagebarterref14_Find.mono _ _ _)
      | (with_reducible exact storagebarterref14_Sign.mono _ _ _)
      | (with_reducible exact storagebarterref14_Verify.mono _ _ _ _ _)
      | (with_reducible exact LeO.refl _)
      | (with_reducible exact LeO.none _)
      | (with_reducible refine LeO.ite ?_ ?_)
      | (with_reducible refine LeO.bind ?_ (fun _ => ?_))
      | exact ih0 _ _ _ _ _ _ _
      | exact ih1 _ _ _ _ _ _ _
      | exact ih2 _ _ _ _ _ _ _ _ _ _ _
      | exact ih3 _ _ _ _
      | exact mark_Sign.mono _ _ _
      | exact mark_Verify.mono _ _ _ _ _
      | exact storagebarterlaw14_sane.mono _
      | exact storagebartermake_People.mono _ _ _ _
      | exact storagebarterref14_Check.mono _ _
      | exact storagebarterref14_Find.mono _ _ _
      | exact storagebarterref14_Sign.mono _ _ _
      | exact storagebarterref14_Verify.mono _ _ _ _ _
      | exact LeO.none _
      | refine LeO.ite ?_ ?_
      | refine LeO.bind ?_ (fun _ => ?_)
    · intro y0 y1 y2 y3
      unfold storagebarterlaw14_MarkDoes.l2
      repeat' first
      | (with_reducible exact ih0 _ _ _ _ _ _ _)
      | (with_reducible exact ih1 _ _ _ _ _ _ _)
      | (with_reducible exact ih2 _ _ _ _ _ _ _ _ _ _ _)
      | (with_reducible exact ih3 _ _ _ _)
      | (with_reducible exact mark_Sign.mono _ _ _)
      | (with_reducible exact mark_Verify.mono _ _ _ _ _)
      | (with_reducible exact storagebarterlaw14_sane.mono _)
      | (with_reducible exact storagebartermake_People.mono _ _ _ _)
      | (with_reducible exact storagebarterref14_Check.mono _ _)
      | (with_reducible exact storagebarterref14_Find.mono _ _ _)
      | (with_reducible exact storagebarterref14_Sign.mono _ _ _)
      | (with_reducible exact storagebarterref14_Verify.mono _ _ _ _ _)
      | (with_reducible exact LeO.refl _)
      | (with_reducible exact LeO.none _)
      | (with_reducible refine LeO.ite ?_ ?_)
      | (with_reducible refine LeO.bind ?_ (fun _ => ?_))
      | exact ih0 _ _ _ _ _ _ _
      | exact ih1 _ _ _ _ _ _ _
      | exact ih2 _ _ _ _ _ _ _ _ _ _ _
      | exact ih3 _ _ _ _
      | exact mark_Sign.mono _ _ _
      | exact mark_Verify.mono _ _ _ _ _
      | exact storagebarterlaw14_sane.mono _
      | exact storagebartermake_People.mono _ _ _ _
      | exact storagebarterref14_Check.mono _ _
      | exact storagebarterref14_Find.mono _ _ _
      | exact storagebarterref14_Sign.mono _ _ _
      | exact storagebarterref14_Verify.mono _ _ _ _ _
      | exact LeO.none _
      | refine LeO.ite ?_ ?_
      | refine LeO.bind ?_ (fun _ => ?_)
theorem storagebarterlaw14_MarkDoes.mono : ∀ a0 a1 a2 a3 a4 a5 k, LeO (storagebarterlaw14_MarkDoes.f k a0 a1 a2 a3 a4 a5) (storagebarterlaw14_MarkDoes.f (k + 1) a0 a1 a2 a3 a4 a5) := by
  intro a0 a1 a2 a3 a4 a5 k
  obtain ⟨ih0, ih1, ih2, ih3⟩ := storagebarterlaw14_MarkDoes.mono_l k
  unfold storagebarterlaw14_MarkDoes.f
  repeat' first
      | (with_reducible exact ih0 _ _ _ _ _ _ _)
      | (with_reducible exact ih1 _ _ _ _ _ _ _)
      | (with_reducible exact ih2 _ _ _ _ _ _ _ _ _ _ _)
      | (with_reducible exact ih3 _ _ _ _)
      | (with_reducible exact mark_Sign.mono _ _ _)
      | (with_reducible exact mark_Verify.mono _ _ _ _ _)
      | (with_reducible exact storagebarterlaw14_sane.mono _)
      | (with_reducible exact storagebartermake_People.mono _ _ _ _)
      | (with_reducible exact storagebarterref14_Check.mono _ _)
      | (with_reducible exact storagebarterref14_Find.mono _ _ _)
      | (with_reducible exact storagebarterref14_Sign.mono _ _ _)
      | (with_reducible exact storagebarterref14_Verify.mono _ _ _ _ _)
      | (with_reducible exact LeO.refl _)
      | (with_reducible exact LeO.none _)
      | (with_reducible refine LeO.ite ?_ ?_)
      | (with_reducible refine LeO.bind ?_ (fun _ => ?_))
      | exact ih0 _ _ _ _ _ _ _
      | exact ih1 _ _ _ _ _ _ _
      | exact ih2 _ _ _ _ _ _ _ _ _ _ _
      | exact ih3 _ _ _ _
      | exact mark_Sign.mono _ _ _
      | exact mark_Verify.mono _ _ _ _ _
      | exact storagebarterlaw14_sane.mono _
      | exact storagebartermake_People.mono _ _ _ _
      | exact storagebarterref14_Check.mono _ _
      | exact storagebarterref14_Find.mono _ _ _
      | exact storagebarterref14_Sign.mono _ _ _
      | exact storagebarterref14_Verify.mono _ _ _ _ _
      | exact LeO.none _
      | refine LeO.ite ?_ ?_
      | refine LeO.bind ?_ (fun _ => ?_)
def storagebarterlaw14_MarkDoes.T10 : Bool × List (List Nat × List Nat) := (true, [([], []), ([], []), ([], []), ([2], [2]), ([1, 3], [1, 3]), ([], []), ([5], [5]), ([6], [6]), ([7], [7]), ([0, 4, 0, 1, 2, 3, 4, 5, 6, 7, 8], [0, 4]), ([9, 0, 1, 2, 3, 4, 5, 6, 7, 8], [9]), ([10, 8, 4, 0, 1, 2, 3, 4, 5, 6, 7, 8], [8, 10])])
def storagebarterlaw14_MarkDoes.B10 : List Nat := [0, 0, 0, 4, 14, 0, 32, 96, 224, 511, 1023, 2047]
theorem storagebarterlaw14_MarkDoes.tab10 : rtab .any (opsOf Try.f3 10) = storagebarterlaw14_MarkDoes.T10 := by kernel_rfl
theorem storagebarterlaw14_MarkDoes.bits10 : waitsOk storagebarterlaw14_MarkDoes.T10.2 storagebarterlaw14_MarkDoes.B10 = true := by kernel_rfl
set_option maxHeartbeats 8000000 in
set_option maxRecDepth 100000 in
theorem storagebarterlaw14_MarkDoes.calls (k : Nat) (A0 : Option Addr) (c0 : Nat) (l0 : List Int) (A1 : Option Addr) (c1 : Nat) (l1 : List (S31)) (a2 : Int) (a3 : Int) (a4 : Int) (a5 : ByteArray) (r : Bool) (w : World) (hr0 : Kd.C (Kd.int .i64) w A0 l0.length l0) (hc0 : l0.length ≤ c0) (hr1 : Kd.C k31 w A1 l1.length l1) (hc1 : l1.length ≤ c1) (h : storagebarterlaw14_MarkDoes.f k l0 l1 a2 a3 a4 a5 = some r) (hrt : r = true) :
    Calls Try.prog 3 #[.slice A0 l0.length c0, .slice A1 l1.length c1, .int .i64 a2, .int .i64 a3, .int .i64 a4, .string a5] w fun e w' => e = .returned (.bool r) ∧ Below w.heap.size w w' := by
  have hu31 := Try.underlying31
  have HR0 := Aside0.mk hr0
  have HC0 := Aside0.mk hc0
  clear hr0 hc0
  have HR1 := Aside0.mk hr1
  have HC1 := Aside0.mk hc1
  clear hr1 hc1
  have HB := Aside0.mk (Below.refl w.heap.size w)
  have H : ((storagebarterlaw14_sane.f k).bind fun t157 => (if t157 = true then ((storagebartermake_Few.f l0).bind fun t158 => (if t158 = true then (if (l1.length : Int) > 100 then (storagebarterlaw14_MarkDoes.j0 k l0 l1 a2 a3 a4 a5 true) else (storagebarterlaw14_MarkDoes.j0 k l0 l1 a2 a3 a4 a5 (decide ((a5.size : Int) > 3000)))) else (storagebarterlaw14_MarkDoes.j0 k l0 l1 a2 a3 a4 a5 true))) else (some false))) = some r := h
  clear h
  have RT_ := Aside0.mk hrt
  clear hrt
  replace H := Option.bind_eq_some_iff.mp H
  obtain ⟨t157, A70, H⟩ := H
  try dsimp only at H
  have A7 := Aside0.mk A70
  clear A70
  by_cases c8 : t157 = true
  · subst c8
    rw [if_pos rfl] at H
    have HC9 := Aside0.mk H
    clear H
    go_enter Try.func3, Try.ntmps3
    go_upto_region 3 with (first | ((with_reducible refine gate_callee (f := 6) rfl ?_); refine goesL_ (some 33) rfl rfl Try.func6 (by kernel_rfl) rfl #[] rfl (by (try simp only [List.map_toArray, List.map_cons, List.map_nil]); first | done | rfl | (simp only [List.length_drop, List.length_take]; rfl)) ?_; (with_reducible refine (storagebarterlaw14_sane.calls k  true _ A7.out).mono ?_); rintro e w10 ⟨rfl, hb⟩; refine ⟨_, rfl, ?_⟩; have n0_ := Aside0.mk (below_step (by repeat (first | (with_reducible first | exact HB.out | apply below_alloc | apply pw_below_drewN | apply below_drew1) | exact HB.out)) hb); clear HB; have HB := n0_; clear n0_; (try clear hb); (try clear hb2); (try clear hk); (try clear hi)))
    (try simp only [Act.put, List.setIfInBounds_toArray, List.set_cons_zero, List.set_cons_succ])
    go_cut [47] (fun v47 wc => ∃ (kq : Nat) (x47_8 : Bool), v47 = .bool x47_8 ∧ Aside0 (storagebarterlaw14_MarkDoes.j0 kq l0 l1 a2 a3 a4 a5 x47_8 = some r) ∧ Aside0 (kq ≤ k) ∧ Aside0 (Below w.heap.size w wc))
    case first =>
      have H := HC9.out
      clear HC9
      replace H := Option.bind_eq_some_iff.mp H
      obtain ⟨t158, A110, H⟩ := H
      try dsimp only at H
      have A11 := Aside0.mk A110
      clear A110
      by_cases c12 : t158 = true
      focus
        subst c12
        rw [if_pos rfl] at H
        by_cases c13 : (l1.length : Int) > 100
        focus
          rw [if_pos c13] at H
          have c13b0 : decide (100 < (l1.length : Int)) = true := decide_eq_true c13
          have c13b1 : decide (100 < l1.length) = true := decide_eq_true (by omega)
          clear c13
          (first | rw [c13b0] | (simp only [i64_w, i32_w]; rw [c13b0]) | skip)
          have H' := Aside0.mk H
          clear H
        rotate_left 1
        focus
          rw [if_neg c13] at H
          have c13b0 : decide (100 < (l1.length : Int)) = false := decide_eq_false c13
          have c13b1 : decide (100 < l1.length) = false := decide_eq_false (by omega)
          clear c13
          (first | rw [c13b0] | (simp only [i64_w, i32_w]; rw [c13b0]) | skip)
          have H' := Aside0.mk H
          clear H
        rotate_left 1
      rotate_left 2
      focus
        replace c12 := Bool.eq_false_iff.mpr c12
        subst c12
        rw [if_neg (show ¬ (false = true) by decide)] at H
        have H' := Aside0.mk H
        clear H
      rotate_left 1
      all_goals (go_wp2_with (first | ((with_reducible refine gate_callee (f := 7) rfl ?_); refine goesL_ (some 36) rfl rfl Try.func7 (by kernel_rfl) rfl #[.slice A0 l0.length c0] rfl (by (try simp only [List.map_toArray, List.map_cons, List.map_nil]); first | done | rfl | (simp only [List.length_drop, List.length_take]; rfl)) ?_; (with_reducible refine (storagebartermake_Few.calls _ _ l0 true _ ?side1 ?side2 A11.out).mono ?_); (case side1 => repeat (first | exact (Kd.C_below HR0.out HB.out) | (with_reducible refine Kd.C_alloc ?_ _) | (with_reducible refine Kd.C_drewN ?_ _) | (with_reducible refine Kd.C_drew ?_))); (case side2 => exact HC0.out); rintro e w' ⟨rfl, ⟨nd, rfl⟩⟩; refine ⟨_, rfl, ?_⟩; (try (rw [drewN_self wz0]; generalize hq_ : World.drewN wz0 _ = wz0; have n0_ : Aside0 (Below w.heap.size w wz0) := ⟨by rw [← hq_]; exact (by repeat (first | (with_reducible first | exact HB.out | apply below_alloc | apply pw_below_drewN | apply below_drew1) | exact HB.out))⟩; clear HB hq_; have HB := n0_; clear n0_))) | ((with_reducible refine gate_callee (f := 7) rfl ?_); refine goesL_ (some 36) rfl rfl Try.func7 (by kernel_rfl) rfl #[.slice A0 l0.length c0] rfl (by (try simp only [List.map_toArray, List.map_cons, List.map_nil]); first | done | rfl | (simp only [List.length_drop, List.length_take]; rfl)) ?_; (with_reducible refine (storagebartermake_Few.calls _ _ l0 false _ ?side1 ?side2 A11.out).mono ?_); (case side1 => repeat (first | exact (Kd.C_below HR0.out HB.out) | (with_reducible refine Kd.C_alloc ?_ _) | (with_reducible refine Kd.C_drewN ?_ _) | (with_reducible refine Kd.C_drew ?_))); (case side2 => exact HC0.out); rintro e w' ⟨rfl, ⟨nd, rfl⟩⟩; refine ⟨_, rfl, ?_⟩; (try (rw [drewN_self wz0]; generalize hq_ : World.drewN wz0 _ = wz0; have n0_ : Aside0 (Below w.heap.size w wz0) := ⟨by rw [← hq_]; exact (by repeat (first | (with_reducible first | exact HB.out | apply below_alloc | apply pw_below_drewN | apply below_drew1) | exact HB.out))⟩; clear HB hq_; have HB := n0_; clear n0_)))))
      · go_meet
        case rel => exact ⟨_, (true), (by first | rfl | (simp; done) | (simp [*]; done)), H', ⟨by first | omega | exact Nat.le_refl _⟩, ⟨by repeat (first | (with_reducible first | exact HB.out | apply below_alloc | apply pw_below_drewN | apply below_drew1) | exact HB.out)⟩⟩
      · go_meet
        case rel => exact ⟨_, (decide ((a5.size : Int) > 3000)), (by first | rfl | (simp; done) | (simp [*]; done)), H', ⟨by first | omega | exact Nat.le_refl _⟩, ⟨by repeat (first | (with_reducible first | exact HB.out | apply below_alloc | apply pw_below_drewN | apply below_drew1) | exact HB.out)⟩⟩
      · go_meet
        case rel => exact ⟨_, (true), (by first | rfl | (simp; done) | (simp [*]; done)), H', ⟨by first | omega | exact Nat.le_refl _⟩, ⟨by repeat (first | (with_reducible first | exact HB.out | apply below_alloc | apply pw_below_drewN | apply below_drew1) | exact HB.out)⟩⟩
    case rest =>
      clear HC9
      try clear c1
      try clear p2
      try clear c3
      try clear c6
      try clear c7
      try clear c8
      try clear c12
      try clear c13
      try clear c13b0
      try clear c13b1
      obtain ⟨kq, x47_8, rfl, HA, HJ8, HB⟩ := hcut
      cases kq with
      | zero => exact absurd HA.out (by simp [storagebarterlaw14_MarkDoes.j0])
      | succ kj8 =>
        have H := HA.out
        clear HA
        simp only [storagebarterlaw14_MarkDoes.j0] at H
        by_cases c14 : x47_8 = true
        · subst c14
          rw [if_pos rfl] at H
          obtain rfl := Option.some.inj H
          go_wp2
          go_ret
          exact ⟨by first | rfl | (simp [errW_none, errW_some] <;> rfl) | (simp [*, errW_none, errW_some] <;> rfl), by repeat (first | (with_reducible first | exact HB.out | apply below_alloc | apply pw_below_drewN | apply below_drew1) | exact HB.out)⟩
        · replace c14 := Bool.eq_false_iff.mpr c14
          subst c14
          rw [if_neg (show ¬ (false = true) by decide)] at H
          replace H := Option.bind_eq_some_iff.mp H
          obtain ⟨⟨t159, t160⟩, A150, H⟩ := H
          try dsimp only at H
          have A15 := Aside0.mk A150
          clear A150
          replace H := Option.bind_eq_some_iff.mp H
          obtain ⟨⟨t162, t163⟩, A160, H⟩ := H
          try dsimp only at H
          have A16 := Aside0.mk A160
          clear A160
          replace H := Option.bind_eq_some_iff.mp H
          obtain ⟨⟨t164, t167⟩, A170, H⟩ := H
          try dsimp only at H
          have A17 := Aside0.mk A170
          clear A170
          by_cases c18 : ([] : List (S31)).length + t164.length < 8796093022208
          · rw [if_pos c18] at H
            have LMc18 := Aside0.mk c18
            clear c18
            obtain ⟨y168, hy168⟩ : ∃ y_ : List (S31), y_ = (([] : List (S31)) ++ t164) := ⟨_, rfl⟩
            replace H : ((storagebartermake_Deck_Next.f t159 t167 (y168.length : Int)).bind fun bt171 => (if 0 ≤ bt171.1 then (if bt171.1 < (y168.length : Int) then ((some (([] : List (S31)) ++ t164 : List (S31))).bind fun y174 => ((storagebartermake_Deck_Next.f t159 bt171.2 (y174.length : Int)).bind fun bt177 => (if 0 < (y174.length : Int) then (if 0 ≤ bt177.1 then (if bt177.1 < (y174.length : Int) then ((some (([l1, t164, (y168.set (bt171.1 : Int).toNat (⟨(rd_T31 y168 bt171.1).f0, a3⟩ : S31)), (y174.set (bt177.1 : Int).toNat (⟨(rd_T31 y174 bt177.1).f0, (rd_T31 y174 0).f1⟩ : S31))] : List (List (S31))) : List (List (S31)))).bind fun y181 => (storagebarterlaw14_MarkDoes.l0 kj8 a2 a3 a4 a5 y181 (y181.length : Int) 0)) else (none)) else (none)) else (none)))) else (none)) else (none))) = some r := by first | (rw [hy168]; with_reducible exact H) | (have H2_ := (Option.bind_some _ _).symm.trans H; rw [hy168]; with_reducible exact H2_) | (have H2_ := (Option.bind_some _ _).symm.trans H; with_reducible exact H2_) | with_reducible exact H | (rw [hy168]; exact H) | exact H
            have Ny168 := Aside0.mk hy168
            clear hy168
            replace H := Option.bind_eq_some_iff.mp H
            obtain ⟨⟨t171, t172⟩, A190, H⟩ := H
            try dsimp only at H
            have A19 := Aside0.mk A190
            clear A190
            by_cases c20 : 0 ≤ t171
            · rw [if_pos c20] at H
              have c20b0 : decide (0 ≤ t171) = true := decide_eq_true c20
              clear c20
              by_cases c21 : t171 < (y168.length : Int)
              · rw [if_pos c21] at H
                have c21b0 : decide (t171 < (y168.length : Int)) = true := decide_eq_true c21
                clear c21
                obtain ⟨y173, hy173⟩ : ∃ y_ : List (S31), y_ = (y168.set (t171 : Int).toNat (⟨(rd_T31 y168 t171).f0, a3⟩ : S31)) := ⟨_, rfl⟩
                replace H : ((some (([] : List (S31)) ++ t164 : List (S31))).bind fun y174 => ((storagebartermake_Deck_Next.f t159 t172 (y174.length : Int)).bind fun bt177 => (if 0 < (y174.length : Int) then (if 0 ≤ bt177.1 then (if bt177.1 < (y174.length : Int) then ((some (([l1, t164, y173, (y174.set (bt177.1 : Int).toNat (⟨(rd_T31 y174 bt177.1).f0, (rd_T31 y174 0).f1⟩ : S31))] : List (List (S31))) : List (List (S31)))).bind fun y181 => (storagebarterlaw14_MarkDoes.l0 kj8 a2 a3 a4 a5 y181 (y181.length : Int) 0)) else (none)) else (none)) else (none)))) = some r := by first | (rw [hy173]; with_reducible exact H) | (have H2_ := (Option.bind_some _ _).symm.trans H; rw [hy173]; with_reducible exact H2_) | (have H2_ := (Option.bind_some _ _).symm.trans H; with_reducible exact H2_) | with_reducible exact H | (rw [hy173]; exact H) | exact H
                have Ny173 := Aside0.mk hy173
                clear hy173
                obtain ⟨y174, hy174⟩ : ∃ y_ : List (S31), y_ = (([] : List (S31)) ++ t164) := ⟨_, rfl⟩
                replace H : ((storagebartermake_Deck_Next.f t159 t172 (y174.length : Int)).bind fun bt177 => (if 0 < (y174.length : Int) then (if 0 ≤ bt177.1 then (if bt177.1 < (y174.length : Int) then ((some (([l1, t164, y173, (y174.set (bt177.1 : Int).toNat (⟨(rd_T31 y174 bt177.1).f0, (rd_T31 y174 0).f1⟩ : S31))] : List (List (S31))) : List (List (S31)))).bind fun y181 => (storagebarterlaw14_MarkDoes.l0 kj8 a2 a3 a4 a5 y181 (y181.length : Int) 0)) else (none)) else (none)) else (none))) = some r := by first | (rw [hy174]; with_reducible exact H) | (have H2_ := (Option.bind_some _ _).symm.trans H; rw [hy174]; with_reducible exact H2_) | (have H2_ := (Option.bind_some _ _).symm.trans H; with_reducible exact H2_) | with_reducible exact H | (rw [hy174]; exact H) | exact H
                have Ny174 := Aside0.mk hy174
                clear hy174
                replace H := Option.bind_eq_some_iff.mp H
                obtain ⟨⟨t177, t178⟩, A230, H⟩ := H
                try dsimp only at H
                have A23 := Aside0.mk A230
                clear A230
                by_cases c24 : 0 < (y174.length : Int)
                · rw [if_pos c24] at H
                  have c24b0 : decide (0 < (y174.length : Int)) = true := decide_eq_true c24
                  have c24b1 : decide (0 < y174.length) = true := decide_eq_true (by omega)
                  clear c24
                  by_cases c25 : 0 ≤ t177
                  · rw [if_pos c25] at H
                    have c25b0 : decide (0 ≤ t177) = true := decide_eq_true c25
                    clear c25
                    by_cases c26 : t177 < (y174.length : Int)
                    · rw [if_pos c26] at H
                      have c26b0 : decide (t177 < (y174.length : Int)) = true := decide_eq_true c26
                      clear c26
                      obtain ⟨y180, hy180⟩ : ∃ y_ : List (S31), y_ = (y174.set (t177 : Int).toNat (⟨(rd_T31 y174 t177).f0, (rd_T31 y174 0).f1⟩ : S31)) := ⟨_, rfl⟩
                      replace H : ((some (([l1, t164, y173, y180] : List (List (S31))) : List (List (S31)))).bind fun y181 => (storagebarterlaw14_MarkDoes.l0 kj8 a2 a3 a4 a5 y181 (y181.length : Int) 0)) = some r := by first | (rw [hy180]; with_reducible exact H) | (have H2_ := (Option.bind_some _ _).symm.trans H; rw [hy180]; with_reducible exact H2_) | (have H2_ := (Option.bind_some _ _).symm.trans H; with_reducible exact H2_) | with_reducible exact H | (rw [hy180]; exact H) | exact H
                      have Ny180 := Aside0.mk hy180
                      clear hy180
                      obtain ⟨y181, hy181⟩ : ∃ y_ : List (List (S31)), y_ = (([l1, t164, y173, y180] : List (List (S31)))) := ⟨_, rfl⟩
                      replace H : (storagebarterlaw14_MarkDoes.l0 kj8 a2 a3 a4 a5 y181 (y181.length : Int) 0) = some r := by first | (rw [hy181]; with_reducible exact H) | (have H2_ := (Option.bind_some _ _).symm.trans H; rw [hy181]; with_reducible exact H2_) | (have H2_ := (Option.bind_some _ _).symm.trans H; with_reducible exact H2_) | with_reducible exact H | (rw [hy181]; exact H) | exact H
                      have Ny181 := Aside0.mk hy181
                      clear hy181
                      have H' := Aside0.mk H
                      clear H
                      try go_wp2_with (first | ((with_reducible refine gate_callee (f := 8) rfl ?_); refine goesL_ (some 49) rfl rfl Try.func8 (by kernel_rfl) rfl #[.slice A0 l0.length c0] rfl (by (try simp only [List.map_toArray, List.map_cons, List.map_nil]); first | done | rfl | (simp only [List.length_drop, List.length_take]; rfl)) ?_; (with_reducible refine (storagebartermake_New.calls _ _ l0 t159 t160 w _ ?side1 ?side2 ?side3 A15.out).mono ?_); (case side1 => repeat (first | (with_reducible first | exact HB.out | apply below_alloc | apply pw_below_drewN | apply below_drew1) | exact HB.out)); (case side2 => exact HR0.out); (case side3 => exact HC0.out); rintro e w28 ⟨g161, rfl, hi, hb, hb2⟩; refine ⟨_, rfl, ?_⟩; have n0_ := Aside0.mk (hb); have n1_ := Aside0.mk (hi); clear HB; have HB := n0_; have HI161 := n1_; clear n0_ n1_; (try clear hb); (try clear hb2); (try clear hk); (try clear hi)) | ((with_reducible refine gate_callee (f := 10) rfl ?_); refine goesL_ (some 52) rfl rfl Try.func10 (by kernel_rfl) rfl #[.pointer (some ⟨g161, 0, none⟩), .int .i64 5] rfl (by (try simp only [List.map_toArray, List.map_cons, List.map_nil]); first | done | rfl | (simp only [List.length_drop, List.length_take]; rfl)) ?_; (with_reducible refine (storagebartermake_Deck_Next.calls g161 t159 t160 5 t162 t163 w _ ?side1 ?side2 A16.out).mono ?_); (case side1 => repeat (first | (with_reducible first | exact HI161.out | apply IsS47.alloc | apply IsS47.drewN | apply IsS47.drew | apply IsS47.set_1) | exact HI161.out)); (case side2 => repeat (first | (with_reducible first | exact HB.out | apply below_alloc | apply pw_below_drewN | apply below_drew1 | refine below_set ?_ (IsS47.ge HI161.out)) | exact HB.out)); rintro e w29 ⟨rfl, hi, hb, hk⟩; refine ⟨_, rfl, ?_⟩; have n0_ := Aside0.mk (hb); have n1_ := Aside0.mk (hi); clear HB; clear HI161; have HB := n0_; have HI161 := n1_; clear n0_ n1_; (try clear hb); (try clear hb2); (try clear hk); (try clear hi)) | ((with_reducible refine gate_callee (f := 9) rfl ?_); refine goesL_ (some 54) rfl rfl Try.func9 (by kernel_rfl) rfl #[.pointer (some ⟨g161, 0, none⟩), .int .i64 (wrap64 (1 + t162))] rfl (by (try simp only [List.map_toArray, List.map_cons, List.map_nil]); first | done | rfl | (simp only [List.length_drop, List.length_take]; rfl)) ?_; (with_reducible refine (storagebartermake_People.calls kj8 g161 t159 t163 (wrap64 (1 + t162)) t164 t167 w _ ?side1 ?side2 A17.out).mono ?_); (case side1 => repeat (first | (with_reducible first | exact HI161.out | apply IsS47.alloc | apply IsS47.drewN | apply IsS47.drew | apply IsS47.set_1) | exact HI161.out)); (case side2 => repeat (first | (with_reducible first | exact HB.out | apply below_alloc | apply pw_below_drewN | apply below_drew1 | refine below_set ?_ (IsS47.ge HI161.out)) | exact HB.out)); rintro e w30 ⟨v165, rfl, ho0, hi, hb, hk⟩; refine ⟨_, rfl, ?_⟩; have n0_ := Aside0.mk (Kd.R_lower ho0 (below_size (by repeat (first | (with_reducible first | exact HB.out | apply below_alloc | apply pw_below_drewN | apply below_drew1 | refine below_set ?_ (IsS47.ge HI161.out)) | exact HB.out)))); have n1_ := Aside0.mk (hb); have n2_ := Aside0.mk (hi); clear HB; clear HI161; have HO166 := n0_; have HB := n1_; have HI161 := n2_; clear n0_ n1_ n2_; (try clear hb); (try clear hb2); (try clear hk); (try clear hi); (try clear ho0); obtain ⟨Ao32, co32, eo32⟩ := Kd.R_slice HO166.out; subst eo32) | ((with_reducible refine gate_builtin (b := .append) (xs := #[_, .tmp 55]) rfl ?_); (try (refine gate_guard (by rfl) ?_; dsimp only)); at_builtin; refine Kd.R_append_rows k31 (w0 := w) w.heap.size rfl _ (.tmp 55) 23 31 (.agg #[(.int .i64 0), (.int .i64 0)]) 16 rfl Try.underlying23 info31 rfl (by decide) (by omega) (.slice none 0 0) ([] : List (S31)) t164 _ _ _ (fun k_ => some k_ ≠ (.slice Ao32 t164.length co32 : Value).ownBlock) (fun _ => False) rfl rfl ?aO ?aR (fun _ _ h => h) (fun _ h => h.elim) ?aF ?aB ?aS ?aL ?_; (case aR => repeat (first | exact (Kd.R_reads' HO166.out).2.2 | (with_reducible refine Kd.C_alloc ?_ _) | (with_reducible refine Kd.C_drewN ?_ _) | (with_reducible refine Kd.C_drew ?_))); (case aB => exact (by repeat (first | (with_reducible first | exact HB.out | apply below_alloc | apply pw_below_drewN | apply below_drew1 | refine below_set ?_ (IsS47.ge HI161.out)) | exact HB.out))); (case aF => exact (fun k_ hk => Kd.fresh' (Kd.R_lt (by (with_reducible repeat (first | apply Kd.R_alloc | apply Kd.R_drewN | apply Kd.R_drew)); exact HO166.out)) k_ hk)); (case aO => exact ((Kd.R_nil _ _ _ _ (fun k_ => some k_ ≠ (.slice Ao32 t164.length co32 : Value).ownBlock)))); (case aS => exact (below_size (by repeat (first | (with_reducible first | exact HB.out | apply below_alloc | apply pw_below_drewN | apply below_drew1 | refine below_set ?_ (IsS47.ge HI161.out)) | exact HB.out)))); (case aL => have := LMc18.out; omega); intro v169 w31 ho hb hg hat; rw [← Ny168.out] at ho; have n0_ := Aside0.mk (IsS47.grown (by repeat (first | (with_reducible first | exact HI161.out | apply IsS47.alloc | apply IsS47.drewN | apply IsS47.drew | apply IsS47.set_1) | exact HI161.out)) hg (by simp [Value.ownBlock])); have n1_ := Aside0.mk (Kd.R_after (Kd.R_apart_nil (by (with_reducible repeat (first | apply Kd.R_alloc | apply Kd.R_drewN | apply Kd.R_drew)); exact HO166.out)) hg hat); have n2_ := Aside0.mk (hb); have n3_ := Aside0.mk (ho); clear HI161; clear HO166; clear HB; have HI161 := n0_; have HO166 := n1_; have HB := n2_; have HO170 := n3_; clear n0_ n1_ n2_ n3_; clear ho hb hg hat; obtain ⟨Ao33, co33, eo33⟩ := Kd.R_slice HO170.out; subst eo33) | ((with_reducible refine gate_callee (f := 10) rfl ?_); refine goesL_ (some 61) rfl rfl Try.func10 (by kernel_rfl) rfl #[.pointer (some ⟨g161, 0, none⟩), .int .i64 (y168.length : Int)] rfl (by (try simp only [List.map_toArray, List.map_cons, List.map_nil]); first | done | rfl | (simp only [List.length_drop, List.length_take]; rfl)) ?_; (with_reducible refine (storagebartermake_Deck_Next.calls g161 t159 t167 (y168.length : Int) t171 t172 w _ ?side1 ?side2 A19.out).mono ?_); (case side1 => repeat (first | (with_reducible first | exact HI161.out | apply IsS47.alloc | apply IsS47.drewN | apply IsS47.drew | apply IsS47.set_1) | exact HI161.out)); (case side2 => repeat (first | (with_reducible first | exact HB.out | apply below_alloc | apply pw_below_drewN | apply below_drew1 | refine below_set ?_ (IsS47.ge HI161.out)) | exact HB.out)); rintro e w34 ⟨rfl, hi, hb, hk⟩; refine ⟨_, rfl, ?_⟩; have n0_ := Aside0.mk (Kd.R_mono (Kd.R_keep (IsS47.apart (show IsS47 w _ g161 t159 t167 from by repeat (first | (with_reducible first | exact HI161.out | apply IsS47.alloc | apply IsS47.drewN | apply IsS47.drew | apply IsS47.set_1) | exact HI161.out)) (by (with_reducible repeat (first | apply Kd.R_alloc | apply Kd.R_drewN | apply Kd.R_drew)); exact HO166.out) (by decide)) hk (fun _ h => h.2)) (fun _ h => h.1)); have n1_ := Aside0.mk (Kd.R_mono (Kd.R_keep (IsS47.apart (show IsS47 w _ g161 t159 t167 from by repeat (first | (with_reducible first | exact HI161.out | apply IsS47.alloc | apply IsS47.drewN | apply IsS47.drew | apply IsS47.set_1) | exact HI161.out)) (by (with_reducible repeat (first | apply Kd.R_alloc | apply Kd.R_drewN | apply Kd.R_drew)); exact HO170.out) (by decide)) hk (fun _ h => h.2)) (fun _ h => h.1)); have n2_ := Aside0.mk (hb); have n3_ := Aside0.mk (hi); clear HO166; clear HO170; clear HB; clear HI161; have HO166 := n0_; have HO170 := n1_; have HB := n2_; have HI161 := n3_; clear n0_ n1_ n2_ n3_; (try clear hb); (try clear hb2); (try clear hk); (try clear hi); have p22 : 0 ≤ (t171 : Int) := of_decide_eq_true (by first | (with_reducible assumption) | assumption); have q22 : (t171 : Int) < ((y168.length : Int) : Int) := of_decide_eq_true (by first | (with_reducible assumption) | assumption); obtain ⟨go22, co22, eo22, gb22, gl22, cl22, HG22⟩ := Kd.R_form HO170.out (by omega); (first | cases eo22 | (injection eo22 with ea_ en_ ec_; (first | subst ea_ | (injection ea_ with ea_; subst ea_)); subst ec_; clear en_)); have GB22 := Aside0.mk gb22; have GG22 := Aside0.mk HG22; clear gb22 gl22 HG22; obtain ⟨ce22, hcl22, hM22, hcc22, hfr22⟩ := Kd.R_elem HO170.out z31 (t171 : Int) p22 q22; obtain rfl := k31_openM hM22; have hx22_0 : w34.cell? ⟨go22, (t171 : Int).toNat * 2, none⟩ = some (.int .i64 ((rd_T31 y168 t171).f0)) := hcc22 0 _ rfl; have hx22_1 : w34.cell? ⟨go22, (t171 : Int).toNat * 2 + 1, none⟩ = some (.int .i64 ((rd_T31 y168 t171).f1)) := hcc22 1 _ rfl; have hf22_0 : w34.frozen? ⟨go22, (t171 : Int).toNat * 2, none⟩ = false := hfr22 0; have hf22_1 : w34.frozen? ⟨go22, (t171 : Int).toNat * 2 + 1, none⟩ = false := hfr22 1; clear hcl22 hcc22 hfr22 hM22; replace p22 := eq_true p22; replace q22 := eq_true q22; have HX35 := Aside0.mk (show Kd.R k31 31 w34 w.heap.size (fun k_ => some k_ ≠ (.slice Ao32 t164.length co32 : Value).ownBlock) (.slice (some ⟨go22, 0, none⟩) y168.length co33) y168 from (by (with_reducible repeat (first | apply Kd.R_alloc | apply Kd.R_drewN | apply Kd.R_drew)); exact HO170.out)); obtain ⟨ce35, hcl35, hM35, hcc35, hfr35⟩ := Kd.R_elem HX35.out z31 (t171 : Int) (of_decide_eq_true (by first | (with_reducible assumption) | assumption)) (by have h_ : (t171 : Int) < ((y168.length : Int) : Int) := of_decide_eq_true (by first | (with_reducible assumption) | assumption); first | exact h_ | (have e_ := (Kd.R_reads' HO170.out).1; omega) | simpa using h_); obtain rfl := k31_openM hM35; have HP35 := Kd.R_seg HX35.out (t171 : Int) (of_decide_eq_true (by first | (with_reducible assumption) | assumption)) (by have h_ : (t171 : Int) < ((y168.length : Int) : Int) := of_decide_eq_true (by first | (with_reducible assumption) | assumption); first | exact h_ | (have e_ := (Kd.R_reads' HO170.out).1; omega) | simpa using h_) (seg := [.int .i64 a3]) (j := 1) hcl35 hcc35 (show 2 ≤ 2 from by decide) (x' := (⟨(rd_T31 y168 t171).f0, a3⟩ : S31)) (k31_mkM _ _ _ (⟨(rd_T31 y168 t171).f0, a3⟩ : S31) ) (fun _ hk => hk); have hx35_1 := hcc35 1 _ rfl; (try simp only [show (k31).sz = 2 from rfl, Nat.mul_one, Nat.add_zero] at hx35_1); have hf35_1 := hfr35 1; (try simp only [show (k31).sz = 2 from rfl, Nat.mul_one, Nat.add_zero] at hf35_1); clear hcl35 hcc35 hfr35 hM35) | ((with_reducible refine gate_store (t := 3) (p := 64) rfl ?_); refine store_event (t := 3) (p := 64) (v := ?vo_w36) (w1 := (w34.setCell ⟨go22, (t171 : Int).toNat * 2 + 1, none⟩ (.int .i64 a3))) ?hg ?ho ?hn ?hr ?_; (case ho => rfl); (case hg => rfl); (case hn => rfl); (case hr => first | (go_simp; done) | (go_simp; rfl)); intro w36 hw; have hg : w34.grownBy w36 (some go22) := (by rw [hw]; exact HP35.2); have hp_ : Kd.R k31 31 w36 w.heap.size (fun k_ => some k_ ≠ (.slice Ao32 t164.length co32 : Value).ownBlock) (.slice (some ⟨go22, 0, none⟩) y168.length co33) y173 := (by rw [hw, Ny173.out]; exact HP35.1); clear HP35; have n0_ := Aside0.mk (IsS47.grown (by repeat (first | (with_reducible first | exact HI161.out | apply IsS47.alloc | apply IsS47.drewN | apply IsS47.drew | apply IsS47.set_1) | exact HI161.out)) hg (IsS47.own_ne HI161.out HO170.out (by decide))); have n1_ := Aside0.mk (Kd.R_after (v := (.slice (some ⟨go22, 0, none⟩) y168.length co33)) (v1 := (.slice (some ⟨go22, 0, none⟩) y168.length co33)) (ok := (fun _ => True)) (by (with_reducible repeat (first | apply Kd.R_alloc | apply Kd.R_drewN | apply Kd.R_drew)); exact HO166.out) hg (.inl rfl)); have n2_ := Aside0.mk (hp_); have n3_ := Aside0.mk ((by rw [hw]; exact below_set (HB.out) GB22.out : Below w.heap.size w w36)); clear HI161; clear HO166; clear HO170; clear HB; have HI161 := n0_; have HO166 := n1_; have HO170 := n2_; have HB := n3_; clear n0_ n1_ n2_ n3_; clear hg hw hp_) | ((with_reducible refine gate_builtin (b := .append) (xs := #[_, .tmp 65]) rfl ?_); (try (refine gate_guard (by rfl) ?_; dsimp only)); at_builtin; refine Kd.R_append_rows k31 (w0 := w) w.heap.size rfl _ (.tmp 65) 23 31 (.agg #[(.int .i64 0), (.int .i64 0)]) 16 rfl Try.underlying23 info31 rfl (by decide) (by omega) (.slice none 0 0) ([] : List (S31)) t164 _ _ _ (fun k_ => some k_ ≠ (.slice Ao32 t164.length co32 : Value).ownBlock ∧ some k_ ≠ (.slice (some ⟨go22, 0, none⟩) y168.length co33 : Value).ownBlock) (fun _ => False) rfl rfl ?aO ?aR (fun _ _ h => h) (fun _ h => h.elim) ?aF ?aB ?aS ?aL ?_; (case aR => repeat (first | exact (Kd.R_reads' HO166.out).2.2 | (with_reducible refine Kd.C_alloc ?_ _) | (with_reducible refine Kd.C_drewN ?_ _) | (with_reducible refine Kd.C_drew ?_))); (case aB => exact (by repeat (first | (with_reducible first | exact HB.out | apply below_alloc | apply pw_below_drewN | apply below_drew1 | refine below_set ?_ (IsS47.ge HI161.out)) | exact HB.out))); (case aF => exact (fun k_ hk => ⟨Kd.fresh' (Kd.R_lt (by (with_reducible repeat (first | apply Kd.R_alloc | apply Kd.R_drewN | apply Kd.R_drew)); exact HO166.out)) k_ hk, Kd.fresh' (Kd.R_lt (by (with_reducible repeat (first | apply Kd.R_alloc | apply Kd.R_drewN | apply Kd.R_drew)); exact HO170.out)) k_ hk⟩)); (case aO => exact ((Kd.R_nil _ _ _ _ (fun k_ => some k_ ≠ (.slice Ao32 t164.length co32 : Value).ownBlock ∧ some k_ ≠ (.slice (some ⟨go22, 0, none⟩) y168.length co33 : Value).ownBlock)))); (case aS => exact (below_size (by repeat (first | (with_reducible first | exact HB.out | apply below_alloc | apply pw_below_drewN | apply below_drew1 | refine below_set ?_ (IsS47.ge HI161.out)) | exact HB.out)))); (case aL => have := LMc18.out; omega); intro v175 w37 ho hb hg hat; rw [← Ny174.out] at ho; have n0_ := Aside0.mk (IsS47.grown (by repeat (first | (with_reducible first | exact HI161.out | apply IsS47.alloc | apply IsS47.drewN | apply IsS47.drew | apply IsS47.set_1) | exact HI161.out)) hg (by simp [Value.ownBlock])); have n1_ := Aside0.mk (Kd.R_after (Kd.R_apart_nil (by (with_reducible repeat (first | apply Kd.R_alloc | apply Kd.R_drewN | apply Kd.R_drew)); exact HO166.out)) hg hat); have n2_ := Aside0.mk (Kd.R_after (Kd.R_apart_nil (by (with_reducible repeat (first | apply Kd.R_alloc | apply Kd.R_drewN | apply Kd.R_drew)); exact HO170.out)) hg hat); have n3_ := Aside0.mk (hb); have n4_ := Aside0.mk (ho); clear HI161; clear HO166; clear HO170; clear HB; have HI161 := n0_; have HO166 := n1_; have HO170 := n2_; have HB := n3_; have HO176 := n4_; clear n0_ n1_ n2_ n3_ n4_; clear ho hb hg hat))
                      have n0_ := Aside0.mk (Kd.R_drew HO166.out)
                      have n1_ := Aside0.mk (Kd.R_drew HO170.out)
                      have n2_ := Aside0.mk (Kd.R_drew HO176.out)
                      have n3_ := Aside0.mk (IsS47.drew HI161.out)
                      have n4_ := Aside0.mk (below_drew1 HB.out)
                      clear HO166
                      clear HO170
                      clear HO176
                      clear HI161
                      clear HB
                      have HO166 := n0_
                      have HO170 := n1_
                      have HO176 := n2_
                      have HI161 := n3_
                      have HB := n4_
                      clear n0_ n1_ n2_ n3_ n4_
                      obtain ⟨Ao39, co39, eo39⟩ := Kd.R_slice HO176.out
                      (first | subst eo39 | (injection eo39 with f1_ f2_ f3_; have f4_ := f1_.symm; have f5_ := f3_.symm; clear f1_ f2_ f3_; subst f4_; subst f5_))
                      have p179 : 0 ≤ (0 : Int) := (by omega)
                      have q179 : 0 < (y174.length : Int) := of_decide_eq_true (by first | (with_reducible assumption) | assumption)
                      obtain ⟨ad179, e179, hx179_0, hx179_1⟩ := at_T31 (Kd.R_reads' HO176.out).2.2 0 p179 q179
                      cases e179
                      have qi179 : (0 < y174.length) = True := eq_true (by omega)
                      (try rw [show ((0 : Int)).toNat = 0 from rfl] at hx179_0)
                      (try rw [show 0 * 2 = 0 from rfl] at hx179_0)
                      (try rw [Addr.add_zero'] at hx179_0)
                      (try rw [show ((0 : Int)).toNat = 0 from rfl] at hx179_1)
                      (try rw [show 0 * 2 = 0 from rfl] at hx179_1)
                      (try rw [Addr.add_zero'] at hx179_1)
                      replace p179 := eq_true p179
                      replace q179 := eq_true q179
                      refine start_ (n := 12) (S := fun w' => w'.cell? ad179 = some (.int .i64 ((rd_T31 y174 0).f0)) ∧ w'.cell? ⟨ad179.block, ad179.off + 1, none⟩ = some (.int .i64 ((rd_T31 y174 0).f1))) (ds := [11]) #[false, false, false, false, false, false, false, false, false, false, false, false] (by kernel_rfl) rfl rfl ⟨hx179_0, hx179_1⟩ (fun hHeld => ?_); refine with_tabW storagebarterlaw14_MarkDoes.tab10 storagebarterlaw14_MarkDoes.bits10 (fun HT_ HW_ => ?_)
                      generalize w37.drew = w38 at HO166 HO170 HO176 HI161 HB hx179_0 hx179_1 hHeld ⊢
                      refine pure_ (i := 0) (N := some 67) (v := ?_) (a' := ?_) #[true, false, false, false, false, false, false, false, false, false, false, false] rfl rfl (any_of HT_.out (by kernel_rfl)) (fun _ _ _ h => h) (Or.inl ⟨by rfl, ?_⟩) ?_ ?_
                      rotate_left
                      · intro w'
                        go_simp
                        with_reducible rfl
                      rotate_left
                      · simp only [Act.put, List.setIfInBounds_toArray, List.set_cons_zero, List.set_cons_succ, i64_w, i32_w]
                        rfl
                      refine pure_ (i := 1) (N := some 68) (v := ?_) (a' := ?_) #[true, true, false, false, false, false, false, false, false, false, false, false] rfl rfl (any_of HT_.out (by kernel_rfl)) (fun _ _ _ h => h) (Or.inl ⟨by rfl, ?_⟩) ?_ ?_
                      rotate_left
                      · intro w'
                        go_simp
                        with_reducible rfl
                      rotate_left
                      · simp only [Act.put, List.setIfInBounds_toArray, List.set_cons_zero, List.set_cons_succ, i64_w, i32_w]
                        rfl
                      refine pure_ (i := 2) (N := some 69) (v := ?_) (a' := ?_) #[true, true, true, false, false, false, false, false, false, false, false, false] rfl rfl (any_of HT_.out (by kernel_rfl)) (fun _ _ _ h => h) (Or.inl ⟨by rfl, ?_⟩) ?_ ?_
                      rotate_left
                      · intro w'
                        go_simp
                        with_reducible rfl
                      rotate_left
                      · simp only [Act.put, List.setIfInBounds_toArray, List.set_cons_zero, List.set_cons_succ, i64_w, i32_w]
                        rfl
                      refine pure_ (i := 3) (N := some 70) (v := ?_) (a' := ?_) #[true, true, true, true, false, false, false, false, false, false, false, false] rfl rfl (any_of HT_.out (by kernel_rfl)) (fun _ _ _ h => h) (Or.inl ⟨by rfl, ?_⟩) ?_ ?_
                      rotate_left
                      · intro w'
                        go_simp
                        with_reducible rfl
                      rotate_left
                      · simp only [Act.put, List.setIfInBounds_toArray, List.set_cons_zero, List.set_cons_succ, i64_w, i32_w]
                        rfl
                      refine pure_ (i := 5) (N := some 72) (v := ?_) (a' := ?_) #[true, true, true, true, false, true, false, false, false, false, false, false] rfl rfl (any_of HT_.out (by kernel_rfl)) (fun _ _ _ h => h) (Or.inl ⟨by rfl, ?_⟩) ?_ ?_
                      rotate_left
                      · intro w'
                        go_simp
                        with_reducible rfl
                      rotate_left
                      · simp only [Act.put, List.setIfInBounds_toArray, List.set_cons_zero, List.set_cons_succ, i64_w, i32_w]
                        rfl
                      refine pure_ (i := 6) (N := some 73) (v := ?_) (a' := ?_) #[true, true, true, true, false, true, true, false, false, false, false, false] rfl rfl (any_of HT_.out (by kernel_rfl)) (fun _ _ _ h => h) (Or.inl ⟨by rfl, ?_⟩) ?_ ?_
                      rotate_left
                      · intro w'
                        go_simp
                        with_reducible rfl
                      rotate_left
                      · simp only [Act.put, List.setIfInBounds_toArray, List.set_cons_zero, List.set_cons_succ, i64_w, i32_w]
                        rfl
                      refine pure_ (i := 7) (N := some 74) (v := ?_) (a' := ?_) #[true, true, true, true, false, true, true, true, false, false, false, false] rfl rfl (any_of HT_.out (by kernel_rfl)) (fun _ _ _ h => h) (Or.inl ⟨by rfl, ?_⟩) ?_ ?_
                      rotate_left
                      · intro w'
                        go_simp
                        with_reducible rfl
                      rotate_left
                      · simp only [Act.put, List.setIfInBounds_toArray, List.set_cons_zero, List.set_cons_succ, i64_w, i32_w]
                        rfl
                      refine take_ (i := 8) (N := some 75) (v := ?_) (a' := ?_) #[true, true, true, true, false, true, true, true, true, false, false, false] rfl rfl (take_ofW HT_.out HW_.out (by kernel_rfl)) (fun _ _ _ h => h) (Or.inl ⟨by rfl, ?_⟩) hHeld ?_ ?_
                      rotate_left
                      · rintro w' ⟨s0, s1⟩
                        go_simp
                        with_reducible rfl
                      rotate_left
                      · simp only [Act.put, List.setIfInBounds_toArray, List.set_cons_zero, List.set_cons_succ, i64_w, i32_w]
                        rfl
                      refine one_ (i := 4) (N := some 71) #[true, true, true, true, true, true, true, true, true, false, false, false] rfl rfl (one_of HT_.out (by kernel_rfl)) (by decide) (fun K hK => ?_)
                      refine goes_ Try.func10 (by kernel_rfl) rfl #[.pointer (some ⟨g161, 0, none⟩), .int .i64 (y174.length : Int)] (by rfl) rfl rfl (by (try simp only [List.map_toArray, List.map_cons, List.map_nil]); first | done | rfl | (simp only [List.length_drop, List.length_take]; rfl)) ?_
                      with_reducible refine (storagebartermake_Deck_Next.calls g161 t159 t172 (y174.length : Int) t177 t178 w _ ?side1 ?side2 A23.out).mono ?_
                      (case side1 => repeat (first | (with_reducible first | exact HI161.out | apply IsS47.alloc | apply IsS47.drewN | apply IsS47.drew | apply IsS47.set_1) | exact HI161.out))
                      (case side2 => repeat (first | (with_reducible first | exact HB.out | apply below_alloc | apply pw_below_drewN | apply below_drew1 | refine below_set ?_ (IsS47.ge HI161.out)) | exact HB.out))
                      rintro e w40 ⟨rfl, hi, hb, hk⟩
                      have HS0_ := keep_cell hk (hHeld.1) (by first | (rw [add_block]; exact Kd.own_blk (IsS47.own_ne HI161.out HO176.out (by decide))) | (show (Addr.add _ _).block ≠ _; rw [add_block]; exact Kd.own_blk (IsS47.own_ne HI161.out HO176.out (by decide))) | exact Kd.own_blk (IsS47.own_ne HI161.out HO176.out (by decide)) | (dsimp only; exact Kd.own_blk (IsS47.own_ne HI161.out HO176.out (by decide))))
                      have HS1_ := keep_cell hk (hHeld.2) (by first | (rw [add_block]; exact Kd.own_blk (IsS47.own_ne HI161.out HO176.out (by decide))) | (show (Addr.add _ _).block ≠ _; rw [add_block]; exact Kd.own_blk (IsS47.own_ne HI161.out HO176.out (by decide))) | exact Kd.own_blk (IsS47.own_ne HI161.out HO176.out (by decide)) | (dsimp only; exact Kd.own_blk (IsS47.own_ne HI161.out HO176.out (by decide))))
                      refine ⟨_, rfl, ?_⟩
                      have n0_ := Aside0.mk (Kd.R_mono (Kd.R_keep (IsS47.apart (show IsS47 w _ g161 t159 t172 from by repeat (first | (with_reducible first | exact HI161.out | apply IsS47.alloc | apply IsS47.drewN | apply IsS47.drew | apply IsS47.set_1) | exact HI161.out)) (by (with_reducible repeat (first | apply Kd.R_alloc | apply Kd.R_drewN | apply Kd.R_drew)); exact HO166.out) (by decide)) hk (fun _ h => h.2)) (fun _ h => h.1))
                      have n1_ := Aside0.mk (Kd.R_mono (Kd.R_keep (IsS47.apart (show IsS47 w _ g161 t159 t172 from by repeat (first | (with_reducible first | exact HI161.out | apply IsS47.alloc | apply IsS47.drewN | apply IsS47.drew | apply IsS47.set_1) | exact HI161.out)) (by (with_reducible repeat (first | apply Kd.R_alloc | apply Kd.R_drewN | apply Kd.R_drew)); exact HO170.out) (by decide)) hk (fun _ h => h.2)) (fun _ h => h.1))
                      have n2_ := Aside0.mk (Kd.R_mono (Kd.R_keep (IsS47.apart (show IsS47 w _ g161 t159 t172 from by repeat (first | (with_reducible first | exact HI161.out | apply IsS47.alloc | apply IsS47.drewN | apply IsS47.drew | apply IsS47.set_1) | exact HI161.out)) (by (with_reducible repeat (first | apply Kd.R_alloc | apply Kd.R_drewN | apply Kd.R_drew)); exact HO176.out) (by decide)) hk (fun _ h => h.2)) (fun _ h => h.1))
                      have n3_ := Aside0.mk (hb)
                      have n4_ := Aside0.mk (hi)
                      clear HO166
                      clear HO170
                      clear HO176
                      clear HB
                      clear HI161
                      have HO166 := n0_
                      have HO170 := n1_
                      have HO176 := n2_
                      have HB := n3_
                      have HI161 := n4_
                      clear n0_ n1_ n2_ n3_ n4_
                      (try clear hb)
                      (try clear hb2)
                      (try clear hk)
                      (try clear hi)
                      have p27 : 0 ≤ (t177 : Int) := of_decide_eq_true (by first | (with_reducible assumption) | assumption)
                      have q27 : (t177 : Int) < ((y174.length : Int) : Int) := of_decide_eq_true (by first | (with_reducible assumption) | assumption)
                      obtain ⟨go27, co27, eo27, gb27, gl27, cl27, HG27⟩ := Kd.R_form HO176.out (by omega)
                      (first | cases eo27 | (injection eo27 with ea_ en_ ec_; (first | subst ea_ | (injection ea_ with ea_; subst ea_)); subst ec_; clear en_))
                      have GB27 := Aside0.mk gb27
                      have GG27 := Aside0.mk HG27
                      clear gb27 gl27 HG27
                      (first | simp only [add_plain] at hx179_0 | skip)
                      (first | simp only [add_plain] at hx179_1 | skip)
                      obtain ⟨ce27, hcl27, hM27, hcc27, hfr27⟩ := Kd.R_elem HO176.out z31 (t177 : Int) p27 q27
                      obtain rfl := k31_openM hM27
                      have hx27_0 : World.cell? _ ⟨go27, (t177 : Int).toNat * 2, none⟩ = some (.int .i64 ((rd_T31 y174 t177).f0)) := hcc27 0 _ rfl
                      have hx27_1 : World.cell? _ ⟨go27, (t177 : Int).toNat * 2 + 1, none⟩ = some (.int .i64 ((rd_T31 y174 t177).f1)) := hcc27 1 _ rfl
                      have hf27_0 : World.frozen? _ ⟨go27, (t177 : Int).toNat * 2, none⟩ = false := hfr27 0
                      have hf27_1 : World.frozen? _ ⟨go27, (t177 : Int).toNat * 2 + 1, none⟩ = false := hfr27 1
                      clear hcl27 hcc27 hfr27 hM27
                      replace p27 := eq_true p27
                      replace q27 := eq_true q27
                      have HN161_go27 := Aside0.mk (show g161 ≠ go27 from by have h_ := IsS47.own_ne HI161.out HO176.out (by decide); intro e_; exact h_ (by rw [e_]; rfl))
                      obtain ⟨ce41, hcl41, hM41, hcc41, hfr41⟩ := Kd.R_elem HO176.out z31 (t177 : Int) (of_decide_eq_true (by first | (with_reducible assumption) | assumption)) (by have h_ : (t177 : Int) < ((y174.length : Int) : Int) := of_decide_eq_true (by first | (with_reducible assumption) | assumption); first | exact h_ | (have e_ := (Kd.R_reads' HO176.out).1; omega) | simpa using h_)
                      obtain rfl := k31_openM hM41
                      have HP41 := (Kd.R_seg HO176.out (t177 : Int) (of_decide_eq_true (by first | (with_reducible assumption) | assumption)) (by have h_ : (t177 : Int) < ((y174.length : Int) : Int) := of_decide_eq_true (by first | (with_reducible assumption) | assumption); first | exact h_ | (have e_ := (Kd.R_reads' HO176.out).1; omega) | simpa using h_) (seg := [.int .i64 ((rd_T31 y174 0).f1)]) (j := 1) hcl41 hcc41 (show 2 ≤ 2 from by decide) (x' := (⟨(rd_T31 y174 t177).f0, (rd_T31 y174 0).f1⟩ : S31)) (k31_mkM _ _ _ (⟨(rd_T31 y174 t177).f0, (rd_T31 y174 0).f1⟩ : S31) ) (fun _ hk => hk)).1
                      rw [← Ny180.out] at HP41
                      have HQ41 := Aside0.mk HP41
                      clear hcl41 hcc41 hfr41 hM41 HP41
                      refine hK.out _ _ ⟨HS0_, HS1_⟩ (fun hHeld => ?_)
                      clear hK K
                      refine norm_ (a' := ?_) ?_ ?_
                      rotate_left
                      · show Act.put _ (some 71) _ = _
                        simp only [Act.put, List.setIfInBounds_toArray, List.set_cons_zero, List.set_cons_succ, i64_w, i32_w]
                        rfl
                      refine pure_ (i := 9) (N := some 76) (v := ?_) (a' := ?_) #[true, true, true, true, true, true, true, true, true, true, false, false] rfl rfl (any_of HT_.out (by kernel_rfl)) (fun _ _ _ h => h) (Or.inl ⟨by rfl, ?_⟩) ?_ ?_
                      rotate_left
                      · intro w'
                        go_simp
                        with_reducible rfl
                      rotate_left
                      · simp only [Act.put, List.setIfInBounds_toArray, List.set_cons_zero, List.set_cons_succ, i64_w, i32_w]
                        rfl
                      refine pure_ (i := 10) (N := some 77) (v := ?_) (a' := ?_) #[true, true, true, true, true, true, true, true, true, true, true, false] rfl rfl (any_of HT_.out (by kernel_rfl)) (fun _ _ _ h => h) (Or.inl ⟨by rfl, ?_⟩) ?_ ?_
                      rotate_left
                      · intro w'
                        go_simp
                        with_reducible rfl
                      rotate_left
                      · simp only [Act.put, List.setIfInBounds_toArray, List.set_cons_zero, List.set_cons_succ, i64_w, i32_w]
                        rfl
                      refine last_ (i := 11) (N := none) #[true, true, true, true, true, true, true, true, true, true, true, true] rfl rfl (one_of HT_.out (by kernel_rfl)) (by decide) (fun K hK => ?_)
                      refine skip_ (w1 := ?_) (by rfl) rfl ?_ ?_
                      rotate_left
                      · go_simp
                        rfl
                      refine hK.out _ _ ?_
                      clear hK K
                      refine done_ (done_of HT_.out (by kernel_rfl)) ?_
                      try go_wp2_with (first | ((with_reducible refine gate_dst (N := 82) rfl ?_); (try (refine gate_guard (by rfl) ?_; dsimp only)); refine Grl.C_lit (Kd.slice 31 k31) _ 23 ?hg (N := 82) ?hd (xs := ([l1, t164, y173, y180] : List (List (S31)))) (inner := [.slice A1 l1.length c1, .slice Ao32 t164.length co32, .slice (some ⟨go22, 0, none⟩) y168.length co33, .slice (some ⟨go27, 0, none⟩) y174.length co39]) ?hr ?hp (by repeat (first | (with_reducible first | exact HB.out | apply below_alloc | apply pw_below_drewN | apply below_drew1 | refine below_set ?_ GB27.out | refine below_set ?_ (IsS47.ge HI161.out)) | exact HB.out)) (below_size (by repeat (first | (with_reducible first | exact HB.out | apply below_alloc | apply pw_below_drewN | apply below_drew1 | refine below_set ?_ GB27.out | refine below_set ?_ (IsS47.ge HI161.out)) | exact HB.out))) (by simp) Ny181.out ?_; (case hd => rfl); (case hg => rfl); (case hr => first | (go_simp; done) | (go_simp; rfl)); (case hp => exact (Reps.one (Grl.K_of_C HC1.out (Kd.C_below HR1.out (by repeat (first | (with_reducible first | exact HB.out | apply below_alloc | apply pw_below_drewN | apply below_drew1 | refine below_set ?_ GB27.out | refine below_set ?_ (IsS47.ge HI161.out)) | exact HB.out)))) (Reps.one (Grl.K_of_R (by (with_reducible repeat (first | apply Kd.R_alloc | apply Kd.R_drewN | apply Kd.R_drew)); exact (Kd.R_mono (Kd.R_far (p := ⟨go27, (t177 : Int).toNat * 2 + 1, none⟩) (Kd.R_mono HO166.out (fun k_ hk => (⟨hk, fun e_ => hk.2 (by rw [e_]; rfl)⟩ : _ ∧ k_ ≠ go27))) (fun _ hk => hk.2) (.int .i64 ((rd_T31 y174 0).f1))) (fun _ h_ => h_.1)))) (Reps.one (Grl.K_of_R (by (with_reducible repeat (first | apply Kd.R_alloc | apply Kd.R_drewN | apply Kd.R_drew)); exact (Kd.R_mono (Kd.R_far (p := ⟨go27, (t177 : Int).toNat * 2 + 1, none⟩) (Kd.R_mono HO170.out (fun k_ hk => (⟨hk, fun e_ => hk.2 (by rw [e_]; rfl)⟩ : _ ∧ k_ ≠ go27))) (fun _ hk => hk.2) (.int .i64 ((rd_T31 y174 0).f1))) (fun _ h_ => h_.1)))) (Reps.one (Grl.K_of_R (by (with_reducible repeat (first | apply Kd.R_alloc | apply Kd.R_drewN | apply Kd.R_drew)); exact HQ41.out)) (Reps.none _ _)))))); intro glit w hClit hBlit; have HB0_ := Aside0.mk hBlit; clear HB; have HB := Aside0.mk (Below.refl w.heap.size w); have HRlit := Aside0.mk hClit; clear hClit hBlit))
                      go_loopg [84] kj8 (fun kq v84 w' => ∃ (x84_2 : Int), v84 = .int .i64 x84_2 ∧ Aside0 (storagebarterlaw14_MarkDoes.l0 kq a2 a3 a4 a5 y181 (y181.length : Int) x84_2 = some r) ∧ Aside0 (kq ≤ kj8) ∧ Aside0 (Below w.heap.size w w'))
                      case atStart => exact ⟨(0), (by first | rfl | (simp; done) | (simp [*]; done)), H', ⟨Nat.le_refl _⟩, ⟨by repeat (first | (with_reducible first | exact HB.out | apply below_alloc | apply pw_below_drewN | apply below_drew1) | exact HB.out)⟩⟩
                      case round =>
                        clear H'
                        try clear c1
                        try clear p1
                        try clear q1
                        try clear hx1
                        try clear qi1
                        try clear c2
                        try clear p2
                        try clear q2
                        try clear hx2
                        try clear c3
                        try clear hx3
                        try clear c4
                        try clear c6
                        try clear p6
                        try clear c7
                        try clear c8
                        try clear c9
                        try clear c10
                        try clear c12
                        try clear c13
                        try clear c13b0
                        try clear c13b1
                        try clear c14
                        try clear p17
                        try clear q17
                        try clear hx17
                        try clear qi17
                        try clear c18
                        try clear c20
                        try clear c20b0
                        try clear c21
                        try clear c21b0
                        try clear c22
                        try clear p22
                        try clear q22
                        try clear hx22
                        try clear hf22
                        try clear c24
                        try clear c24b0
                        try clear c24b1
                        try clear c25
                        try clear c25b0
                        try clear c26
                        try clear c26b0
                        try clear c27
                        try clear p27
                        try clear q27
                        try clear hx27
                        try clear hf27
                        try clear c35
                        try clear hx35
                        try clear hf35
                        try clear c41
                        try clear hx179_0
                        try clear hx179_1
                        try clear hx22_0
                        try clear hx22_1
                        try clear hx27_0
                        try clear hx27_1
                        try clear hx35_1
                        try clear p179
                        try clear p2
                        try clear p22
                        try clear p27
                        try clear q179
                        try clear q22
                        try clear q27
                        obtain ⟨x84_2, rfl, HA, HK2, HB⟩ := hrel
                        cases gk with
                        | zero => exact absurd HA.out (by simp [storagebarterlaw14_MarkDoes.l0])
                        | succ k2 =>
                          have H := HA.out
                          clear HA
                          simp only [storagebarterlaw14_MarkDoes.l0] at H
                          by_cases c42 : x84_2 < (y181.length : Int)
                          · rw [if_pos c42] at H
                            have c42b0 : decide (x84_2 < (y181.length : Int)) = true := decide_eq_true c42
                            clear c42
                            by_cases c43 : 0 ≤ x84_2
                            · rw [if_pos c43] at H
                              have c43b0 : decide (0 ≤ x84_2) = true := decide_eq_true c43
                              clear c43
                              by_cases c44 : x84_2 < (y181.length : Int)
                              · rw [if_pos c44] at H
                                have c44b0 : decide (x84_2 < (y181.length : Int)) = true := decide_eq_true c44
                                clear c44
                                replace H := Option.bind_eq_some_iff.mp H
                                obtain ⟨t183, A450, H⟩ := H
                                try dsimp only at H
                                have A45 := Aside0.mk A450
                                clear A450
                                replace H := Option.bind_eq_some_iff.mp H
                                obtain ⟨t184, A460, H⟩ := H
                                try dsimp only at H
                                have A46 := Aside0.mk A460
                                clear A460
                                by_cases c47 : t183 = t184
                                · rw [if_pos c47] at H
                                  have c47b0 : (t183 == t184) = true := beq_iff_eq.mpr c47
                                  have c47b1 : (t183 != t184) = false := bne_eq_false_iff_eq.mpr c47
                                  clear c47
                                  replace H := Option.bind_eq_some_iff.mp H
                                  obtain ⟨t185, A480, H⟩ := H
                                  try dsimp only at H
                                  have A48 := Aside0.mk A480
                                  clear A480
                                  obtain ⟨y186, hy186⟩ : ∃ y_ : List Int, y_ = (([a2, t185] : List Int)) := ⟨_, rfl⟩
                                  replace H : (storagebarterlaw14_MarkDoes.l1 k2 a2 a3 a4 a5 (rd_L3 y181 x84_2) y181 (y181.length : Int) x84_2 y186 (y186.length : Int) 0) = some r := by first | (rw [hy186]; with_reducible exact H) | (have H2_ := (Option.bind_some _ _).symm.trans H; rw [hy186]; with_reducible exact H2_) | (have H2_ := (Option.bind_some _ _).symm.trans H; with_reducible exact H2_) | with_reducible exact H | (rw [hy186]; exact H) | exact H
                                  have Ny186 := Aside0.mk hy186
                                  clear hy186
                                  have H' := Aside0.mk H
                                  clear H
                                  have p182 : 0 ≤ (x84_2 : Int) := of_decide_eq_true (by first | (with_reducible assumption) | assumption)
                                  have q182 : x84_2 < (y181.length : Int) := of_decide_eq_true (by first | (with_reducible assumption) | assumption)
                                  obtain ⟨ad182, A182_0, c182_0, e182, hx182_0, hl182_0, hi182_0⟩ := at_L3 HRlit.out x84_2 p182 q182
                                  obtain rfl : (⟨glit, 0, none⟩ : Addr) = ad182 := (by injection e182)
                                  (first | simp only [add_plain] at hx182_0 | simp only [add_at] at hx182_0 | simp only [Addr.add, Nat.zero_add] at hx182_0 | skip)
                                  replace hx182_0 := (HB.out.cell (World.block_lt_of_cell? w _ hx182_0)).trans hx182_0
                                  have HR182_0 := Aside0.mk hi182_0
                                  have HC182_0 := Aside0.mk hl182_0
                                  clear hi182_0 hl182_0
                                  replace p182 := eq_true p182
                                  replace q182 := eq_true q182
                                  go_wp2_with (first | ((with_reducible refine gate_callee (f := 11) rfl ?_); refine goesL_ (some 89) rfl rfl Try.func11 (by kernel_rfl) rfl #[.slice A182_0 (rd_L3 y181 x84_2).length c182_0] rfl (by (try simp only [List.map_toArray, List.map_cons, List.map_nil]); first | done | rfl | (simp only [List.length_drop, List.length_take]; rfl)) ?_; (with_reducible refine (mark_Check.calls _ _ (rd_L3 y181 x84_2) t183 _ ?side1 ?side2 A45.out).mono ?_); (case side1 => repeat (first | exact (Kd.C_below HR182_0.out HB.out) | (with_reducible refine Kd.C_alloc ?_ _) | (with_reducible refine Kd.C_drewN ?_ _) | (with_reducible refine Kd.C_drew ?_))); (case side2 => exact HC182_0.out); rintro e w49 ⟨rfl, hb⟩; refine ⟨_, rfl, ?_⟩; have n0_ := Aside0.mk (below_step (by repeat (first | (with_reducible first | exact HB.out | apply below_alloc | apply pw_below_drewN | apply below_drew1) | exact HB.out)) hb); clear HB; have HB := n0_; clear n0_; (try clear hb); (try clear hb2); (try clear hk); (try clear hi)) | ((with_reducible refine gate_callee (f := 12) rfl ?_); refine goesL_ (some 91) rfl rfl Try.func12 (by kernel_rfl) rfl #[.slice A182_0 (rd_L3 y181 x84_2).length c182_0] rfl (by (try simp only [List.map_toArray, List.map_cons, List.map_nil]); first | done | rfl | (simp only [List.length_drop, List.length_take]; rfl)) ?_; (with_reducible refine (storagebarterref14_Check.calls k2 _ _ (rd_L3 y181 x84_2) t184 _ ?side1 ?side2 A46.out).mono ?_); (case side1 => repeat (first | exact (Kd.C_below HR182_0.out HB.out) | (with_reducible refine Kd.C_alloc ?_ _) | (with_reducible refine Kd.C_drewN ?_ _) | (with_reducible refine Kd.C_drew ?_))); (case side2 => exact HC182_0.out); rintro e w50 ⟨rfl, hb⟩; refine ⟨_, rfl, ?_⟩; have n0_ := Aside0.mk (below_step (by repeat (first | (with_reducible first | exact HB.out | apply below_alloc | apply pw_below_drewN | apply below_drew1) | exact HB.out)) hb); clear HB; have HB := n0_; clear n0_; (try clear hb); (try clear hb2); (try clear hk); (try clear hi)) | ((with_reducible refine gate_callee (f := 13) rfl ?_); refine goesL_ (some 95) rfl rfl Try.func13 (by kernel_rfl) rfl #[.int .i64 a2, .int .i64 6] rfl (by (try simp only [List.map_toArray, List.map_cons, List.map_nil]); first | done | rfl | (simp only [List.length_drop, List.length_take]; rfl)) ?_; (with_reducible refine (storagebartermake_Mod.calls a2 6 t185 _ A48.out).mono ?_); rintro e w' ⟨rfl, ⟨nd, rfl⟩⟩; refine ⟨_, rfl, ?_⟩; (try (rw [drewN_self w50]; generalize hq_ : World.drewN w50 _ = w50; have n0_ : Aside0 (Below w.heap.size w w50) := ⟨by rw [← hq_]; exact (by repeat (first | (with_reducible first | exact HB.out | apply below_alloc | apply pw_below_drewN | apply below_drew1) | exact HB.out))⟩; clear HB hq_; have HB := n0_; clear n0_))) | ((with_reducible refine gate_dst (N := 96) rfl ?_); (try (refine gate_guard (by rfl) ?_; dsimp only)); refine Kd.R_lit (Kd.int .i64) _ 3 ?hg (N := 96) ?hd (xs := ([a2, t185] : List Int)) (inner := [.int .i64 a2, .int .i64 t185]) (ok := fun _ => True) (okp := fun _ => True) ?hr ?hp (fun _ hk => hk) trivial (Below.refl _ _) (Nat.le_refl _) (by simp) ?_; (case hd => rfl); (case hg => rfl); (case hr => first | (go_simp; done) | (go_simp; rfl)); (case hp => exact (Reps.one (show Kd.M (Kd.int .i64) _ _ _ a2 [.int .i64 a2] from rfl) (Reps.one (show Kd.M (Kd.int .i64) _ _ _ t185 [.int .i64 t185] from rfl) (Reps.none _ _)))); intro v187 w51 ho52 hb hg_ hnew_; clear hg_ hnew_; (first | rw [← Ny186.out] at ho52 | (simp only [Int.reduceToNat] at ho52; rw [← Ny186.out] at ho52)); have n0_ := Aside0.mk (Kd.R_lower ho52 (below_size (by repeat (first | (with_reducible first | exact HB.out | apply below_alloc | apply pw_below_drewN | apply below_drew1) | exact HB.out)))); have n1_ := Aside0.mk (below_step (by repeat (first | (with_reducible first | exact HB.out | apply below_alloc | apply pw_below_drewN | apply below_drew1) | exact HB.out)) hb); clear HB; have HO188 := n0_; have HB := n1_; clear n0_ n1_; clear hb ho52; obtain ⟨Ao53, co53, eo53⟩ := Kd.R_slice HO188.out; subst eo53))
                                  go_loopg [98] k2 (fun kq v98 w' => ∃ (x98_3 : Int), v98 = .int .i64 x98_3 ∧ Aside0 (storagebarterlaw14_MarkDoes.l1 kq a2 a3 a4 a5 (rd_L3 y181 x84_2) y181 (y181.length : Int) x84_2 y186 (y186.length : Int) x98_3 = some r) ∧ Aside0 (kq ≤ k2) ∧ Aside0 (Kd.R (Kd.int .i64) 3 w' w.heap.size (fun _ => True) (.slice Ao53 y186.length co53) y186) ∧ Aside0 (Below w.heap.size w w'))
                                  case atStart => exact ⟨(0), (by first | rfl | (simp; done) | (simp [*]; done)), H', ⟨Nat.le_refl _⟩, ⟨by (with_reducible repeat (first | apply Kd.R_alloc | apply Kd.R_drewN | apply Kd.R_drew)); exact HO188.out⟩, ⟨by repeat (first | (with_reducible first | exact HB.out | apply below_alloc | apply pw_below_drewN | apply below_drew1) | exact HB.out)⟩⟩
                                  case round =>
                                    clear H'
                                    try clear c1
                                    try clear p1
                                    try clear q1
                                    try clear hx1
                                    try clear qi1
                                    try clear c2
                                    try clear p2
                                    try clear q2
                                    try clear hx2
                                    try clear c3
                                    try clear hx3
                                    try clear c4
                                    try clear c6
                                    try clear p6
                                    try clear c7
                                    try clear c8
                                    try clear c9
                                    try clear c10
                                    try clear c11
                                    try clear c12
                                    try clear c13
                                    try clear c13b0
                                    try clear c13b1
                                    try clear c14
                                    try clear p17
                                    try clear q17
                                    try clear hx17
                                    try clear qi17
                                    try clear c18
                                    try clear p18
                                    try clear q18
                                    try clear hx18
                                    try clear c20
                                    try clear c20b0
                                    try clear c21
                                    try clear c21b0
                                    try clear c22
                                    try clear p22
                                    try clear q22
                                    try clear hx22
                                    try clear hf22
                                    try clear c24
                                    try clear c24b0
                                    try clear c24b1
                                    try clear c25
                                    try clear c25b0
                                    try clear c26
                                    try clear c26b0
                                    try clear c27
                                    try clear p27
                                    try clear q27
                                    try clear hx27
                                    try clear hf27
                                    try clear c35
                                    try clear hx35
                                    try clear hf35
                                    try clear c41
                                    try clear c42
                                    try clear c42b0
                                    try clear c43
                                    try clear c43b0
                                    try clear c44
                                    try clear c44b0
                                    try clear c47
                                    try clear c47b0
                                    try clear c47b1
                                    try clear hx179_0
                                    try clear hx179_1
                                    try clear hx182_0
                                    try clear hx22_0
                                    try clear hx22_1
                                    try clear hx27_0
                                    try clear hx27_1
                                    try clear hx35_1
                                    try clear p1
                                    try clear p17
                                    try clear p179
                                    try clear p182
                                    try clear p2
                                    try clear p22
                                    try clear p27
                                    try clear p6
                                    try clear q1
                                    try clear q17
                                    try clear q179
                                    try clear q182
                                    try clear q2
                                    try clear q22
                                    try clear q27
                                    obtain ⟨x98_3, rfl, HA, HK3, HO_96, HB⟩ := hrel
                                    cases gk with
                                    | zero => exact absurd HA.out (by simp [storagebarterlaw14_MarkDoes.l1])
                                    | succ k3 =>
                                      have H := HA.out
                                      clear HA
                                      simp only [storagebarterlaw14_MarkDoes.l1] at H
                                      by_cases c54 : x98_3 < (y186.length : Int)
                                      · rw [if_pos c54] at H
                                        have c54b0 : decide (x98_3 < (y186.length : Int)) = true := decide_eq_true c54
                                        clear c54
                                        by_cases c55 : 0 ≤ x98_3
                                        · rw [if_pos c55] at H
                                          have c55b0 : decide (0 ≤ x98_3) = true := decide_eq_true c55
                                          clear c55
                                          by_cases c56 : x98_3 < (y186.length : Int)
                                          · rw [if_pos c56] at H
                                            have c56b0 : decide (x98_3 < (y186.length : Int)) = true := decide_eq_true c56
                                            clear c56
                                            replace H := Option.bind_eq_some_iff.mp H
                                            obtain ⟨⟨t190, t191, t192⟩, A570, H⟩ := H
                                            try dsimp only at H
                                            have A57 := Aside0.mk A570
                                            clear A570
                                            replace H := Option.bind_eq_some_iff.mp H
                                            obtain ⟨⟨t194, t195, t196⟩, A580, H⟩ := H
                                            try dsimp only at H
                                            have A58 := Aside0.mk A580
                                            clear A580
                                            replace H := Option.bind_eq_some_iff.mp H
                                            obtain ⟨⟨t198, t199⟩, A590, H⟩ := H
                                            try dsimp only at H
                                            have A59 := Aside0.mk A590
                                            clear A590
                                            by_cases c60 : (!(t190 == t194) || (!(t191 == t195))) = true
                                            · rw [if_pos c60] at H
                                              exact absurd (H.trans (congrArg some RT_.out)) (by simp)
                                            · rw [if_neg c60] at H
                                              have c60b0 : (!(t190 == t194) || (!(t191 == t195))) = false := by simpa using c60
                                              clear c60
                                              by_cases c61 : (t192 != t196) = true
                                              · rw [if_pos c61] at H
                                                exact absurd (H.trans (congrArg some RT_.out)) (by simp)
                                              · rw [if_neg c61] at H
                                                have c61b0 : (t192 != t196) = false := by simpa using c61
                                                (try (have c61b1 : decide (t192 = t196) = true := by simpa using c61))
                                                (try (have c61b2 : (t192 == t196) = true := by simpa using c61))
                                                clear c61
                                                replace H := Option.bind_eq_some_iff.mp H
                                                obtain ⟨t200, A620, H⟩ := H
                                                try dsimp only at H
                                                have A62 := Aside0.mk A620
                                                clear A620
                                                replace H := Option.bind_eq_some_iff.mp H
                                                obtain ⟨t201, A630, H⟩ := H
                                                try dsimp only at H
                                                have A63 := Aside0.mk A630
                                                clear A630
                                                by_cases c64 : (t200 != t201) = true
                                                · rw [if_pos c64] at H
                                                  exact absurd (H.trans (congrArg some RT_.out)) (by simp)
                                                · rw [if_neg c64] at H
                                                  have c64b0 : (t200 != t201) = false := by simpa using c64
                                                  (try (have c64b1 : decide (t200 = t201) = true := by simpa using c64))
                                                  (try (have c64b2 : (t200 == t201) = true := by simpa using c64))
                                                  clear c64
                                                  replace H := Option.bind_eq_some_iff.mp H
                                                  obtain ⟨t202, A650, H⟩ := H
                                                  try dsimp only at H
                                                  have A65 := Aside0.mk A650
                                                  clear A650
                                                  replace H := Option.bind_eq_some_iff.mp H
                                                  obtain ⟨t203, A660, H⟩ := H
                                                  try dsimp only at H
                                                  have A66 := Aside0.mk A660
                                                  clear A660
                                                  by_cases c67 : (t202 != t203) = true
                                                  · rw [if_pos c67] at H
                                                    exact absurd (H.trans (congrArg some RT_.out)) (by simp)
                                                  · rw [if_neg c67] at H
                                                    have c67b0 : (t202 != t203) = false := by simpa using c67
                                                    (try (have c67b1 : decide (t202 = t203) = true := by simpa using c67))
                                                    (try (have c67b2 : (t202 == t203) = true := by simpa using c67))
                                                    clear c67
                                                    have H' := Aside0.mk H
                                                    clear H
                                                    have p189 : 0 ≤ (x98_3 : Int) := of_decide_eq_true (by first | (with_reducible assumption) | assumption)
                                                    have q189 : x98_3 < (y186.length : Int) := of_decide_eq_true (by first | (with_reducible assumption) | assumption)
                                                    obtain ⟨ad189, e189, hx189_0⟩ := Kd.at_int (Kd.R_reads' HO_96.out).2.2 x98_3 p189 q189
                                                    cases e189
                                                    replace p189 := eq_true p189
                                                    replace q189 := eq_true q189
                                                    go_wp2_with (first | ((with_reducible refine gate_callee (f := 14) rfl ?_); refine goesL_ (some 105) rfl rfl Try.func14 (by kernel_rfl) rfl #[.slice A182_0 (rd_L3 y181 x84_2).length c182_0, .int .i64 (rd y186 x98_3)] rfl (by (try simp only [List.map_toArray, List.map_cons, List.map_nil]); first | done | rfl | (simp only [List.length_drop, List.length_take]; rfl)) ?_; (with_reducible refine (mark_Find.calls _ _ (rd_L3 y181 x84_2) (rd y186 x98_3) t190 t191 t192 _ ?side1 ?side2 A57.out).mono ?_); (case side1 => repeat (first | exact (Kd.C_below HR182_0.out HB.out) | (with_reducible refine Kd.C_alloc ?_ _) | (with_reducible refine Kd.C_drewN ?_ _) | (with_reducible refine Kd.C_drew ?_))); (case side2 => exact HC182_0.out); rintro e w68 ⟨rfl, hb⟩; refine ⟨_, rfl, ?_⟩; have n0_ := Aside0.mk (Kd.R_below (by (with_reducible repeat (first | apply Kd.R_alloc | apply Kd.R_drewN | apply Kd.R_drew)); exact HO_96.out) hb); have n1_ := Aside0.mk (below_step (by repeat (first | (with_reducible first | exact HB.out | apply below_alloc | apply pw_below_drewN | apply below_drew1) | exact HB.out)) hb); clear HO_96; clear HB; have HO_96 := n0_; have HB := n1_; clear n0_ n1_; (try clear hb); (try clear hb2); (try clear hk); (try clear hi)) | ((with_reducible refine gate_dst (N := 21) rfl ?_); (try (refine gate_guard (by rfl) ?_; dsimp only)); refine box_event ?hg (N := 21) ?hd (cs := #[.int .i64 0, .int .i64 0]) (t := 31) ?hr ?_; (case hd => rfl); (case hg => rfl); (case hr => first | (go_simp; done) | (go_simp; rfl)); intro gb193 hg w69 hbox hb; have n0_ := Aside0.mk (Kd.R_below (by (with_reducible repeat (first | apply Kd.R_alloc | apply Kd.R_drewN | apply Kd.R_drew)); exact HO_96.out) hb); have n1_ := Aside0.mk (below_step (by repeat (first | (with_reducible first | exact HB.out | apply below_alloc | apply pw_below_drewN | apply below_drew1) | exact HB.out)) hb); have n2_ := Aside0.mk (hbox); have n3_ := Aside0.mk ((by rw [hg]; exact (below_size (by repeat (first | (with_reducible first | exact HB.out | apply below_alloc | apply pw_below_drewN | apply below_drew1) | exact HB.out))) : w.heap.size ≤ gb193)); have n4_ := Aside0.mk ((by rw [hg]; exact (below_size (by repeat (first | (with_reducible first | exact HB.out | apply below_alloc | apply pw_below_drewN | apply below_drew1) | exact HB.out))) : w.heap.size ≤ gb193)); clear HO_96; clear HB; have HO_96 := n0_; have HB := n1_; have BK193 := n2_; have GW193 := n3_; have GE193 := n4_; clear n0_ n1_ n2_ n3_ n4_; clear hb hbox hg; have hcz70_0 : w69.cell? ⟨gb193, 0, none⟩ = some (.int .i64 0) := (blk_cell BK193.out 0).trans rfl; have hcz70_1 : w69.cell? ⟨gb193, 1, none⟩ = some (.int .i64 0) := (blk_cell BK193.out 1).trans rfl; have hfz70_0 := blk_frozen BK193.out 0; have hfz70_1 := blk_frozen BK193.out 1) | ((with_reducible refine gate_callee (f := 15) rfl ?_); refine goesL_ (some 111) rfl rfl Try.func15 (by kernel_rfl) rfl #[.slice A182_0 (rd_L3 y181 x84_2).length c182_0, .int .i64 (rd y186 x98_3)] rfl (by (try simp only [List.map_toArray, List.map_cons, List.map_nil]); first | done | rfl | (simp only [List.length_drop, List.length_take]; rfl)) ?_; (with_reducible refine (storagebarterref14_Find.calls k3 _ _ (rd_L3 y181 x84_2) (rd y186 x98_3) t194 t195 t196 _ ?side1 ?side2 A58.out).mono ?_); (case side1 => exact Kd.C_below HR182_0.out (by repeat (first | (with_reducible first | exact HB.out | apply below_alloc | apply pw_below_drewN | apply below_drew1 | refine below_set ?_ GE193.out) | exact HB.out))); (case side2 => exact HC182_0.out); rintro e w71 ⟨rfl, hb⟩; refine ⟨_, rfl, ?_⟩; have n0_ := Aside0.mk (Kd.R_below (by (with_reducible repeat (first | apply Kd.R_alloc | apply Kd.R_drewN | apply Kd.R_drew)); exact (Kd.R_mono (Kd.R_far (p := ⟨gb193, 1, none⟩) (Kd.R_far (p := ⟨gb193, 0, none⟩) (Kd.R_types HO_96.out BK193.out (by decide)) (fun _ hk => hk.2) (.int .i64 t190)) (fun _ hk => hk.2) (.int .i64 t191)) (fun _ h_ => h_.1))) hb); have n1_ := Aside0.mk (blk_below (g := gb193) (o := .cells #[.int .i64 t190, .int .i64 t191] 31 (0, 0)) (by (with_reducible repeat (first | refine blk_drewN ?_ _ | refine blk_drew ?_ | refine blk_alloc ?_ _)); refine blk_put (cs := #[.int .i64 t190, .int .i64 0]) ?_ 1 _ rfl; (with_reducible repeat (first | refine blk_drewN ?_ _ | refine blk_drew ?_ | refine blk_alloc ?_ _)); refine blk_put (cs := #[.int .i64 0, .int .i64 0]) ?_ 0 _ rfl; (with_reducible repeat (first | refine blk_drewN ?_ _ | refine blk_drew ?_ | refine blk_alloc ?_ _)); exact BK193.out) hb); have n2_ := Aside0.mk (below_step (by repeat (first | (with_reducible first | exact HB.out | apply below_alloc | apply pw_below_drewN | apply below_drew1 | refine below_set ?_ GE193.out) | exact HB.out)) hb); clear HO_96; clear BK193; clear HB; have HO_96 := n0_; have BK193 := n1_; have HB := n2_; clear n0_ n1_ n2_; (try clear hb); (try clear hb2); (try clear hk); (try clear hi)) | ((with_reducible refine gate_dst (N := 23) rfl ?_); (try (refine gate_guard (by rfl) ?_; dsimp only)); refine box_event ?hg (N := 23) ?hd (cs := #[.int .i64 0, .int .i64 0]) (t := 31) ?hr ?_; (case hd => rfl); (case hg => rfl); (case hr => first | (go_simp; done) | (go_simp; rfl)); intro gb197 hg w72 hbox hb; have n0_ := Aside0.mk (Kd.R_below (by (with_reducible repeat (first | apply Kd.R_alloc | apply Kd.R_drewN | apply Kd.R_drew)); exact HO_96.out) hb); have n1_ := Aside0.mk (blk_below (g := gb193) (o := .cells #[.int .i64 t190, .int .i64 t191] 31 (0, 0)) (by (with_reducible repeat (first | refine blk_drewN ?_ _ | refine blk_drew ?_ | refine blk_alloc ?_ _)); exact BK193.out) hb); have n2_ := Aside0.mk (below_step (by repeat (first | (with_reducible first | exact HB.out | apply below_alloc | apply pw_below_drewN | apply below_drew1 | refine below_set ?_ GE193.out) | exact HB.out)) hb); have n3_ := Aside0.mk (hbox); have n4_ := Aside0.mk ((by rw [hg]; exact (below_size (by repeat (first | (with_reducible first | exact HB.out | apply below_alloc | apply pw_below_drewN | apply below_drew1 | refine below_set ?_ GE193.out) | exact HB.out))) : w.heap.size ≤ gb197)); have n5_ := Aside0.mk ((by rw [hg]; exact (below_size (by repeat (first | (with_reducible first | exact HB.out | apply below_alloc | apply pw_below_drewN | apply below_drew1 | refine below_set ?_ GE193.out) | exact HB.out))) : w.heap.size ≤ gb197)); have n6_ := Aside0.mk ((by rw [hg]; exact Nat.ne_of_lt (blk_lt (g := gb193) (o := .cells #[.int .i64 t190, .int .i64 t191] 31 (0, 0)) (by (with_reducible repeat (first | refine blk_drewN ?_ _ | refine blk_drew ?_ | refine blk_alloc ?_ _)); exact BK193.out)) : gb193 ≠ gb197)); have n7_ := Aside0.mk ((by rw [hg]; exact Nat.ne_of_gt (blk_lt (g := gb193) (o := .cells #[.int .i64 t190, .int .i64 t191] 31 (0, 0)) (by (with_reducible repeat (first | refine blk_drewN ?_ _ | refine blk_drew ?_ | refine blk_alloc ?_ _)); exact BK193.out)) : gb197 ≠ gb193)); clear HO_96; clear BK193; clear HB; have HO_96 := n0_; have BK193 := n1_; have HB := n2_; have BK197 := n3_; have GW197 := n4_; have GE197 := n5_; have NB193_197 := n6_; have NB197_193 := n7_; clear n0_ n1_ n2_ n3_ n4_ n5_ n6_ n7_; clear hb hbox hg; have hnb73 := NB197_193.out; have hnc73 := NB193_197.out; have hcz74_0 : w72.cell? ⟨gb197, 0, none⟩ = some (.int .i64 0) := (blk_cell BK197.out 0).trans rfl; have hcz74_1 : w72.cell? ⟨gb197, 1, none⟩ = some (.int .i64 0) := (blk_cell BK197.out 1).trans rfl; have hfz74_0 := blk_frozen BK197.out 0; have hfz74_1 := blk_frozen BK197.out 1) | ((with_reducible refine gate_callee (f := 16) rfl ?_); refine goesL_ (some 118) rfl rfl Try.func16 (by kernel_rfl) rfl #[.int .i64 t195, .string a5] rfl (by (try simp only [List.map_toArray, List.map_cons, List.map_nil]); first | done | rfl | (simp only [List.length_drop, List.length_take]; rfl)) ?_; (with_reducible refine (storagebarterref14_Sign.calls k3 t195 a5 t198 t199 _ A59.out).mono ?_); rintro e w75 ⟨rfl, hb⟩; refine ⟨_, rfl, ?_⟩; have n0_ := Aside0.mk (Kd.R_below (by (with_reducible repeat (first | apply Kd.R_alloc | apply Kd.R_drewN | apply Kd.R_drew)); exact (Kd.R_mono (Kd.R_far (p := ⟨gb197, 1, none⟩) (Kd.R_far (p := ⟨gb197, 0, none⟩) (Kd.R_types HO_96.out BK197.out (by decide)) (fun _ hk => hk.2) (.int .i64 t194)) (fun _ hk => hk.2) (.int .i64 t195)) (fun _ h_ => h_.1))) hb); have n1_ := Aside0.mk (blk_below (g := gb193) (o := .cells #[.int .i64 t190, .int .i64 t191] 31 (0, 0)) (by (with_reducible repeat (first | refine blk_drewN ?_ _ | refine blk_drew ?_ | refine blk_alloc ?_ _)); refine blk_far ?_ NB193_197.out _; (with_reducible repeat (first | refine blk_drewN ?_ _ | refine blk_drew ?_ | refine blk_alloc ?_ _)); refine blk_far ?_ NB193_197.out _; (with_reducible repeat (first | refine blk_drewN ?_ _ | refine blk_drew ?_ | refine blk_alloc ?_ _)); exact BK193.out) hb); have n2_ := Aside0.mk (blk_below (g := gb197) (o := .cells #[.int .i64 t194, .int .i64 t195] 31 (0, 0)) (by (with_reducible repeat (first | refine blk_drewN ?_ _ | refine blk_drew ?_ | refine blk_alloc ?_ _)); refine blk_put (cs := #[.int .i64 t194, .int .i64 0]) ?_ 1 _ rfl; (with_reducible repeat (first | refine blk_drewN ?_ _ | refine blk_drew ?_ | refine blk_alloc ?_ _)); refine blk_put (cs := #[.int .i64 0, .int .i64 0]) ?_ 0 _ rfl; (with_reducible repeat (first | refine blk_drewN ?_ _ | refine blk_drew ?_ | refine blk_alloc ?_ _)); exact BK197.out) hb); have n3_ := Aside0.mk (below_step (by repeat (first | (with_reducible first | exact HB.out | apply below_alloc | apply pw_below_drewN | apply below_drew1 | refine below_set ?_ GE193.out | refine below_set ?_ GE197.out) | exact HB.out)) hb); clear HO_96; clear BK193; clear BK197; clear HB; have HO_96 := n0_; have BK193 := n1_; have BK197 := n2_; have HB := n3_; clear n0_ n1_ n2_ n3_; (try clear hb); (try clear hb2); (try clear hk); (try clear hi); have hcz76_0 : w75.cell? ⟨gb193, 0, none⟩ = some (.int .i64 t190) := (blk_cell BK193.out 0).trans rfl; have hcz76_1 : w75.cell? ⟨gb193, 1, none⟩ = some (.int .i64 t191) := (blk_cell BK193.out 1).trans rfl; have hfz76_0 := blk_frozen BK193.out 0; have hfz76_1 := blk_frozen BK193.out 1; have hcz77_0 : w75.cell? ⟨gb197, 0, none⟩ = some (.int .i64 t194) := (blk_cell BK197.out 0).trans rfl; have hcz77_1 : w75.cell? ⟨gb197, 1, none⟩ = some (.int .i64 t195) := (blk_cell BK197.out 1).trans rfl; have hfz77_0 := blk_frozen BK197.out 0; have hfz77_1 := blk_frozen BK197.out 1) | (go_at_call 17; (with_reducible refine (mark_Verify.calls k3 _ _ (rd_L3 y181 x84_2) (rd y186 x98_3) a5 a4 t200 _ ?side1 ?side2 A62.out).mono ?_); (case side1 => repeat (first | exact (Kd.C_below HR182_0.out HB.out) | (with_reducible refine Kd.C_alloc ?_ _) | (with_reducible refine Kd.C_drewN ?_ _) | (with_reducible refine Kd.C_drew ?_))); (case side2 => exact HC182_0.out); rintro e w78 ⟨rfl, hb⟩; have n0_ := Aside0.mk (Kd.R_below (by (with_reducible repeat (first | apply Kd.R_alloc | apply Kd.R_drewN | apply Kd.R_drew)); exact HO_96.out) hb); have n1_ := Aside0.mk (blk_below (g := gb193) (o := .cells #[.int .i64 t190, .int .i64 t191] 31 (0, 0)) (by (with_reducible repeat (first | refine blk_drewN ?_ _ | refine blk_drew ?_ | refine blk_alloc ?_ _)); exact BK193.out) hb); have n2_ := Aside0.mk (blk_below (g := gb197) (o := .cells #[.int .i64 t194, .int .i64 t195] 31 (0, 0)) (by (with_reducible repeat (first | refine blk_drewN ?_ _ | refine blk_drew ?_ | refine blk_alloc ?_ _)); exact BK197.out) hb); have n3_ := Aside0.mk (below_step (by repeat (first | (with_reducible first | exact HB.out | apply below_alloc | apply pw_below_drewN | apply below_drew1 | refine below_set ?_ GE193.out | refine below_set ?_ GE197.out) | exact HB.out)) hb); clear HO_96; clear BK193; clear BK197; clear HB; have HO_96 := n0_; have BK193 := n1_; have BK197 := n2_; have HB := n3_; clear n0_ n1_ n2_ n3_; (try clear hb); (try clear hb2); (try clear hk); (try clear hi)) | (go_at_call 18; (with_reducible refine (storagebarterref14_Verify.calls k3 _ _ (rd_L3 y181 x84_2) (rd y186 x98_3) a5 a4 t201 _ ?side1 ?side2 A63.out).mono ?_); (case side1 => repeat (first | exact (Kd.C_below HR182_0.out HB.out) | (with_reducible refine Kd.C_alloc ?_ _) | (with_reducible refine Kd.C_drewN ?_ _) | (with_reducible refine Kd.C_drew ?_))); (case side2 => exact HC182_0.out); rintro e w79 ⟨rfl, hb⟩; have n0_ := Aside0.mk (Kd.R_below (by (with_reducible repeat (first | apply Kd.R_alloc | apply Kd.R_drewN | apply Kd.R_drew)); exact HO_96.out) hb); have n1_ := Aside0.mk (blk_below (g := gb193) (o := .cells #[.int .i64 t190, .int .i64 t191] 31 (0, 0)) (by (with_reducible repeat (first | refine blk_drewN ?_ _ | refine blk_drew ?_ | refine blk_alloc ?_ _)); exact BK193.out) hb); have n2_ := Aside0.mk (blk_below (g := gb197) (o := .cells #[.int .i64 t194, .int .i64 t195] 31 (0, 0)) (by (with_reducible repeat (first | refine blk_drewN ?_ _ | refine blk_drew ?_ | refine blk_alloc ?_ _)); exact BK197.out) hb); have n3_ := Aside0.mk (below_step (by repeat (first | (with_reducible first | exact HB.out | apply below_alloc | apply pw_below_drewN | apply below_drew1 | refine below_set ?_ GE193.out | refine below_set ?_ GE197.out) | exact HB.out)) hb); clear HO_96; clear BK193; clear BK197; clear HB; have HO_96 := n0_; have BK193 := n1_; have BK197 := n2_; have HB := n3_; clear n0_ n1_ n2_ n3_; (try clear hb); (try clear hb2); (try clear hk); (try clear hi)) | (go_at_call 17; (with_reducible refine (mark_Verify.calls k3 _ _ (rd_L3 y181 x84_2) (rd y186 x98_3) a5 t198 t202 _ ?side1 ?side2 A65.out).mono ?_); (case side1 => repeat (first | exact (Kd.C_below HR182_0.out HB.out) | (with_reducible refine Kd.C_alloc ?_ _) | (with_reducible refine Kd.C_drewN ?_ _) | (with_reducible refine Kd.C_drew ?_))); (case side2 => exact HC182_0.out); rintro e w80 ⟨rfl, hb⟩; have n0_ := Aside0.mk (Kd.R_below (by (with_reducible repeat (first | apply Kd.R_alloc | apply Kd.R_drewN | apply Kd.R_drew)); exact HO_96.out) hb); have n1_ := Aside0.mk (blk_below (g := gb193) (o := .cells #[.int .i64 t190, .int .i64 t191] 31 (0, 0)) (by (with_reducible repeat (first | refine blk_drewN ?_ _ | refine blk_drew ?_ | refine blk_alloc ?_ _)); exact BK193.out) hb); have n2_ := Aside0.mk (blk_below (g := gb197) (o := .cells #[.int .i64 t194, .int .i64 t195] 31 (0, 0)) (by (with_reducible repeat (first | refine blk_drewN ?_ _ | refine blk_drew ?_ | refine blk_alloc ?_ _)); exact BK197.out) hb); have n3_ := Aside0.mk (below_step (by repeat (first | (with_reducible first | exact HB.out | apply below_alloc | apply pw_below_drewN | apply below_drew1 | refine below_set ?_ GE193.out | refine below_set ?_ GE197.out) | exact HB.out)) hb); clear HO_96; clear BK193; clear BK197; clear HB; have HO_96 := n0_; have BK193 := n1_; have BK197 := n2_; have HB := n3_; clear n0_ n1_ n2_ n3_; (try clear hb); (try clear hb2); (try clear hk); (try clear hi)) | (go_at_call 18; (with_reducible refine (storagebarterref14_Verify.calls k3 _ _ (rd_L3 y181 x84_2) (rd y186 x98_3) a5 t198 t203 _ ?side1 ?side2 A66.out).mono ?_); (case side1 => repeat (first | exact (Kd.C_below HR182_0.out HB.out) | (with_reducible refine Kd.C_alloc ?_ _) | (with_reducible refine Kd.C_drewN ?_ _) | (with_reducible refine Kd.C_drew ?_))); (case side2 => exact HC182_0.out); rintro e w81 ⟨rfl, hb⟩; have n0_ := Aside0.mk (Kd.R_below (by (with_reducible repeat (first | apply Kd.R_alloc | apply Kd.R_drewN | apply Kd.R_drew)); exact HO_96.out) hb); have n1_ := Aside0.mk (blk_below (g := gb193) (o := .cells #[.int .i64 t190, .int .i64 t191] 31 (0, 0)) (by (with_reducible repeat (first | refine blk_drewN ?_ _ | refine blk_drew ?_ | refine blk_alloc ?_ _)); exact BK193.out) hb); have n2_ := Aside0.mk (blk_below (g := gb197) (o := .cells #[.int .i64 t194, .int .i64 t195] 31 (0, 0)) (by (with_reducible repeat (first | refine blk_drewN ?_ _ | refine blk_drew ?_ | refine blk_alloc ?_ _)); exact BK197.out) hb); have n3_ := Aside0.mk (below_step (by repeat (first | (with_reducible first | exact HB.out | apply below_alloc | apply pw_below_drewN | apply below_drew1 | refine below_set ?_ GE193.out | refine below_set ?_ GE197.out) | exact HB.out)) hb); clear HO_96; clear BK193; clear BK197; clear HB; have HO_96 := n0_; have BK193 := n1_; have BK197 := n2_; have HB := n3_; clear n0_ n1_ n2_ n3_; (try clear hb); (try clear hb2); (try clear hk); (try clear hi)))
                                                    go_roundg k3
                                                    case measure => have := HJ8.out; have := HK2.out; have := HK3.out; omega
                                                    case rel => exact ⟨(wrap64 (x98_3 + 1)), (by first | rfl | (simp; done) | (simp [*]; done)), H', ⟨by have := HJ8.out; have := HK2.out; have := HK3.out; omega⟩, ⟨by (with_reducible repeat (first | apply Kd.R_alloc | apply Kd.R_drewN | apply Kd.R_drew)); exact HO_96.out⟩, ⟨by repeat (first | (with_reducible first | exact HB.out | apply below_alloc | apply pw_below_drewN | apply below_drew1 | refine below_set ?_ GE193.out | refine below_set ?_ GE197.out) | exact HB.out)⟩⟩
                                          · rw [if_neg c56] at H
                                            exact absurd H (by simp)
                                        · rw [if_neg c55] at H
                                          exact absurd H (by simp)
                                      · rw [if_neg c54] at H
                                        have c54b0 : decide (x98_3 < (y186.length : Int)) = false := decide_eq_false c54
                                        clear c54
                                        have H' := Aside0.mk H
                                        clear H
                                        go_wp2
                                        go_roundg k3
                                        case measure => have := HJ8.out; have := HK2.out; have := HK3.out; omega
                                        case rel => exact ⟨(wrap64 (x84_2 + 1)), (by first | rfl | (simp; done) | (simp [*]; done)), H', ⟨by have := HJ8.out; have := HK2.out; have := HK3.out; omega⟩, ⟨by repeat (first | (with_reducible first | exact HB.out | apply below_alloc | apply pw_below_drewN | apply below_drew1) | exact HB.out)⟩⟩
                                · rw [if_neg c47] at H
                                  exact absurd (H.trans (congrArg some RT_.out)) (by simp)
                              · rw [if_neg c44] at H
                                exact absurd H (by simp)
                            · rw [if_neg c43] at H
                              exact absurd H (by simp)
                          · rw [if_neg c42] at H
                            have c42b0 : decide (x84_2 < (y181.length : Int)) = false := decide_eq_false c42
                            clear c42
                            replace H := Option.bind_eq_some_iff.mp H
                            obtain ⟨t204, A820, H⟩ := H
                            try dsimp only at H
                            have A82 := Aside0.mk A820
                            clear A820
                            obtain ⟨y205, hy205⟩ : ∃ y_ : List Int, y_ = (([a3, wrap64 (1 + t204)] : List Int)) := ⟨_, rfl⟩
                            replace H : (storagebarterlaw14_MarkDoes.l2 k2 a5 y205 (y205.length : Int) 0) = some r := by first | (rw [hy205]; with_reducible exact H) | (have H2_ := (Option.bind_some _ _).symm.trans H; rw [hy205]; with_reducible exact H2_) | (have H2_ := (Option.bind_some _ _).symm.trans H; with_reducible exact H2_) | with_reducible exact H | (rw [hy205]; exact H) | exact H
                            have Ny205 := Aside0.mk hy205
                            clear hy205
                            have H' := Aside0.mk H
                            clear H
                            go_wp2_with (first | ((with_reducible refine gate_callee (f := 13) rfl ?_); refine goesL_ (some 159) rfl rfl Try.func13 (by kernel_rfl) rfl #[.int .i64 a3, .int .i64 99] rfl (by (try simp only [List.map_toArray, List.map_cons, List.map_nil]); first | done | rfl | (simp only [List.length_drop, List.length_take]; rfl)) ?_; (with_reducible refine (storagebartermake_Mod.calls a3 99 t204 _ A82.out).mono ?_); rintro e w' ⟨rfl, ⟨nd, rfl⟩⟩; refine ⟨_, rfl, ?_⟩; (try (rw [drewN_self wr]; generalize hq_ : World.drewN wr _ = wr; have n0_ : Aside0 (Below w.heap.size w wr) := ⟨by rw [← hq_]; exact (by repeat (first | (with_reducible first | exact HB.out | apply below_alloc | apply pw_below_drewN | apply below_drew1) | exact HB.out))⟩; clear HB hq_; have HB := n0_; clear n0_))) | ((with_reducible refine gate_dst (N := 161) rfl ?_); (try (refine gate_guard (by rfl) ?_; dsimp only)); refine Kd.R_lit (Kd.int .i64) _ 3 ?hg (N := 161) ?hd (xs := ([a3, wrap64 (1 + t204)] : List Int)) (inner := [.int .i64 a3, .int .i64 (wrap64 (1 + t204))]) (ok := fun _ => True) (okp := fun _ => True) ?hr ?hp (fun _ hk => hk) trivial (Below.refl _ _) (Nat.le_refl _) (by simp) ?_; (case hd => rfl); (case hg => rfl); (case hr => first | (go_simp; done) | (go_simp; rfl)); (case hp => exact (Reps.one (show Kd.M (Kd.int .i64) _ _ _ a3 [.int .i64 a3] from rfl) (Reps.one (show Kd.M (Kd.int .i64) _ _ _ (wrap64 (1 + t204)) [.int .i64 (wrap64 (1 + t204))] from rfl) (Reps.none _ _)))); intro v206 w83 ho84 hb hg_ hnew_; clear hg_ hnew_; (first | rw [← Ny205.out] at ho84 | (simp only [Int.reduceToNat] at ho84; rw [← Ny205.out] at ho84)); have n0_ := Aside0.mk (Kd.R_lower ho84 (below_size (by repeat (first | (with_reducible first | exact HB.out | apply below_alloc | apply pw_below_drewN | apply below_drew1) | exact HB.out)))); have n1_ := Aside0.mk (below_step (by repeat (first | (with_reducible first | exact HB.out | apply below_alloc | apply pw_below_drewN | apply below_drew1) | exact HB.out)) hb); clear HB; have HO207 := n0_; have HB := n1_; clear n0_ n1_; clear hb ho84; obtain ⟨Ao85, co85, eo85⟩ := Kd.R_slice HO207.out; subst eo85))
                            go_loopg [163] k2 (fun kq v163 w' => ∃ (x163_3 : Int), v163 = .int .i64 x163_3 ∧ Aside0 (storagebarterlaw14_MarkDoes.l2 kq a5 y205 (y205.length : Int) x163_3 = some r) ∧ Aside0 (kq ≤ k2) ∧ Aside0 (Kd.R (Kd.int .i64) 3 w' w.heap.size (fun _ => True) (.slice Ao85 y205.length co85) y205) ∧ Aside0 (Below w.heap.size w w'))
                            case atStart => exact ⟨(0), (by first | rfl | (simp; done) | (simp [*]; done)), H', ⟨Nat.le_refl _⟩, ⟨by (with_reducible repeat (first | apply Kd.R_alloc | apply Kd.R_drewN | apply Kd.R_drew)); exact HO207.out⟩, ⟨by repeat (first | (with_reducible first | exact HB.out | apply below_alloc | apply pw_below_drewN | apply below_drew1) | exact HB.out)⟩⟩
                            case round =>
                              clear H'
                              try clear c1
                              try clear p1
                              try clear q1
                              try clear hx1
                              try clear qi1
                              try clear c2
                              try clear p2
                              try clear q2
                              try clear hx2
                              try clear c3
                              try clear hx3
                              try clear c4
                              try clear c5
                              try clear c6
                              try clear p6
                              try clear c7
                              try clear c8
                              try clear c9
                              try clear c10
                              try clear c11
                              try clear c12
                              try clear c13
                              try clear c13b0
                              try clear c13b1
                              try clear c14
                              try clear c15
                              try clear c16
                              try clear p17
                              try clear q17
                              try clear hx17
                              try clear qi17
                              try clear c18
                              try clear p18
                              try clear q18
                              try clear hx18
                              try clear c20
                              try clear c20b0
                              try clear c21
                              try clear c21b0
                              try clear c22
                              try clear p22
                              try clear q22
                              try clear hx22
                              try clear hf22
                              try clear c24
                              try clear c24b0
                              try clear c24b1
                              try clear c25
                              try clear c25b0
                              try clear c26
                              try clear c26b0
                              try clear c27
                              try clear p27
                              try clear q27
                              try clear hx27
                              try clear hf27
                              try clear c35
                              try clear hx35
                              try clear hf35
                              try clear c41
                              try clear c42
                              try clear c42b0
                              try clear c43
                              try clear c43b0
                              try clear c44
                              try clear c44b0
                              try clear c47
                              try clear c47b0
                              try clear c47b1
                              try clear c54
                              try clear c54b0
                              try clear c55
                              try clear c55b0
                              try clear c56
                              try clear c56b0
                              try clear c60
                              try clear c60b0
                              try clear c61
                              try clear c61b0
                              try clear c61b1
                              try clear c61b2
                              try clear c64
                              try clear c64b0
                              try clear c64b1
                              try clear c64b2
                              try clear p64
                              try clear c67
                              try clear c67b0
                              try clear c67b1
                              try clear c67b2
                              try clear c73
                              try clear hcz70_0
                              try clear hcz70_1
                              try clear hcz74_0
                              try clear hcz74_1
                              try clear hcz76_0
                              try clear hcz76_1
                              try clear hcz77_0
                              try clear hcz77_1
                              try clear hfz70_0
                              try clear hfz70_1
                              try clear hfz74_0
                              try clear hfz74_1
                              try clear hfz76_0
                              try clear hfz76_1
                              try clear hfz77_0
                              try clear hfz77_1
                              try clear hx179_0
                              try clear hx179_1
                              try clear hx182_0
                              try clear hx189_0
                              try clear hx22_0
                              try clear hx22_1
                              try clear hx27_0
                              try clear hx27_1
                              try clear hx35_1
                              try clear p1
                              try clear p17
                              try clear p179
                              try clear p18
                              try clear p182
                              try clear p189
                              try clear p2
                              try clear p22
                              try clear p27
                              try clear p6
                              try clear q1
                              try clear q17
                              try clear q179
                              try clear q18
                              try clear q182
                              try clear q189
                              try clear q2
                              try clear q22
                              try clear q27
                              obtain ⟨x163_3, rfl, HA, HK3, HO_161, HB⟩ := hrel
                              cases gk with
                              | zero => exact absurd HA.out (by simp [storagebarterlaw14_MarkDoes.l2])
                              | succ k3 =>
                                have H := HA.out
                                clear HA
                                simp only [storagebarterlaw14_MarkDoes.l2] at H
                                by_cases c86 : x163_3 < (y205.length : Int)
                                · rw [if_pos c86] at H
                                  have c86b0 : decide (x163_3 < (y205.length : Int)) = true := decide_eq_true c86
                                  clear c86
                                  by_cases c87 : 0 ≤ x163_3
                                  · rw [if_pos c87] at H
                                    have c87b0 : decide (0 ≤ x163_3) = true := decide_eq_true c87
                                    clear c87
                                    by_cases c88 : x163_3 < (y205.length : Int)
                                    · rw [if_pos c88] at H
                                      have c88b0 : decide (x163_3 < (y205.length : Int)) = true := decide_eq_true c88
                                      clear c88
                                      replace H := Option.bind_eq_some_iff.mp H
                                      obtain ⟨⟨t209, t210⟩, A890, H⟩ := H
                                      try dsimp only at H
                                      have A89 := Aside0.mk A890
                                      clear A890
                                      replace H := Option.bind_eq_some_iff.mp H
                                      obtain ⟨⟨t211, t212⟩, A900, H⟩ := H
                                      try dsimp only at H
                                      have A90 := Aside0.mk A900
                                      clear A900
                                      by_cases c91 : t209 = t211
                                      · rw [if_pos c91] at H
                                        have c91b0 : (t209 == t211) = true := beq_iff_eq.mpr c91
                                        have c91b1 : (t209 != t211) = false := bne_eq_false_iff_eq.mpr c91
                                        clear c91
                                        by_cases c92 : t210 = t212
                                        · rw [if_pos c92] at H
                                          have c92b0 : (t210 == t212) = true := beq_iff_eq.mpr c92
                                          have c92b1 : (t210 != t212) = false := bne_eq_false_iff_eq.mpr c92
                                          clear c92
                                          have H' := Aside0.mk H
                                          clear H
                                          have p208 : 0 ≤ (x163_3 : Int) := of_decide_eq_true (by first | (with_reducible assumption) | assumption)
                                          have q208 : x163_3 < (y205.length : Int) := of_decide_eq_true (by first | (with_reducible assumption) | assumption)
                                          obtain ⟨ad208, e208, hx208_0⟩ := Kd.at_int (Kd.R_reads' HO_161.out).2.2 x163_3 p208 q208
                                          cases e208
                                          replace p208 := eq_true p208
                                          replace q208 := eq_true q208
                                          go_wp2_with (first | ((with_reducible refine gate_callee (f := 19) rfl ?_); refine goesL_ (some 170) rfl rfl Try.func19 (by kernel_rfl) rfl #[.int .i64 (rd y205 x163_3), .string a5] rfl (by (try simp only [List.map_toArray, List.map_cons, List.map_nil]); first | done | rfl | (simp only [List.length_drop, List.length_take]; rfl)) ?_; (with_reducible refine (mark_Sign.calls k3 (rd y205 x163_3) a5 t209 t210 _ A89.out).mono ?_); rintro e w93 ⟨rfl, hb⟩; refine ⟨_, rfl, ?_⟩; have n0_ := Aside0.mk (Kd.R_below (by (with_reducible repeat (first | apply Kd.R_alloc | apply Kd.R_drewN | apply Kd.R_drew)); exact HO_161.out) hb); have n1_ := Aside0.mk (below_step (by repeat (first | (with_reducible first | exact HB.out | apply below_alloc | apply pw_below_drewN | apply below_drew1) | exact HB.out)) hb); clear HO_161; clear HB; have HO_161 := n0_; have HB := n1_; clear n0_ n1_; (try clear hb); (try clear hb2); (try clear hk); (try clear hi)) | ((with_reducible refine gate_callee (f := 16) rfl ?_); refine goesL_ (some 176) rfl rfl Try.func16 (by kernel_rfl) rfl #[.int .i64 (rd y205 x163_3), .string a5] rfl (by (try simp only [List.map_toArray, List.map_cons, List.map_nil]); first | done | rfl | (simp only [List.length_drop, List.length_take]; rfl)) ?_; (with_reducible refine (storagebarterref14_Sign.calls k3 (rd y205 x163_3) a5 t211 t212 _ A90.out).mono ?_); rintro e w94 ⟨rfl, hb⟩; refine ⟨_, rfl, ?_⟩; have n0_ := Aside0.mk (Kd.R_below (by (with_reducible repeat (first | apply Kd.R_alloc | apply Kd.R_drewN | apply Kd.R_drew)); exact HO_161.out) hb); have n1_ := Aside0.mk (below_step (by repeat (first | (with_reducible first | exact HB.out | apply below_alloc | apply pw_below_drewN | apply below_drew1) | exact HB.out)) hb); clear HO_161; clear HB; have HO_161 := n0_; have HB := n1_; clear n0_ n1_; (try clear hb); (try clear hb2); (try clear hk); (try clear hi)))
                                          go_roundg k3
                                          case measure => have := HJ8.out; have := HK2.out; have := HK3.out; omega
                                          case rel => exact ⟨(wrap64 (x163_3 + 1)), (by first | rfl | (simp; done) | (simp [*]; done)), H', ⟨by have := HJ8.out; have := HK2.out; have := HK3.out; omega⟩, ⟨by (with_reducible repeat (first | apply Kd.R_alloc | apply Kd.R_drewN | apply Kd.R_drew)); exact HO_161.out⟩, ⟨by repeat (first | (with_reducible first | exact HB.out | apply below_alloc | apply pw_below_drewN | apply below_drew1) | exact HB.out)⟩⟩
                                        · rw [if_neg c92] at H
                                          exact absurd (H.trans (congrArg some RT_.out)) (by simp)
                                      · rw [if_neg c91] at H
                                        exact absurd (H.trans (congrArg some RT_.out)) (by simp)
                                    · rw [if_neg c88] at H
                                      exact absurd H (by simp)
                                  · rw [if_neg c87] at H
                                    exact absurd H (by simp)
                                · rw [if_neg c86] at H
                                  have c86b0 : decide (x163_3 < (y205.length : Int)) = false := decide_eq_false c86
                                  clear c86
                                  obtain rfl := Option.some.inj H
                                  go_wp2
                                  go_ret
                                  exact ⟨by first | rfl | (simp [errW_none, errW_some] <;> rfl) | (simp [*, errW_none, errW_some] <;> rfl), below_step HB0_.out (by repeat (first | (with_reducible first | exact HB.out | apply below_alloc | apply pw_below_drewN | apply below_drew1) | exact HB.out))⟩
                    · rw [if_neg c26] at H
                      exact absurd H (by simp)
                  · rw [if_neg c25] at H
                    exact absurd H (by simp)
                · rw [if_neg c24] at H
                  exact absurd H (by simp)
              · rw [if_neg c21] at H
                exact absurd H (by simp)
            · rw [if_neg c20] at H
              exact absurd H (by simp)
          · rw [if_neg c18] at H
            exact absurd H (by simp)
  · replace c8 := Bool.eq_false_iff.mpr c8
    subst c8
    rw [if_neg (show ¬ (false = true) by decide)] at H
    exact absurd (H.trans (congrArg some RT_.out)) (by simp)

end Go.Proofs.Ytcalkhlchjjalaa.Q

/- The digest, a number's bytes, and choices out of a deck, in plain words. -/
namespace Go.Proofs.Ytcalkhlchjjalaa.Gdm
open Go Go.RowKit Go.Proofs.Ytcalkhlchjjalaa.Gm Go.Proofs.Ytcalkhlchjjalaa.Q Go.Proofs.Ytcalkhlchjjalaa.Gput Go.Proofs.YtcalkhlchjjalaaW.PrintWords Go.Proofs.YtcalkhlchjjalaaW.PrintLast Go.Proofs.YtcalkhlchjjalaaW.PrintMore
set_option linter.unusedVariables false

theorem w64 {x : Int} (h : -9223372036854775808 ≤ x ∧ x ≤ 9223372036854775807) : wrap64 x = x := by unfold wrap64; omega


theorem bt_at (s : ByteArray) (a : Nat) (h : a < s.size) : bt s (a : Int) = ((s.data.toList.drop a).headD 0).toNat := by
  have h' : a < s.data.size := h
  unfold bt
  rw [dif_pos (by simpa using h)]
  simp only [Int.toNat_natCast]
  rw [List.drop_eq_getElem_cons (by simpa using h')]
  rfl

theorem bt_lt (s : ByteArray) (i : Int) : 0 ≤ bt s i ∧ bt s i < 256 := by
  unfold bt
  split
  · have := (s[i.toNat]).toNat_lt; omega
  · omega

theorem wf64 {n : Int} (h : -9223372036854775808 ≤ n ∧ n ≤ 9223372036854775807) : (Lit.int .i64 n).wf = true := Go.WalkArith.wf_i64 h

theorem wire_PutInt_eq (l : List UInt8) (n : Int) (hl : l.length + 10 ≤ 140737488355328) (hn : -9223372036854775808 ≤ n ∧ n ≤ 9223372036854775807) : wire_PutInt.f (B l) n = some (B (l ++ putI n)) := by
  unfold wire_PutInt.f
  rw [if_pos ⟨by rw [B_size]; exact hl, wf64 hn⟩]
  rfl

theorem tmod_mod (a m : Int) (hm : 0 < m) : (Int.tmod a m + m) % m = a % m := by
  have h := Int.mul_tdiv_add_tmod a m
  have e : Int.tmod a m + m = a + m * (1 - Int.tdiv a m) := by rw [Int.mul_sub]; omega
  rw [e, Int.add_mul_emod_self_left]

theorem tmod_range (a m : Int) (hm : 0 < m) : -m < Int.tmod a m ∧ Int.tmod a m < m := by
  refine ⟨?_, Int.tmod_lt_of_pos a hm⟩
  rcases Int.le_total 0 a with h | h
  · have := Int.tmod_nonneg m h; omega
  · have h1 := Int.tmod_nonneg m (show 0 ≤ -a by omega)
    have h2 := Int.tmod_lt_of_pos (-a) hm
    rw [Int.neg_tmod] at h1 h2
    omega

theorem mod_eq (a m : Int) (hm : 0 < m) (hb : m ≤ 4294967296) : storagebartermake_Mod.f a m = some (a % m) := by
  unfold storagebartermake_Mod.f
  have hr := tmod_range a m hm
  rw [if_neg (by omega), w64 (by omega), Int.tmod_eq_emod_of_nonneg (by omega), tmod_mod a m hm]

/-- The digest of bytes, from a value on. -/
def dg : Int → List UInt8 → Int
  | d, [] => d
  | d, b :: l => dg ((d * 1000003 + b.toNat + 1) % 2147483647) l

theorem dg_range : ∀ (l : List UInt8) (d : Int), 0 ≤ d ∧ d < 2147483647 → 0 ≤ dg d l ∧ dg d l < 2147483647
  | [], d, h => h
  | b :: l, d, h => dg_range l _ (by omega)

theorem dg_append (d : Int) (l m : List UInt8) : dg d (l ++ m) = dg (dg d l) m := by
  induction l generalizing d with
  | nil => rfl
  | cons b l ih => simp only [List.cons_append, dg]; exact ih _

theorem sum_step (s : ByteArray) (d : Int) (i : Nat) (hd : 0 ≤ d ∧ d < 2147483647) (hi : i < s.size) : Int.tmod (wrap64 ((wrap64 ((wrap64 (d * 1000003)) + (wrap64 (bt s i)))) + 1)) 2147483647 = (d * 1000003 + (s.data.toList[i]'(by simpa using hi)).toNat + 1) % 2147483647 := by
  have hb := bt_lt s i
  have hbt : bt s i = (s.data.toList[i]'(by simpa using hi)).toNat := by
    have h := bt_at s i hi
    rw [List.drop_eq_getElem_cons (by simpa using hi)] at h
    exact h
  rw [w64 (x := d * 1000003) (by omega), w64 (x := bt s i) (by omega), w64 (x := d * 1000003 + bt s i) (by omega), w64 (by omega), Int.tmod_eq_emod_of_nonneg (by omega), hbt]

theorem Sum_l0 (s : ByteArray) (hs : s.size ≤ 9223372036854775000) : ∀ (n i k : Nat) (d : Int), s.size - i = n → i ≤ s.size → 0 ≤ d ∧ d < 2147483647 → n < k → digest_Sum.l0 k s d s.size i = some (dg d (s.data.toList.drop i)) := by
  intro n
  induction n with
  | zero =>
    intro i k d hn hi hd hk
    obtain ⟨k, rfl⟩ : ∃ m, k = m + 1 := ⟨k - 1, by omega⟩
    simp only [digest_Sum.l0]
    rw [if_neg (by omega), List.drop_of_length_le (by rw [Array.length_toList]; show s.size ≤ i; omega)]
    rfl
  | succ n ih =>
    intro i k d hn hi hd hk
    obtain ⟨k, rfl⟩ : ∃ m, k = m + 1 := ⟨k - 1, by omega⟩
    have hlt : i < s.size := by omega
    simp only [digest_Sum.l0]
    rw [if_pos (by omega), if_pos (by omega), if_pos (by omega), sum_step s d i hd hlt, w64 (by omega), show ((i : Int) + 1) = ((i + 1 : Nat) : Int) by omega, ih (i + 1) k _ (by omega) (by omega) (by omega) (by omega), List.drop_eq_getElem_cons (show i < s.data.toList.length by simpa using hlt)]
    rfl

theorem Sum_eq (l : List UInt8) (k : Nat) (hl : l.length ≤ 9223372036854775000) (hk : l.length < k) : digest_Sum.f k (B l) = some (dg 1 l) := by
  unfold digest_Sum.f
  exact Sum_l0 (B l) (by rw [B_size]; exact hl) l.length 0 k 1 (by rw [B_size]; omega) (by omega) (by omega) hk

/-- A choice out of a deck is in its range; the deck's place stays within its list. -/
theorem next_ok (L : List Int) (at_ n : Int) (hn : 1 ≤ n) (hb : n ≤ 4294967296) (h0 : 0 ≤ at_) (hl : L.length ≤ 1000000) : ∃ t at', storagebartermake_Deck_Next.f L at_ n = some (t, at') ∧ 0 ≤ t ∧ t < n ∧ 0 ≤ at' := by
  unfold storagebartermake_Deck_Next.f
  rw [if_neg (by omega)]
  by_cases h : at_ ≥ (L.length : Int)
  · rw [if_pos h]
    exact ⟨0, at_, rfl, by omega, by omega, h0⟩
  · rw [if_neg h, if_pos h0, if_pos (by omega), mod_eq _ _ (by omega) hb, Option.bind_some]
    exact ⟨_, _, rfl, Int.emod_nonneg _ (by omega), Int.emod_lt_of_pos _ (by omega), by rw [w64 (by omega)]; omega⟩

end Go.Proofs.Ytcalkhlchjjalaa.Gdm

/- Directories that are made out of choices: they are valid, and who is in them. -/
namespace Go.Proofs.Ytcalkhlchjjalaa.Gpp
open Go Go.RowKit Go.Proofs.Ytcalkhlchjjalaa.Gm Go.Proofs.Ytcalkhlchjjalaa.Gdm Go.Proofs.Ytcalkhlchjjalaa.Q Go.Proofs.Ytcalkhlchjjalaa.Gput Go.Proofs.YtcalkhlchjjalaaW.PrintWords Go.Proofs.YtcalkhlchjjalaaW.PrintLast Go.Proofs.YtcalkhlchjjalaaW.PrintMore
set_option linter.unusedVariables false

/-- People as they are made: numbered from 1, with secrets that grow. -/
structure Made (l : List S31) (sec : Int) : Prop where
  ids : ∀ (j : Nat) (h : j < l.length), l[j].f0 = j + 1
  secs : l.Pairwise (fun p q => p.f1 < q.f1)
  low : ∀ p ∈ l, 1 ≤ p.f1 ∧ p.f1 ≤ sec
  high : 0 ≤ sec ∧ sec ≤ 50 * l.length

theorem Made.snoc {l : List S31} {sec t : Int} (h : Made l sec) (h0 : 0 ≤ t) (h1 : t < 50) : Made (l ++ [⟨(l.length : Int) + 1, sec + (1 + t)⟩]) (sec + (1 + t)) := by
  refine ⟨fun j hj => ?_, ?_, fun p hp => ?_, ?_⟩
  · rw [List.length_append, List.length_singleton] at hj
    by_cases hjl : j < l.length
    · rw [List.getElem_append_left hjl]; exact h.ids j hjl
    · obtain rfl : j = l.length := by omega
      rw [List.getElem_append_right (Nat.le_refl _)]
      simp
  · rw [List.pairwise_append]
    refine ⟨h.secs, List.pairwise_singleton _ _, fun p hp q hq => ?_⟩
    rw [List.mem_singleton] at hq
    subst hq
    have := (h.low p hp).2
    show p.f1 < sec + (1 + t)
    omega
  · rcases List.mem_append.1 hp with hp | hp
    · have := h.low p hp; omega
    · rw [List.mem_singleton] at hp
      subst hp
      have := h.high
      show 1 ≤ sec + (1 + t) ∧ sec + (1 + t) ≤ sec + (1 + t)
      omega
  · rw [List.length_append, List.length_singleton]
    have := h.high
    omega

theorem People_l0 (L : List Int) (hL : L.length ≤ 1000000) (n : Nat) (hn : n ≤ 1000) : ∀ (d : Nat) (l : List S31) (sec at_ : Int) (k : Nat), n - l.length = d → l.length ≤ n → Made l sec → 0 ≤ at_ → d < k →
    ∃ l' sec' at', storagebartermake_People.l0 k n l sec ((l.length : Int) + 1) L at_ = some (l', at') ∧ Made l' sec' ∧ l'.length = n ∧ 0 ≤ at' := by
  intro d
  induction d with
  | zero =>
    intro l sec at_ k hd hle hm h0 hk
    obtain ⟨k, rfl⟩ : ∃ m, k = m + 1 := ⟨k - 1, by omega⟩
    rw [storagebartermake_People.l0, if_neg (by omega)]
    exact ⟨l, sec, at_, rfl, hm, by omega, h0⟩
  | succ d ih =>
    intro l sec at_ k hd hle hm h0 hk
    obtain ⟨k, rfl⟩ : ∃ m, k = m + 1 := ⟨k - 1, by omega⟩
    obtain ⟨t, at', e, ht0, ht1, hat⟩ := next_ok L at_ 50 (by omega) (by omega) h0 hL
    have hh := hm.high
    rw [storagebartermake_People.l0, if_pos (by omega), e, Option.bind_some, if_pos (by omega), w64 (x := 1 + t) (by omega), w64 (x := sec + (1 + t)) (by omega), w64 (by omega)]
    have hlen : (((l ++ [(⟨(l.length : Int) + 1, sec + (1 + t)⟩ : S31)]).length : Nat) : Int) + 1 = (l.length : Int) + 1 + 1 := by simp
    rw [← hlen]
    exact ih _ _ at' k (by simp; omega) (by simp; omega) (hm.snoc ht0 ht1) hat (by omega)

theorem People_ok (L : List Int) (hL : L.length ≤ 1000000) (at_ : Int) (h0 : 0 ≤ at_) (n : Nat) (hn : n ≤ 1000) (k : Nat) (hk : n < k) : ∃ l sec at', storagebartermake_People.f k L at_ n = some (l, at') ∧ Made l sec ∧ l.length = n ∧ 0 ≤ at' := by
  unfold storagebartermake_People.f
  exact People_l0 L hL n hn n [] 0 at_ k (by simp) (by simp) ⟨fun j h => absurd h (by simp), List.Pairwise.nil, fun p hp => absurd hp (by simp), by simp⟩ h0 hk

theorem ckGo_of : ∀ (l : List S31) (prev : Option Int) (seen : List Int), (∀ p ∈ l, within p.f0 ∧ within p.f1) → (∀ q, prev = some q → ∀ p ∈ l, q < p.f0) → l.Pairwise (fun p q => p.f0 < q.f0) → (∀ p ∈ l, p.f1 ∉ seen) → l.Pairwise (fun p q => p.f1 ≠ q.f1) → ckGo prev seen l = 0 := by
  intro l
  induction l with
  | nil => intros; rfl
  | cons p r ih =>
    intro prev seen h1 h2 h3 h4 h5
    obtain ⟨h3a, h3b⟩ := List.pairwise_cons.1 h3
    obtain ⟨h5a, h5b⟩ := List.pairwise_cons.1 h5
    rw [ckGo, if_neg (fun z => z (h1 p List.mem_cons_self)), if_neg (by rintro ⟨q, hq, z⟩; have := h2 q hq p List.mem_cons_self; omega), if_neg (h4 p List.mem_cons_self)]
    refine ih _ _ (fun x hx => h1 x (List.mem_cons_of_mem _ hx)) (fun q hq x hx => ?_) h3b (fun x hx => ?_) h5b
    · cases hq; exact h3a x hx
    · intro z
      rcases List.mem_cons.1 z with z | z
      · exact h5a x hx z.symm
      · exact h4 x (List.mem_cons_of_mem _ hx) z

theorem Made.pairs {l : List S31} {sec : Int} (h : Made l sec) : l.Pairwise (fun p q => p.f0 < q.f0) := by
  rw [List.pairwise_iff_getElem]
  intro i j hi hj hij
  rw [h.ids i hi, h.ids j hj]
  omega

theorem Made.within {l : List S31} {sec : Int} (h : Made l sec) (hl : l.length ≤ 16) : ∀ p ∈ l, Q.within p.f0 ∧ Q.within p.f1 := by
  intro p hp
  have h1 := h.low p hp
  have h2 := h.high
  obtain ⟨j, hj, rfl⟩ := List.getElem_of_mem hp
  rw [h.ids j hj]
  unfold Q.within
  omega

theorem Made.ck {l : List S31} {sec : Int} (h : Made l sec) (hl : l.length ≤ 16) : Q.ck l = 0 := by
  unfold Q.ck
  rw [if_neg (by omega)]
  exact ckGo_of l none [] (h.within hl) (fun q hq => by cases hq) h.pairs (fun p hp => by simp) (h.secs.imp fun z => by omega)

theorem Made.wf {l : List S31} {sec : Int} (h : Made l sec) (hl : l.length ≤ 16) : l.all (fun p => (Lit.int .i64 p.f1).wf) = true := by
  rw [List.all_eq_true]
  intro p hp
  have := (h.within hl p hp).2
  unfold Q.within at this
  exact wf64 (by omega)

theorem Check_made {l : List S31} {sec : Int} (h : Made l sec) (hl : l.length ≤ 16) : mark_Check.f l = some 0 := by
  unfold mark_Check.f
  rw [if_pos (h.wf hl), h.ck hl]

theorem Find_made {l : List S31} {sec : Int} (h : Made l sec) (hl : l.length ≤ 16) (j : Nat) (hj : j < l.length) : mark_Find.f l ((j : Int) + 1) = some ((j : Int) + 1, l[j].f1, true) := by
  unfold mark_Find.f fd
  have hf : l.find? (fun p => p.f0 == (j : Int) + 1) = some l[j] := by
    rw [List.find?_eq_some_iff_getElem]
    refine ⟨by simp [h.ids j hj], j, hj, rfl, fun i hi => ?_⟩
    simp only [h.ids i (by omega), Bool.not_eq_true', beq_eq_false_iff_ne]
    omega
  rw [if_pos (h.wf hl), if_pos ⟨h.ck hl, by unfold Q.within; omega⟩, hf]
  simp only [h.ids j hj]

theorem Find_none {l : List S31} {sec : Int} (h : Made l sec) (hl : l.length ≤ 16) (id : Int) (hid : id < 1 ∨ (l.length : Int) < id) : mark_Find.f l id = some (0, 0, false) := by
  unfold mark_Find.f fd
  have hf : l.find? (fun p => p.f0 == id) = none := by
    rw [List.find?_eq_none]
    intro p hp
    obtain ⟨j, hj, rfl⟩ := List.getElem_of_mem hp
    rw [h.ids j hj]
    simp only [beq_iff_eq]
    omega
  rw [if_pos (h.wf hl), hf]
  simp

end Go.Proofs.Ytcalkhlchjjalaa.Gpp

/- 'mark.Sign' and the examples of chapter 14, in plain words. -/
namespace Go.Proofs.Ytcalkhlchjjalaa.Gps
open Go Go.RowKit Go.Proofs.Ytcalkhlchjjalaa.Gm Go.Proofs.Ytcalkhlchjjalaa.Gdm Go.Proofs.Ytcalkhlchjjalaa.Gpp Go.Proofs.Ytcalkhlchjjalaa.Q Go.Proofs.Ytcalkhlchjjalaa.Gput Go.Proofs.YtcalkhlchjjalaaW.PrintWords Go.Proofs.YtcalkhlchjjalaaW.PrintLast Go.Proofs.YtcalkhlchjjalaaW.PrintMore
set_option linter.unusedVariables false

theorem within_eq (n : Int) : mark_within.f n = some (decide (within n)) := by
  unfold mark_within.f within
  by_cases h1 : 1 ≤ n <;> by_cases h2 : n < 2147483647 <;> simp [h1, h2]

theorem Sign_eq (n : Int) (t : List UInt8) (k : Nat) (hn : within n) (ht : t.length ≤ 16384) (hk : t.length + 20 ≤ k) : mark_Sign.f k n (B t) = some (dg 1 (putI n ++ t), 0) := by
  unfold mark_Sign.f
  have hr : -9223372036854775808 ≤ n ∧ n ≤ 9223372036854775807 := by unfold within at hn; omega
  have hp := putI_len hr
  rw [within_eq, Option.bind_some, if_pos (by simpa using hn), B_size, if_neg (by omega), show (⟨#[]⟩ : ByteArray) = B [] from rfl, wire_PutInt_eq [] n (by simp) hr, Option.bind_some, List.nil_append, B_size, B_append, if_pos (by omega), Sum_eq _ _ (by rw [List.length_append]; omega) (by rw [List.length_append]; omega)]
  rfl

theorem law14_sane (k : Nat) (hk : 34 ≤ k) : storagebarterlaw14_sane.f k = some true := by
  have e1 : putI 1 = [2] := by
    unfold putI
    rw [show zig 1 = 2 by decide, grp_last (by omega)]
    decide
  have e2 : dg 1 (putI 1 ++ []) = 1000006 := by rw [e1]; decide
  have hw : within 1 := by decide
  have hs := Sign_eq 1 [] k hw (by simp) (by simp; omega)
  rw [e2] at hs
  have hc : mark_Check.f [⟨4, 1⟩] = some 0 := by decide
  have hf : mark_Find.f [⟨4, 1⟩] 4 = some (4, 1, true) := by decide
  have hg : mark_Find.f [⟨4, 1⟩] 5 = some (0, 0, false) := by decide
  unfold storagebarterlaw14_sane.f mark_Verify.f
  rw [show (⟨#[]⟩ : ByteArray) = B [] from rfl, hs]
  simp only [Option.bind_some, hc, hf, hg, hs, if_true]
  rw [if_pos (by decide), if_neg (by rw [w64 (by omega)]; decide)]
  rfl

end Go.Proofs.Ytcalkhlchjjalaa.Gps

/- The reference of chapter 14 in plain words: what it says of directories, marks and who is found is what 'mark' says. -/
namespace Go.Proofs.Ytcalkhlchjjalaa.Gmr
open Go Go.RowKit Go.Proofs.Ytcalkhlchjjalaa.Gm Go.Proofs.Ytcalkhlchjjalaa.Gdm Go.Proofs.Ytcalkhlchjjalaa.Gpp Go.Proofs.Ytcalkhlchjjalaa.Gps Go.Proofs.Ytcalkhlchjjalaa.Q Go.Proofs.Ytcalkhlchjjalaa.Gput Go.Proofs.YtcalkhlchjjalaaW.PrintWords Go.Proofs.YtcalkhlchjjalaaW.PrintLast Go.Proofs.YtcalkhlchjjalaaW.PrintMore
set_option linter.unusedVariables false

theorem strOfNums_one (n : Nat) : strOfNums [(n : Int)] = B [UInt8.ofNat n] := by
  unfold strOfNums B
  simp

theorem ref_PutInt_l0 : ∀ (u : Nat) (l : List UInt8) (k : Nat), l.length + (grp u).length ≤ 9223372036854775807 → (grp u).length ≤ k → storagebarterref01_PutInt.l0 k (B l) u = some (B (l ++ grp u)) := by
  intro u
  induction u using Nat.strongRecOn with
  | _ u ih =>
  intro l k hl hk
  by_cases h127 : 127 < u
  · rw [grp_more h127] at hl hk ⊢
    simp only [List.length_cons] at hl hk
    obtain ⟨k, rfl⟩ : ∃ m, k = m + 1 := ⟨k - 1, by omega⟩
    simp only [storagebarterref01_PutInt.l0]
    rw [if_pos (by omega), or128, Option.bind_some, strOfNums_one, if_pos (by rw [B_size, B_size]; simp; omega), B_append]
    have := ih (u / 128) (by omega) (l ++ [UInt8.ofNat (u % 128 + 128)]) k (by simp; omega) (by omega)
    rw [show ((u : Int) / 128) = ((u / 128 : Nat) : Int) by omega, this]
    simp
  · rw [grp_last h127] at hl hk ⊢
    simp only [List.length_singleton] at hl hk
    obtain ⟨k, rfl⟩ : ∃ m, k = m + 1 := ⟨k - 1, by omega⟩
    simp only [storagebarterref01_PutInt.l0]
    rw [if_neg (by omega), show ((u : Int) % 256) = (u : Int) by omega, Option.bind_some, strOfNums_one, if_pos (by rw [B_size, B_size]; simp; omega), B_append]

theorem ref_PutInt_eq (l : List UInt8) (n : Int) (k : Nat) (hl : l.length + 10 ≤ 9223372036854775807) (hn : -9223372036854775808 ≤ n ∧ n ≤ 9223372036854775807) (hk : 10 ≤ k) : storagebarterref01_PutInt.f k (B l) n = some (B (l ++ putI n)) := by
  unfold storagebarterref01_PutInt.f
  rw [zig_bits n (wf64 hn)]
  have := putI_len hn
  unfold putI at this ⊢
  exact ref_PutInt_l0 (zig n) l k (by omega) (by omega)

theorem rSum_l0 (s : ByteArray) (hs : s.size ≤ 9223372036854775000) : ∀ (n i k : Nat) (d : Int), s.size - i = n → i ≤ s.size → 0 ≤ d ∧ d < 2147483647 → n < k → storagebarterref02_Sum.l0 k s d i = some (dg d (s.data.toList.drop i)) := by
  intro n
  induction n with
  | zero =>
    intro i k d hn hi hd hk
    obtain ⟨k, rfl⟩ : ∃ m, k = m + 1 := ⟨k - 1, by omega⟩
    simp only [storagebarterref02_Sum.l0]
    rw [if_neg (by omega), List.drop_of_length_le (by rw [Array.length_toList]; show s.size ≤ i; omega)]
    rfl
  | succ n ih =>
    intro i k d hn hi hd hk
    obtain ⟨k, rfl⟩ : ∃ m, k = m + 1 := ⟨k - 1, by omega⟩
    have hlt : i < s.size := by omega
    simp only [storagebarterref02_Sum.l0]
    rw [if_pos (by omega), if_pos (by omega), sum_step s d i hd hlt, w64 (by omega), show ((i : Int) + 1) = ((i + 1 : Nat) : Int) by omega, ih (i + 1) k _ (by omega) (by omega) (by omega) (by omega), List.drop_eq_getElem_cons (show i < s.data.toList.length by simpa using hlt)]
    rfl

theorem rSum_eq (l : List UInt8) (k : Nat) (hl : l.length ≤ 9223372036854775000) (hk : l.length < k) : storagebarterref02_Sum.f k (B l) = some (dg 1 l) := by
  unfold storagebarterref02_Sum.f
  have h := rSum_l0 (B l) (by rw [B_size]; exact hl) l.length 0 k 1 (by rw [B_size]; omega) (by omega) (by omega) hk
  rw [show ((0 : Nat) : Int) = 0 from rfl] at h
  rw [h]
  rfl

theorem number_eq (n : Int) : storagebarterref14_number.f n = some (decide (within n)) := by
  unfold storagebarterref14_number.f within
  by_cases h1 : 1 ≤ n <;> by_cases h2 : n < 2147483647 <;> simp [h1, h2]

/-- A secret's mark of a text, or the error. -/
def sg (n : Int) (t : List UInt8) : Int × Int := if within n then (dg 1 (putI n ++ t), 0) else (0, 1)

theorem mSign_eq (n : Int) (t : List UInt8) (k : Nat) (ht : t.length ≤ 16384) (hk : t.length + 20 ≤ k) : mark_Sign.f k n (B t) = some (sg n t) := by
  unfold sg
  by_cases hn : within n
  · rw [if_pos hn]
    exact Sign_eq n t k hn ht hk
  · unfold mark_Sign.f
    rw [if_neg hn, within_eq, Option.bind_some, if_neg (by simpa using hn)]

theorem rSign_eq (n : Int) (t : List UInt8) (k : Nat) (ht : t.length ≤ 16384) (hk : t.length + 20 ≤ k) : storagebarterref14_Sign.f k n (B t) = some (sg n t) := by
  unfold storagebarterref14_Sign.f sg
  rw [number_eq, Option.bind_some]
  by_cases hn : within n
  · have hr : -9223372036854775808 ≤ n ∧ n ≤ 9223372036854775807 := by unfold within at hn; omega
    have hp := putI_len hr
    rw [if_pos (by simpa using hn), if_pos hn, B_size, if_neg (by omega), show (⟨#[]⟩ : ByteArray) = B [] from rfl, ref_PutInt_eq [] n k (by simp) hr (by omega), Option.bind_some, List.nil_append, B_size, B_append, if_pos (by omega), rSum_eq _ _ (by rw [List.length_append]; omega) (by rw [List.length_append]; omega)]
    rfl
  · rw [if_neg (by simpa using hn), if_neg hn]

section
variable (l : List S31)

theorem rck_l1 (hl : l.length ≤ 16) (i : Nat) (hi : i < l.length) (p0 p1 : Int) (K : Nat) (R : Int) (hc : ∀ k, K ≤ k → storagebarterref14_Check.l0 k l l (l.length : Int) (wrap64 ((i : Int) + 1)) = some R) :
    ∀ (d j k : Nat), i - j = d → j ≤ i → K + 1 + d ≤ k → storagebarterref14_Check.l1 k l l (l.length : Int) (i : Int) (l.take i) (i : Int) (j : Int) p0 p1 = some (if p1 ∈ ((l.take i).drop j).map (·.f1) then 7 else R) := by
  intro d
  induction d with
  | zero =>
    intro j k hd hj hk
    obtain ⟨k, rfl⟩ : ∃ m, k = m + 1 := ⟨k - 1, by omega⟩
    rw [storagebarterref14_Check.l1, if_neg (by omega), hc k (by omega), List.drop_of_length_le (by rw [List.length_take]; omega)]
    simp
  | succ d ih =>
    intro j k hd hj hk
    obtain ⟨k, rfl⟩ : ∃ m, k = m + 1 := ⟨k - 1, by omega⟩
    have hjl : j < (l.take i).length := by rw [List.length_take]; omega
    rw [storagebarterref14_Check.l1, if_pos (by omega), if_pos (by omega), if_pos (by omega), drop_rd (l.take i) j hjl, List.map_cons]
    by_cases h : (rd_T31 (l.take i) (j : Int)).f1 = p1
    · rw [if_pos h, if_pos (by rw [h]; exact List.mem_cons_self)]
    · rw [if_neg h, w64 (by omega), show ((j : Int) + 1) = ((j + 1 : Nat) : Int) by omega, ih (j + 1) k (by omega) (by omega) (by omega)]
      have h2 : (p1 ∈ (rd_T31 (l.take i) (j : Int)).f1 :: ((l.take i).drop (j + 1)).map (·.f1)) ↔ p1 ∈ ((l.take i).drop (j + 1)).map (·.f1) := by
        rw [List.mem_cons]
        exact ⟨fun z => z.resolve_left (fun e => h e.symm), Or.inr⟩
      simp only [h2]

theorem rck_l0 (hl : l.length ≤ 16) : ∀ (d i k : Nat), l.length - i = d → i ≤ l.length → 1 + 40 * d ≤ k → storagebarterref14_Check.l0 k l l (l.length : Int) (i : Int) = some (ckGo (prevAt l i) (seenAt l i) (l.drop i)) := by
  intro d
  induction d with
  | zero =>
    intro i k hd hi hk
    obtain ⟨k, rfl⟩ : ∃ m, k = m + 1 := ⟨k - 1, by omega⟩
    rw [storagebarterref14_Check.l0, if_neg (by omega), List.drop_of_length_le (by omega)]
    rfl
  | succ d ih =>
    intro i k hd hi hk
    obtain ⟨k, rfl⟩ : ∃ m, k = m + 3 := ⟨k - 3, by omega⟩
    have hil : i < l.length := by omega
    rw [drop_rd l i hil, ckGo]
    generalize hp : rd_T31 l (i : Int) = p
    have e0 : storagebarterref14_Check.l0 (k + 3) l l (l.length : Int) (i : Int) = storagebarterref14_Check.j1 (k + 2) l (i : Int) l (l.length : Int) (i : Int) (!decide (within p.f0 ∧ within p.f1)) p.f0 p.f1 := by
      rw [storagebarterref14_Check.l0, if_pos (by omega), if_pos (by omega), if_pos (by omega), hp, number_eq, Option.bind_some]
      by_cases h0 : within p.f0
      · rw [if_pos (by simpa using h0), number_eq, Option.bind_some]
        simp [h0]
      · rw [if_neg (by simpa using h0)]
        simp [h0]
    rw [e0, storagebarterref14_Check.j1]
    by_cases hw : within p.f0 ∧ within p.f1
    · rw [if_neg (show ¬ ((!decide (within p.f0 ∧ within p.f1)) = true) by simp [hw]), if_neg (show ¬ ¬ (within p.f0 ∧ within p.f1) from fun z => z hw)]
      have e1 : (if (i : Int) > 0 then (if 0 ≤ (wrap64 ((i : Int) - 1)) then (if (wrap64 ((i : Int) - 1)) < (l.length : Int) then (storagebarterref14_Check.j2 (k + 1) l (i : Int) l (l.length : Int) (i : Int) (decide (p.f0 ≤ ((rd_T31 l (wrap64 ((i : Int) - 1))).f0))) p.f0 p.f1) else (none)) else (none)) else (storagebarterref14_Check.j2 (k + 1) l (i : Int) l (l.length : Int) (i : Int) false p.f0 p.f1)) =
          storagebarterref14_Check.j2 (k + 1) l (i : Int) l (l.length : Int) (i : Int) (decide (∃ q, prevAt l i = some q ∧ p.f0 ≤ q)) p.f0 p.f1 := by
        by_cases h0 : i = 0
        · have e2 : decide (∃ q, prevAt l i = some q ∧ p.f0 ≤ q) = false := by simp [prevAt, h0]
          rw [e2, if_neg (by omega)]
        · have e2 : decide (∃ q, prevAt l i = some q ∧ p.f0 ≤ q) = decide (p.f0 ≤ (rd_T31 l ((i : Int) - 1)).f0) := by simp [prevAt, h0]
          rw [e2, if_pos (by omega), w64 (by omega), if_pos (by omega), if_pos (by omega)]
      rw [e1, storagebarterref14_Check.j2]
      by_cases hq : ∃ q, prevAt l i = some q ∧ p.f0 ≤ q
      · rw [if_pos (by simpa using hq), if_pos hq]
      · rw [if_neg (by simpa using hq), if_neg hq, if_pos (by omega), if_pos (by omega), Option.bind_some, Int.toNat_natCast, List.length_take, Nat.min_eq_left hi]
        have hn := rck_l1 l hl i hil p.f0 p.f1 (1 + 40 * d) (ckGo (prevAt l (i + 1)) (seenAt l (i + 1)) (l.drop (i + 1))) (fun k' hk' => by rw [w64 (by omega), show ((i : Int) + 1) = ((i + 1 : Nat) : Int) by omega]; exact ih (i + 1) k' (by omega) (by omega) hk') i 0 k (by omega) (by omega) (by omega)
        rw [show ((0 : Nat) : Int) = 0 from rfl, List.drop_zero] at hn
        rw [hn, seenAt_succ l i hil, hp]
        have hpv : prevAt l (i + 1) = some p.f0 := by
          unfold prevAt
          rw [if_neg (by omega), show (((i + 1 : Nat) : Int) - 1) = (i : Int) by omega, hp]
        rw [hpv]
        have hs : p.f1 ∈ (l.take i).map (·.f1) ↔ p.f1 ∈ seenAt l i := by
          unfold seenAt
          rw [List.mem_reverse]
        simp only [hs]
    · rw [if_pos (show ((!decide (within p.f0 ∧ within p.f1)) = true) by simp [hw]), if_pos hw]

theorem rCheck_eq (k : Nat) (hk : 700 ≤ k) : storagebarterref14_Check.f k l = some (ck l) := by
  unfold storagebarterref14_Check.f ck
  by_cases h : 16 < l.length
  · rw [if_pos (by omega), if_pos h]
  · have hz := rck_l0 l (by omega) l.length 0 k (by omega) (by omega) (by omega)
    rw [show ((0 : Nat) : Int) = 0 from rfl, List.drop_zero] at hz
    rw [if_neg (by omega), if_neg h, hz]
    rfl

def fnd (id : Int) (l : List S31) : Int × Int × Bool := match l.find? (fun p => p.f0 == id) with | some p => (p.f0, p.f1, true) | none => (0, 0, false)

theorem rfd_l0 (hl : l.length ≤ 16) (id : Int) : ∀ (d i k : Nat), l.length - i = d → i ≤ l.length → d < k → storagebarterref14_Find.l0 k id l (l.length : Int) (i : Int) = some (fnd id (l.drop i)) := by
  intro d
  induction d with
  | zero =>
    intro i k hd hi hk
    obtain ⟨k, rfl⟩ : ∃ m, k = m + 1 := ⟨k - 1, by omega⟩
    rw [storagebarterref14_Find.l0, if_neg (by omega), List.drop_of_length_le (by omega)]
    rfl
  | succ d ih =>
    intro i k hd hi hk
    obtain ⟨k, rfl⟩ : ∃ m, k = m + 1 := ⟨k - 1, by omega⟩
    have hil : i < l.length := by omega
    rw [storagebarterref14_Find.l0, if_pos (by omega), if_pos (by omega), if_pos (by omega), drop_rd l i hil]
    generalize rd_T31 l (i : Int) = p
    by_cases h : p.f0 = id
    · rw [if_pos h]
      simp [fnd, List.find?, h]
    · have hb : (p.f0 == id) = false := beq_eq_false_iff_ne.2 h
      rw [if_neg h, w64 (by omega), show ((i : Int) + 1) = ((i + 1 : Nat) : Int) by omega, ih (i + 1) k (by omega) (by omega) (by omega)]
      simp [fnd, List.find?, hb]

theorem rFind_eq (id : Int) (k : Nat) (hk : 700 ≤ k) : storagebarterref14_Find.f k l id = some (fd l id) := by
  unfold storagebarterref14_Find.f fd
  rw [rCheck_eq l k hk, Option.bind_some]
  by_cases h : ck l = 0
  · obtain ⟨h16, hw, -, -⟩ := ck_ok h
    have hz := rfd_l0 l h16 id l.length 0 k (by omega) (by omega) (by omega)
    rw [show ((0 : Nat) : Int) = 0 from rfl, List.drop_zero] at hz
    rw [if_pos h, hz]
    by_cases hi : within id
    · rw [if_pos ⟨h, hi⟩]
      rfl
    · rw [if_neg (fun z => hi z.2)]
      have hn : l.find? (fun p => p.f0 == id) = none := by
        rw [List.find?_eq_none]
        intro p hp he
        exact hi (by rw [← beq_iff_eq.1 he]; exact (hw p hp).1)
      simp [fnd, hn]
  · rw [if_neg h, if_neg (fun z => h z.1)]

theorem mFind_eq (hl : l.all (fun p => (Lit.int .i64 p.f1).wf) = true) (id : Int) : mark_Find.f l id = some (fd l id) := by
  unfold mark_Find.f
  rw [if_pos hl]

theorem mCheck_eq (hl : l.all (fun p => (Lit.int .i64 p.f1).wf) = true) : mark_Check.f l = some (ck l) := by
  unfold mark_Check.f
  rw [if_pos hl]

def vf (id : Int) (t : List UInt8) (m : Int) : Bool := if (fd l id).2.2 = true then (if (sg (fd l id).2.1 t).2 = 0 then m == (sg (fd l id).2.1 t).1 else false) else false

theorem mVerify_eq (hl : l.all (fun p => (Lit.int .i64 p.f1).wf) = true) (id : Int) (t : List UInt8) (m : Int) (k : Nat) (ht : t.length ≤ 16384) (hk : t.length + 20 ≤ k) : mark_Verify.f k l id (B t) m = some (vf l id t m) := by
  unfold mark_Verify.f vf
  rw [mFind_eq l hl, Option.bind_some]
  by_cases h : (fd l id).2.2 = true
  · rw [if_pos h, if_pos h, mSign_eq _ t k ht hk, Option.bind_some]
    split <;> rfl
  · rw [if_neg h, if_neg h]

theorem rVerify_eq (id : Int) (t : List UInt8) (m : Int) (k : Nat) (ht : t.length ≤ 16384) (hk : t.length + 1000 ≤ k) : storagebarterref14_Verify.f k l id (B t) m = some (vf l id t m) := by
  unfold storagebarterref14_Verify.f vf
  rw [rFind_eq l id k (by omega), Option.bind_some]
  by_cases h : (fd l id).2.2 = true
  · rw [if_pos h, if_pos h, rSign_eq _ t k ht (by omega), Option.bind_some, BEq.comm]
    split <;> rfl
  · rw [if_neg h, if_neg h]
end
end Go.Proofs.Ytcalkhlchjjalaa.Gmr

/- Which directories are valid, who is in them, all marks, and what verifies, or the error, for any arguments; and the row, whose second argument is a slice of structs. -/
namespace Go.Proofs.Ytcalkhlchjjalaa.PureMd
open Go Go.RowKit Go.Proofs.Ytcalkhlchjjalaa.Gm Go.Proofs.Ytcalkhlchjjalaa.Gdm Go.Proofs.Ytcalkhlchjjalaa.Gpp Go.Proofs.Ytcalkhlchjjalaa.Gps Go.Proofs.Ytcalkhlchjjalaa.Gmr Go.Proofs.Ytcalkhlchjjalaa.Q Go.Proofs.YtcalkhlchjjalaaW.PrintWords Go.Proofs.YtcalkhlchjjalaaW.PrintLast Go.Proofs.YtcalkhlchjjalaaW.PrintMore

/-- The secrets are numbers. -/
def Ok (l : List S31) : Prop := l.all (fun p => (Lit.int .i64 p.f1).wf) = true

section
variable (x2 x3 x4 : Int) (t : List UInt8)

theorem md_l2 (ht : t.length ≤ 3000) (xs : List Int) : ∀ (d i k : Nat), xs.length - i = d → i ≤ xs.length → xs.length ≤ 100 → 4000 + d ≤ k → storagebarterlaw14_MarkDoes.l2 k (B t) xs (xs.length : Int) (i : Int) = some true := by
  intro d
  induction d with
  | zero =>
    intro i k hd hi hl hk
    obtain ⟨k, rfl⟩ : ∃ m, k = m + 1 := ⟨k - 1, by omega⟩
    rw [storagebarterlaw14_MarkDoes.l2, if_neg (by omega)]
  | succ d ih =>
    intro i k hd hi hl hk
    obtain ⟨k, rfl⟩ : ∃ m, k = m + 1 := ⟨k - 1, by omega⟩
    rw [storagebarterlaw14_MarkDoes.l2, if_pos (by omega), if_pos (by omega), if_pos (by omega), mSign_eq _ t _ (by omega) (by omega), Option.bind_some, rSign_eq _ t _ (by omega) (by omega), Option.bind_some, if_pos rfl, if_pos rfl, w64 (by omega), show ((i : Int) + 1) = ((i + 1 : Nat) : Int) by omega]
    exact ih (i + 1) k (by omega) (by omega) hl (by omega)

theorem md_l1 (ht : t.length ≤ 3000) (l : List S31) (hl : Ok l) (x82 : List (List S31)) (x83 x84 : Int) (xs : List Int) (hn : xs.length ≤ 100) (K : Nat)
    (hc : ∀ k, K ≤ k → storagebarterlaw14_MarkDoes.l0 k x2 x3 x4 (B t) x82 x83 (wrap64 (x84 + 1)) = some true) :
    ∀ (d i k : Nat), xs.length - i = d → i ≤ xs.length → K + 5000 + d ≤ k → storagebarterlaw14_MarkDoes.l1 k x2 x3 x4 (B t) l x82 x83 x84 xs (xs.length : Int) (i : Int) = some true := by
  intro d
  induction d with
  | zero =>
    intro i k hd hi hk
    obtain ⟨k, rfl⟩ : ∃ m, k = m + 1 := ⟨k - 1, by omega⟩
    rw [storagebarterlaw14_MarkDoes.l1, if_neg (by omega)]
    exact hc k (by omega)
  | succ d ih =>
    intro i k hd hi hk
    obtain ⟨k, rfl⟩ : ∃ m, k = m + 1 := ⟨k - 1, by omega⟩
    rw [storagebarterlaw14_MarkDoes.l1, if_pos (by omega), if_pos (by omega), if_pos (by omega), mFind_eq l hl, Option.bind_some, rFind_eq l _ _ (by omega), Option.bind_some, rSign_eq _ t _ (by omega) (by omega), Option.bind_some, if_neg (by simp), if_neg (by simp),
      mVerify_eq l hl _ t _ _ (by omega) (by omega), Option.bind_some, rVerify_eq l _ t _ _ (by omega) (by omega), Option.bind_some, if_neg (by simp), mVerify_eq l hl _ t _ _ (by omega) (by omega), Option.bind_some, rVerify_eq l _ t _ _ (by omega) (by omega), Option.bind_some, if_neg (by simp),
      w64 (by omega), show ((i : Int) + 1) = ((i + 1 : Nat) : Int) by omega]
    exact ih (i + 1) k (by omega) (by omega) (by omega)

set_option maxRecDepth 100000 in
theorem md_l0 (ht : t.length ≤ 3000) (x82 : List (List S31)) (hn : x82.length ≤ 100) (hv : ∀ l ∈ x82, Ok l) :
    ∀ (d i k : Nat), x82.length - i = d → i ≤ x82.length → 5000 + 6000 * d ≤ k → storagebarterlaw14_MarkDoes.l0 k x2 x3 x4 (B t) x82 (x82.length : Int) (i : Int) = some true := by
  intro d
  induction d with
  | zero =>
    intro i k hd hi hk
    obtain ⟨k, rfl⟩ : ∃ m, k = m + 1 := ⟨k - 1, by omega⟩
    rw [storagebarterlaw14_MarkDoes.l0, if_neg (by omega), mod_eq _ _ (by omega) (by omega), Option.bind_some, Option.bind_some]
    exact md_l2 t ht _ 2 0 k rfl (by simp) (by simp) (by omega)
  | succ d ih =>
    intro i k hd hi hk
    obtain ⟨k, rfl⟩ : ∃ m, k = m + 1 := ⟨k - 1, by omega⟩
    have hm : rd_L3 x82 (i : Int) ∈ x82 := by
      unfold rd_L3
      rw [Int.toNat_natCast, List.getD_eq_getElem?_getD, List.getElem?_eq_getElem (show i < x82.length by omega), Option.getD_some]
      exact List.getElem_mem _
    have hl := hv _ hm
    rw [storagebarterlaw14_MarkDoes.l0, if_pos (by omega), if_pos (by omega), if_pos (by omega), mCheck_eq _ hl, Option.bind_some, rCheck_eq _ _ (by omega), Option.bind_some, if_pos rfl, mod_eq _ _ (by omega) (by omega), Option.bind_some, Option.bind_some]
    refine md_l1 x2 x3 x4 t ht _ hl x82 _ _ _ (by simp) (5000 + 6000 * d) ?_ 2 0 k rfl (by simp) (by omega)
    intro j hj
    rw [w64 (by omega), show ((i : Int) + 1) = ((i + 1 : Nat) : Int) by omega]
    exact ih (i + 1) j (by omega) (by omega) (by omega)
end

theorem Ok.set {l : List S31} (h : Ok l) (i : Nat) (a b : Int) (hb : (Lit.int .i64 b).wf = true) : Ok (l.set i ⟨a, b⟩) := by
  unfold Ok at h ⊢
  rw [List.all_eq_true] at h ⊢
  intro p hp
  rcases List.mem_or_eq_of_mem_set hp with h1 | h1
  · exact h p h1
  · rw [h1]; exact hb

set_option maxRecDepth 100000 in
theorem MarkDoes (l0 : List Int) (l1 : List S31) (a2 a3 a4 : Int) (a5 : ByteArray) (h1 : ∀ p ∈ l1, (Lit.int .i64 p.f0).wf = true ∧ (Lit.int .i64 p.f1).wf = true) (h3 : (Lit.int .i64 a3).wf = true) : ∃ k, storagebarterlaw14_MarkDoes.f k l0 l1 a2 a3 a4 a5 = some true := by
  obtain ⟨t, rfl⟩ := exB a5
  have hr1 : Ok l1 := by
    unfold Ok
    rw [List.all_eq_true]
    exact fun p hp => (h1 p hp).2
  refine ⟨100000, ?_⟩
  unfold storagebarterlaw14_MarkDoes.f
  rw [law14_sane _ (by omega), Option.bind_some, if_pos rfl]
  unfold storagebartermake_Few.f
  rw [Option.bind_some]
  have ht0 : storagebarterlaw14_MarkDoes.j0 100000 l0 l1 a2 a3 a4 (B t) true = some true := by
    rw [storagebarterlaw14_MarkDoes.j0, if_pos rfl]
  by_cases hf : (l0.length : Int) ≤ 500
  · rw [if_pos (by simpa using hf)]
    by_cases h100 : (l1.length : Int) > 100
    · rw [if_pos h100, ht0]
    rw [if_neg h100, B_size]
    by_cases h3000 : (t.length : Int) > 3000
    · rw [decide_eq_true h3000, ht0]
    rw [decide_eq_false h3000, storagebarterlaw14_MarkDoes.j0, if_neg (by simp)]
    unfold storagebartermake_New.f
    obtain ⟨n, at1, e1, hn0, hn1, ha1⟩ := next_ok l0 0 5 (by omega) (by omega) (by omega) (by omega)
    rw [Option.bind_some, e1, Option.bind_some]
    obtain ⟨m, rfl⟩ : ∃ m : Nat, n = m := ⟨n.toNat, by omega⟩
    simp only
    rw [w64 (by omega), show ((1 : Int) + (m : Int)) = ((m + 1 : Nat) : Int) by omega]
    obtain ⟨l, sec, at2, e2, hm, hlen, ha2⟩ := People_ok l0 (by omega) at1 ha1 (m + 1) (by omega) 99999 (by omega)
    rw [e2, Option.bind_some]
    have hok : Ok l := hm.wf (by omega)
    simp only [List.nil_append]
    obtain ⟨i, at3, e3, hi0, hi1, ha3⟩ := next_ok l0 at2 (l.length : Int) (by omega) (by omega) ha2 (by omega)
    obtain ⟨j, at4, e4, hj0, hj1, ha4⟩ := next_ok l0 at3 (l.length : Int) (by omega) (by omega) ha3 (by omega)
    rw [if_pos (by simp only [List.length_nil]; omega), Option.bind_some, e3, Option.bind_some, if_pos hi0, if_pos hi1, Option.bind_some, e4, Option.bind_some, if_pos (by omega), if_pos hj0, if_pos hj1, Option.bind_some]
    refine md_l0 a2 a3 a4 t (by omega) _ (by simp) ?_ 4 0 99999 rfl (by simp) (by omega)
    have h0 : (Lit.int .i64 (rd_T31 l 0).f1).wf = true := by
      have hmem : rd_T31 l ((0 : Nat) : Int) ∈ l := by
        unfold rd_T31
        rw [Int.toNat_natCast, List.getD_eq_getElem?_getD, List.getElem?_eq_getElem (show 0 < l.length by omega), Option.getD_some]
        exact List.getElem_mem _
      exact List.all_eq_true.1 hok _ hmem
    intro z hz
    simp only [List.mem_cons, List.not_mem_nil, or_false] at hz
    rcases hz with rfl | rfl | rfl | rfl
    · exact hr1
    · exact hok
    · exact hok.set _ _ _ h3
    · exact hok.set _ _ _ h0
  · rw [if_neg (by simpa using hf), ht0]

end Go.Proofs.Ytcalkhlchjjalaa.PureMd

/- The row of 'MarkDoes': its second argument is a slice of structs. -/
namespace Go.Proofs.Ytcalkhlchjjalaa.markDoes
open Go.ChangeShapes Go.WideShapes Go.ChangeAt Go.RowKit
open Go.ChangeMaps (open_string shut_string)
set_option linter.unusedVariables false
theorem own : ownKnob Try.prog.godebug = none := by kernel_rfl
theorem laidOut : laidOutB Try.prog = true := by kernel_rfl
def IsRow (k : IntKind) (w : World) (a : Option Addr) (len cap : Nat) (zs : List Int) : Prop :=
  (a = none ∧ len = 0 ∧ cap = 0 ∧ zs = []) ∨
  ∃ x, a = some x ∧ len ≤ cap ∧ cap ≤ maxLen ∧ zs.length = cap ∧ (∀ i, i < zs.length → w.cell? (x.add i) = some (.int k (zs.getD i 0))) ∧ ∀ n ∈ zs, (Lit.int k n).wf = true
theorem C_pairs {H : Type} {enc : TypeId × Value → H} {W : World} {fuel : Nat} {a1 : Option Addr} {len cap : Nat} {x : DataW H × List MemPlace} (hf : DataW.trod enc Try.prog W 0 (fun _ => true) true fuel 23 [.slice a1 len cap] = some x) :
    ∃ xs : List Q.S31, xs.length = len ∧ Go.Proofs.YtcalkhlchjjalaaW.PrintWords.Kd.C Q.k31 W a1 xs.length xs ∧ xs.length ≤ cap ∧ ∀ p ∈ xs, (Lit.int .i64 p.f0).wf = true ∧ (Lit.int .i64 p.f1).wf = true := by
  rcases Go.Deep.open_slice_pairs Try.underlying23 Try.underlying31 (by kernel_rfl) rfl rfl (by kernel_rfl) (by kernel_rfl) hf with ⟨hcs, -⟩ | ⟨a, l, c, m, n, V0, V1, D0, D1, P0, P1, hcs, hb, hl, hm, hmm, -, hi⟩
  · simp at hcs
    obtain ⟨rfl, rfl, rfl⟩ := hcs
    exact ⟨[], rfl, Go.Proofs.YtcalkhlchjjalaaW.PrintWords.Kd.C_nil _ _, Nat.le_refl _, fun p hp => by cases hp⟩
  · simp at hcs
    obtain ⟨rfl, rfl, rfl⟩ := hcs
    have hlm : len ≤ m := by rw [hmm]; simp; exact hl
    have each : ∀ i, i < len → ∃ q : Int × Int, W.cell? (a.add (i * 2)) = some (.int .i64 q.1) ∧ W.cell? (a.add (i * 2 + 1)) = some (.int .i64 q.2) ∧ (Lit.int .i64 q.1).wf = true ∧ (Lit.int .i64 q.2).wf = true := by
      intro i hil
      obtain ⟨e0, e1, t0, t1⟩ := hi i (by omega)
      obtain ⟨b0, hb0, -, wf0⟩ := DataW.trod_int Try.underlying3 t0
      obtain ⟨b1, hb1, -, wf1⟩ := DataW.trod_int Try.underlying3 t1
      have g0 : V0 i = .int .i64 b0 := by simpa using hb0
      have g1 : V1 i = .int .i64 b1 := by simpa using hb1
      rw [g0] at e0
      rw [g1] at e1
      exact ⟨(b0, b1), e0, e1, wf0, wf1⟩
    obtain ⟨q, hq⟩ := Go.Deep.choose_lt each
    refine ⟨(List.range len).map (fun i => ⟨(q i).1, (q i).2⟩), by simp, ⟨rfl, by simp; unfold maxLen at hm; omega, fun _ => ⟨a, rfl, fun j p hj => ?_⟩⟩, by simpa using hl, fun p hp => ?_⟩
    · have hjl : j < len := by
        have := (List.getElem?_eq_some_iff.1 hj).1
        simpa using this
      simp [hjl] at hj
      obtain ⟨h1, h2, -, -⟩ := hq j hjl
      subst hj
      refine ⟨[.int .i64 (q j).1, .int .i64 (q j).2], rfl, Q.k31_mk _ ⟨(q j).1, (q j).2⟩, fun i u hu => ?_⟩
      match i, hu with
      | 0, hu => simp at hu; subst hu; exact h1
      | 1, hu => simp at hu; subst hu; exact h2
    · obtain ⟨i, hi2, rfl⟩ := List.mem_map.1 hp
      obtain ⟨-, -, h3, h4⟩ := hq i (List.mem_range.1 hi2)
      exact ⟨h3, h4⟩
set_option maxRecDepth 100000 in
theorem lifted (os : Os) (started : os.Started) (H : Type) (enc : TypeId × Value → H) :
    ReturnsInHanded {} Try.checked os 3 .any (Rows.markDoesSpec.pre6 enc Try.prog Try.f3 Rows.markDoesRow.domain false) (Rows.markDoesSpec.post enc Try.prog Try.f3 false true false false) := by
  refine returnsInHanded_of_change_sized (C := Try.checked) own started (by kernel_rfl) Try.func3
    (ChangeSpec.witness6 (enc := enc) (C := Try.checked) false ⟨#[], #[.slice none 0 0, .slice none 0 0, .int .i64 0, .int .i64 0, .int .i64 0, .string ByteArray.empty], []⟩ 8 (by kernel_rfl) (by kernel_rfl) (by kernel_rfl) (by kernel_rfl)) ?_
  intro W base args ds gs before hval0 hW hcnd hsz0 _
  have hsz : (DataW.weightsEach Try.prog (Try.f3.params.toList ++ Rows.markDoesSpec.plain.varTypes Try.prog) (ds ++ gs)).all (· ≤ reachBytes) = true := hsz0
  have hval : ∀ (j : Nat) t v, Try.f3.params[j]? = some t → args[j]? = some v → Value.okWide Try.prog W .any base t v := hval0
  have hW' := hW
  obtain ⟨p, q, hA0, hV, rfl, hfz, hnd⟩ := hW
  have hA : DataW.TrodAll enc Try.prog W 0 (fun _ => true) true Try.f3.params.toList args.toList ds p := hA0
  rw [Try.params3] at hA hval hsz
  obtain ⟨v0, vs0, d0, ds0, p0, q0, hargs, rfl, rfl, h0, r0⟩ := trodAll_cons hA
  obtain ⟨v1, vs1, d1, ds1, p1, q1, rfl, rfl, rfl, h1, r1⟩ := trodAll_cons r0
  obtain ⟨v2, vs2, d2, ds2, p2, q2, rfl, rfl, rfl, h2, r2⟩ := trodAll_cons r1
  obtain ⟨v3, vs3, d3, ds3, p3, q3, rfl, rfl, rfl, h3, r3⟩ := trodAll_cons r2
  obtain ⟨v4, vs4, d4, ds4, p4, q4, rfl, rfl, rfl, h4, r4⟩ := trodAll_cons r3
  obtain ⟨v5, vs5, d5, ds5, p5, q5, rfl, rfl, rfl, h5, r5⟩ := trodAll_cons r4
  obtain ⟨rfl, rfl, rfl⟩ := trodAll_nil r5
  obtain rfl : args = #[v0, v1, v2, v3, v4, v5] := by cases args; simp_all
  obtain ⟨rfl, rfl⟩ := trodVars_none hV
  obtain ⟨a0, len0, cap0, rfl⟩ := okWide_slice Try.underlying22 (hval 0 22 v0 rfl rfl)
  have k0 := h0
  have lt0 : ∀ x ∈ p0, x.block < W.heap.size := by obtain ⟨m, hm⟩ := k0; exact DataW.trod_lt m _ _ _ hm
  obtain ⟨z0, w0⟩ : ∃ zs, IsRow .i64 W a0 len0 cap0 zs := by
    obtain ⟨fuel, hf⟩ := h0
    rcases open_ints Try.underlying22 Try.underlying3 (by kernel_rfl) hf with ⟨hcs, _⟩ | ⟨x, l, c, zs, hcs, _, hl, hm, hz, _, hcell, hwz⟩
    · simp [Value.cells] at hcs
      obtain ⟨rfl, rfl, rfl⟩ := hcs
      exact ⟨[], .inl ⟨rfl, rfl, rfl, rfl⟩⟩
    · simp [Value.cells] at hcs
      obtain ⟨rfl, rfl, rfl⟩ := hcs
      exact ⟨zs, .inr ⟨_, rfl, hl, hm, by simpa using hz, hcell, hwz⟩⟩
  obtain ⟨a1, len1, cap1, rfl⟩ := okWide_slice Try.underlying23 (hval 1 23 v1 rfl rfl)
  have k1 := h1
  have lt1 : ∀ x ∈ p1, x.block < W.heap.size := by obtain ⟨m, hm⟩ := k1; exact DataW.trod_lt m _ _ _ hm
  obtain ⟨z1, hz1, w1, hc1, hw1⟩ : ∃ xs : List Q.S31, xs.length = len1 ∧ Go.Proofs.YtcalkhlchjjalaaW.PrintWords.Kd.C Q.k31 W a1 xs.length xs ∧ xs.length ≤ cap1 ∧ ∀ p ∈ xs, (Lit.int .i64 p.f0).wf = true ∧ (Lit.int .i64 p.f1).wf = true := by
    obtain ⟨fuel, hf⟩ := h1
    exact C_pairs (by simpa [Value.cells] using hf)
  obtain ⟨a2, rfl, rfl, rfl, w2⟩ := open_int Try.underlying3 (hval 2 3 v2 rfl rfl) h2
  obtain ⟨a3, rfl, rfl, rfl, w3⟩ := open_int Try.underlying3 (hval 3 3 v3 rfl rfl) h3
  obtain ⟨a4, rfl, rfl, rfl, w4⟩ := open_int Try.underlying3 (hval 4 3 v4 rfl rfl) h4
  obtain ⟨a5, rfl, rfl, rfl, y5⟩ := open_string Try.underlying9 (hval 5 9 v5 rfl rfl) h5
  clear hA0 hval0 hsz0 hsz
  obtain ⟨l0, rfl, hr0, hm0, hw0, hc0⟩ := Go.Proofs.YtcalkhlchjjalaaW.PrintWords.ReadsInt.ofRowC w0
  subst hz1
  obtain ⟨k, hk⟩ := PureMd.MarkDoes l0 z1 a2 a3 a4 a5 hw1 w3
  refine (Q.storagebarterlaw14_MarkDoes.calls k a0 cap0 l0 a1 cap1 z1 a2 a3 a4 a5 true W (Go.Proofs.YtcalkhlchjjalaaW.PrintWords.Kd.C_of_reads (d := (0 : Int)) (h1 := fun _ => rfl) hr0) hc0 w1 hc1 hk rfl).mono fun e W' ⟨he, bel⟩ => ?_
  subst he
  exact ⟨_, rfl, _, _, _, [], _, [], hW', trodAll_mk1 (shut_bool Try.underlying4 _), (trodAll_cons_mk (Below.trod laidOut (by kernel_rfl) (of_decide_eq_true (by kernel_rfl)) k0 bel lt0) (trodAll_cons_mk (Below.trod laidOut (by kernel_rfl) (of_decide_eq_true (by kernel_rfl)) k1 bel lt1) (trodAll_cons_mk (shut_int Try.underlying3 w2) (trodAll_cons_mk (shut_int Try.underlying3 w3) (trodAll_cons_mk (shut_int Try.underlying3 w4) (trodAll_cons_mk (shut_string Try.underlying9 y5) trodAll_mk0)))))), rfl, bel.frame _, fun h => by cases h⟩
theorem over : Rows.markDoesRow.holds Try.pinned (OpenSpec.ofChange Rows.markDoesSpec) :=
  OpenClaim.holds_of_wide 3 Try.f3 rfl rfl rfl rfl rfl rfl rfl ⟨rfl, rfl, rfl, rfl, rfl⟩ rfl rfl rfl rfl rfl (by kernel_rfl) Try.func3 (by kernel_rfl)
    (of_decide_eq_true (by kernel_rfl)) (by unfold Func.isWrapper; first | (rw [if_pos (by decide +kernel)]; kernel_rfl) | (rw [if_neg (by decide +kernel)]; exact ⟨rfl, rfl⟩))
    (fun os started H enc _ => lifted os started H enc)
theorem proved : Rows.MarkDoesSaid := over
#print axioms proved
end Go.Proofs.Ytcalkhlchjjalaa.markDoes
namespace Go.Proofs.Ytcalkhlchjjalaa
/-- The row, under a short name, for the claim. -/
theorem markDoes_holds : Rows.MarkDoesSaid := markDoes.proved
end Go.Proofs.Ytcalkhlchjjalaa
