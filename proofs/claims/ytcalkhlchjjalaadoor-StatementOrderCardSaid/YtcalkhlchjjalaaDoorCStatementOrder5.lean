/- StatementOrderCardSaid -/
import Derived.Test.YtcalkhlchjjalaaDoorCStatementOrder4
import Derived.Deep.RegionHeld3
import Derived.Test.YtcalkhlchjjalaaDoorCStatementOrder3
namespace Go.Proofs.YtcalkhlchjjalaaDoor.Q
open Go Go.RowKit Go.Proofs Go.Proofs.YtcalkhlchjjalaaDoor.Gm Go.Proofs.YtcalkhlchjjalaaDoor.Gdm Go.Proofs.YtcalkhlchjjalaaDoor.Gmr Go.Proofs.YtcalkhlchjjalaaDoor.Gsy Go.Proofs.YtcalkhlchjjalaaDoor.Gnx Go.Proofs.YtcalkhlchjjalaaDoor.Gck Go.Proofs.YtcalkhlchjjalaaDoor.Ggd Go.Proofs.YtcalkhlchjjalaaDoorW.PrintWords Go.Proofs.YtcalkhlchjjalaaDoorW.PrintLast Go.Proofs.YtcalkhlchjjalaaDoorW.PrintMore
set_option linter.unusedVariables false
def sm1 : Int := mk_ 7 (bts ⟨1, 2, 1, 0, 5, 1, 3, 9, 10, 8, 0⟩)
def sA : S39 := ⟨1, 2, 1, 0, 5, 1, 3, 9, 10, 8, sm1⟩
def sdg : Int := dg 1 (bts sA)
def sm2 : Int := mk_ 7 (bts ⟨1, 2, 2, sdg, 6, 3, 3, 0, 0, 0, 0⟩)
def sB : S39 := ⟨1, 2, 2, sdg, 6, 3, 3, 0, 0, 0, sm2⟩
def sP : List S25 := [⟨1, 7⟩]
theorem n1_ok : nxt [] 1 7 2 5 1 3 9 10 8 = (sA, 0) := by
 unfold nxt
 rw [if_neg (by decide), if_neg (by decide), if_neg (by simp)]
 show fin 1 7 2 1 0 5 1 3 9 10 8 = _
 unfold fin
 rw [if_pos (by decide)]
 rfl
theorem n2_ok : nxt [sA] 1 7 2 6 3 3 0 0 0 = (sB, 0) := by
 have hr := dg_range (bts sA) 1 (by omega)
 have hd : 0 ≤ sdg ∧ sdg < 2147483647 := hr
 unfold nxt
 rw [if_neg (by decide), if_neg (by decide), if_neg (by rintro ⟨s, hs, h⟩; rw [List.mem_singleton.1 hs] at h; revert h; unfold sA; simp)]
 show (if (6 : Int) < sA.f4 then _ else fin 1 7 2 2 sdg 6 3 3 0 0 0) = _
 rw [if_neg (by unfold sA; simp only; omega)]
 unfold fin
 rw [if_pos ((vldS_iff _).2 ⟨by simp only; omega, by simp only; omega, by simp, by simp only; omega, by simp only; omega, ⟨by simp only; omega, by simp only; omega⟩, .inl (by simp only; omega), by simp only; omega, by simp only; omega, by simp only; omega, by decide⟩)]
 rfl
theorem i64_ {x : Int} (h : -1000000 ≤ x ∧ x ≤ 1000000) : I64 x := by unfold I64; omega
theorem g1_ok : Gd 1 7 2 [sA] := (Gd.nil 1 7 2).snoc n1_ok (i64_ (by omega)) (i64_ (by omega)) (i64_ (by omega)) (i64_ (by omega)) (i64_ (by omega)) (i64_ (by omega)) (i64_ (by omega)) (i64_ (by omega))
theorem g2_ok : Gd 1 7 2 [sA, sB] := g1_ok.snoc n2_ok (i64_ (by omega)) (i64_ (by omega)) (i64_ (by omega)) (i64_ (by omega)) (i64_ (by omega)) (i64_ (by omega)) (i64_ (by omega)) (i64_ (by omega))
theorem hP : Holds sP 1 7 := ⟨by decide, by decide, by decide⟩
theorem sP_wf : sP.all (fun p => (Lit.int .i64 p.f1).wf) = true := by decide
theorem wA : W64 sA := g1_ok.w64 sA (by simp)
theorem wB : W64 sB := g2_ok.w64 sB (by simp)
theorem vA : vldS sA = true := (g2_ok 0 (by simp)).v
theorem vB : vldS sB = true := (g2_ok 1 (by simp)).v
section
variable (w : World)
theorem next1_x (hG : GL w) : Calls Tryd.prog 14 #[.slice none 0 0, .agg #[.int .i64 1, .int .i64 7], .int .i64 2, .int .i64 5, .int .i64 1, .int .i64 3, .int .i64 9, .int .i64 10, .int .i64 8] w fun e w' =>
 e = .returned (.tuple #[.agg #[.int .i64 1, .int .i64 2, .int .i64 1, .int .i64 0, .int .i64 5, .int .i64 1, .int .i64 3, .int .i64 9, .int .i64 10, .int .i64 8, .int .i64 sm1], .int .i64 0]) ∧ Below w.heap.size w w' :=
 next_x none 0 [] 1 7 2 5 1 3 9 10 8 w (Kd.C_nil _ _) (Nat.le_refl _) hG (by simp) (i64_ (by omega)) (i64_ (by omega)) (i64_ (by omega)) (i64_ (by omega)) (i64_ (by omega)) (i64_ (by omega)) (i64_ (by omega)) (i64_ (by omega)) sA 0 n1_ok
theorem next2_x (A : Option Addr) (hC : Kd.C k39 w A 1 [sA]) (hG : GL w) : Calls Tryd.prog 14 #[.slice A 1 1, .agg #[.int .i64 1, .int .i64 7], .int .i64 2, .int .i64 6, .int .i64 3, .int .i64 3, .int .i64 0, .int .i64 0, .int .i64 0] w fun e w' =>
 e = .returned (.tuple #[.agg #[.int .i64 1, .int .i64 2, .int .i64 2, .int .i64 sdg, .int .i64 6, .int .i64 3, .int .i64 3, .int .i64 0, .int .i64 0, .int .i64 0, .int .i64 sm2], .int .i64 0]) ∧ Below w.heap.size w w' :=
 next_x A 1 [sA] 1 7 2 6 3 3 0 0 0 w hC (Nat.le_refl _) hG (fun s hs => by rw [List.mem_singleton.1 hs]; exact wA) (i64_ (by omega)) (i64_ (by omega)) (i64_ (by omega)) (i64_ (by omega)) (i64_ (by omega)) (i64_ (by omega)) (i64_ (by omega)) (i64_ (by omega)) sB 0 n2_ok
theorem bytesA_x : Calls Tryd.prog 25 #[.agg #[.int .i64 1, .int .i64 2, .int .i64 1, .int .i64 0, .int .i64 5, .int .i64 1, .int .i64 3, .int .i64 9, .int .i64 10, .int .i64 8, .int .i64 sm1]] w fun e w' => e = .returned (.string (B (bts sA))) ∧ Below w.heap.size w w' := bytes_x 1 2 1 0 5 1 3 9 10 8 sm1 wA w
theorem sumA_x : Calls Tryd.prog 26 #[.string (B (bts sA))] w fun e w' => e = .returned (.int .i64 sdg) ∧ Below w.heap.size w w' := sum_x _ (Nat.le_trans (bts_len wA) (by omega)) w
theorem check2_x (A9 A0 : Option Addr) (h9 : Kd.C k25 w A9 1 sP) (h0 : Kd.C k39 w A0 2 [sA, sB]) (hG : GL w) : Calls Tryd.prog 18 #[.slice A9 1 1, .slice A0 2 2] w fun e w' => e = .returned (.int .i64 0) ∧ Below w.heap.size w w' :=
 check_x A9 1 sP A0 2 [sA, sB] w h9 (Nat.le_refl _) h0 (Nat.le_refl _) hG sP_wf g2_ok.w64 0 (g2_ok.chk hP (by decide))
theorem verB_x (A9 : Option Addr) (h9 : Kd.C k25 w A9 1 sP) (hG : GL w) : Calls Tryd.prog 20 #[.slice A9 1 1, .agg #[.int .i64 1, .int .i64 2, .int .i64 2, .int .i64 sdg, .int .i64 6, .int .i64 3, .int .i64 3, .int .i64 0, .int .i64 0, .int .i64 0, .int .i64 sm2]] w fun e w' => e = .returned (.bool true) ∧ Below w.heap.size w w' :=
 statement_Verified.calls 200 A9 1 sP 1 2 2 sdg 6 3 3 0 0 0 sm2 true w h9 (Nat.le_refl _) (by have h := Verified_eq sP sP_wf sB wB 200 (Nat.le_refl _); rw [verS_ok hP vB rfl rfl] at h; exact h) hG
theorem con_x (hG : GL w) : Calls Tryd.prog 21 #[.agg #[.int .i64 1, .int .i64 2, .int .i64 1, .int .i64 0, .int .i64 5, .int .i64 1, .int .i64 3, .int .i64 9, .int .i64 10, .int .i64 8, .int .i64 sm1], .agg #[.int .i64 1, .int .i64 2, .int .i64 2, .int .i64 sdg, .int .i64 6, .int .i64 3, .int .i64 3, .int .i64 0, .int .i64 0, .int .i64 0, .int .i64 sm2]] w fun e w' => e = .returned (.bool false) ∧ Below w.heap.size w w' :=
 statement_Contradict.calls 1 2 1 0 5 1 3 9 10 8 sm1 1 2 2 sdg 6 3 3 0 0 0 sm2 false w (by
  unfold statement_Contradict.f statement_Valid.f
  rw [Option.bind_some, if_pos (show vldB 1 2 1 0 5 1 3 9 10 8 sm1 = true from vA), Option.bind_some, if_pos (show vldB 1 2 2 sdg 6 3 3 0 0 0 sm2 = true from vB), if_pos rfl, if_pos rfl, if_neg (by decide)]) hG
theorem same_x : Calls Tryd.prog 23 #[.agg #[.int .i64 1, .int .i64 2, .int .i64 1, .int .i64 0, .int .i64 5, .int .i64 1, .int .i64 3, .int .i64 9, .int .i64 10, .int .i64 8, .int .i64 sm1], .agg #[.int .i64 1, .int .i64 2, .int .i64 1, .int .i64 0, .int .i64 5, .int .i64 1, .int .i64 3, .int .i64 9, .int .i64 10, .int .i64 8, .int .i64 sm1]] w fun e w' => e = .returned (.bool true) ∧ Below w.heap.size w w' :=
 statement_Same.calls 1 2 1 0 5 1 3 9 10 8 sm1 1 2 1 0 5 1 3 9 10 8 sm1 true w (by unfold statement_Same.f; rfl)
end
theorem repsA (W : World) : Reps ((k39).K W) (k39).sz [sA] [.int .i64 1, .int .i64 2, .int .i64 1, .int .i64 0, .int .i64 5, .int .i64 1, .int .i64 3, .int .i64 9, .int .i64 10, .int .i64 8, .int .i64 sm1] := Reps.front (k39_mk W sA) rfl (Reps.none _ _) rfl
theorem repsAB (W : World) : Reps ((k39).K W) (k39).sz [sA, sB] [.int .i64 1, .int .i64 2, .int .i64 1, .int .i64 0, .int .i64 5, .int .i64 1, .int .i64 3, .int .i64 9, .int .i64 10, .int .i64 8, .int .i64 sm1, .int .i64 1, .int .i64 2, .int .i64 2, .int .i64 sdg, .int .i64 6, .int .i64 3, .int .i64 3, .int .i64 0, .int .i64 0, .int .i64 0, .int .i64 sm2] := Reps.front (k39_mk W sA) rfl (Reps.front (k39_mk W sB) rfl (Reps.none _ _) rfl) rfl
theorem repsP (W : World) : Reps ((k25).K W) (k25).sz sP [.int .i64 1, .int .i64 7] := Reps.front (k25_mk W ⟨1, 7⟩) rfl (Reps.none _ _) rfl
structure SnAll (w : World) (ga gb gp : Nat) (W : World) : Prop where
 hb : Below w.heap.size w W
 a : W.heap[ga]? = some (.cells #[.int .i64 1, .int .i64 2, .int .i64 1, .int .i64 0, .int .i64 5, .int .i64 1, .int .i64 3, .int .i64 9, .int .i64 10, .int .i64 8, .int .i64 sm1] 39 (0, 0))
 b : W.heap[gb]? = some (.cells #[.int .i64 1, .int .i64 2, .int .i64 2, .int .i64 sdg, .int .i64 6, .int .i64 3, .int .i64 3, .int .i64 0, .int .i64 0, .int .i64 0, .int .i64 sm2] 39 (0, 0))
 p : Kd.C k25 W (some ⟨gp, 0, none⟩) 1 sP
theorem SnAll.below {w W W' : World} {ga gb gp : Nat} (h : SnAll w ga gb gp W) (hb : Below W.heap.size W W') : SnAll w ga gb gp W' :=
 ⟨below_step h.hb hb, blk_below h.a hb, blk_below h.b hb, Kd.C_below h.p hb⟩
theorem SnAll.drew {w W : World} {ga gb gp : Nat} (h : SnAll w ga gb gp W) : SnAll w ga gb gp W.drew := h.below (below_drew1 (Below.refl _ _))
theorem SnAll.alloc {w W : World} {ga gb gp : Nat} (h : SnAll w ga gb gp W) (o : Obj) : SnAll w ga gb gp (W.alloc o) := h.below (below_alloc (Below.refl _ _) o)
theorem SnAll.all {w W : World} {ga gb gp : Nat} (h : SnAll w ga gb gp W) : (SnAll w ga gb gp W ∧ W.cell? ⟨ga, 0, none⟩ = some (.int .i64 1) ∧ W.cell? ⟨ga, 1, none⟩ = some (.int .i64 2) ∧ W.cell? ⟨ga, 2, none⟩ = some (.int .i64 1) ∧ W.cell? ⟨ga, 3, none⟩ = some (.int .i64 0) ∧ W.cell? ⟨ga, 4, none⟩ = some (.int .i64 5) ∧ W.cell? ⟨ga, 5, none⟩ = some (.int .i64 1) ∧ W.cell? ⟨ga, 6, none⟩ = some (.int .i64 3) ∧ W.cell? ⟨ga, 7, none⟩ = some (.int .i64 9) ∧ W.cell? ⟨ga, 8, none⟩ = some (.int .i64 10) ∧ W.cell? ⟨ga, 9, none⟩ = some (.int .i64 8) ∧ W.cell? ⟨ga, 10, none⟩ = some (.int .i64 sm1) ∧ W.cell? ⟨gb, 0, none⟩ = some (.int .i64 1) ∧ W.cell? ⟨gb, 1, none⟩ = some (.int .i64 2) ∧ W.cell? ⟨gb, 2, none⟩ = some (.int .i64 2) ∧ W.cell? ⟨gb, 3, none⟩ = some (.int .i64 sdg) ∧ W.cell? ⟨gb, 4, none⟩ = some (.int .i64 6) ∧ W.cell? ⟨gb, 5, none⟩ = some (.int .i64 3) ∧ W.cell? ⟨gb, 6, none⟩ = some (.int .i64 3) ∧ W.cell? ⟨gb, 7, none⟩ = some (.int .i64 0) ∧ W.cell? ⟨gb, 8, none⟩ = some (.int .i64 0) ∧ W.cell? ⟨gb, 9, none⟩ = some (.int .i64 0) ∧ W.cell? ⟨gb, 10, none⟩ = some (.int .i64 sm2)) := ⟨h, (blk_cell h.a 0).trans rfl, (blk_cell h.a 1).trans rfl, (blk_cell h.a 2).trans rfl, (blk_cell h.a 3).trans rfl, (blk_cell h.a 4).trans rfl, (blk_cell h.a 5).trans rfl, (blk_cell h.a 6).trans rfl, (blk_cell h.a 7).trans rfl, (blk_cell h.a 8).trans rfl, (blk_cell h.a 9).trans rfl, (blk_cell h.a 10).trans rfl, (blk_cell h.b 0).trans rfl, (blk_cell h.b 1).trans rfl, (blk_cell h.b 2).trans rfl, (blk_cell h.b 3).trans rfl, (blk_cell h.b 4).trans rfl, (blk_cell h.b 5).trans rfl, (blk_cell h.b 6).trans rfl, (blk_cell h.b 7).trans rfl, (blk_cell h.b 8).trans rfl, (blk_cell h.b 9).trans rfl, (blk_cell h.b 10).trans rfl⟩
theorem check_sn {w W W1 : World} {ga gb gp : Nat} (hG : GL w) (h : SnAll w ga gb gp W1) (hd : Below (W.alloc (.cells #[.int .i64 1, .int .i64 2, .int .i64 1, .int .i64 0, .int .i64 5, .int .i64 1, .int .i64 3, .int .i64 9, .int .i64 10, .int .i64 8, .int .i64 sm1, .int .i64 1, .int .i64 2, .int .i64 2, .int .i64 sdg, .int .i64 6, .int .i64 3, .int .i64 3, .int .i64 0, .int .i64 0, .int .i64 0, .int .i64 sm2] 39)).heap.size (W.alloc (.cells #[.int .i64 1, .int .i64 2, .int .i64 1, .int .i64 0, .int .i64 5, .int .i64 1, .int .i64 3, .int .i64 9, .int .i64 10, .int .i64 8, .int .i64 sm1, .int .i64 1, .int .i64 2, .int .i64 2, .int .i64 sdg, .int .i64 6, .int .i64 3, .int .i64 3, .int .i64 0, .int .i64 0, .int .i64 0, .int .i64 sm2] 39)) W1) : Calls Tryd.prog 18 #[.slice (some ⟨gp, 0, none⟩) 1 1, .slice (some ⟨W.heap.size, 0, none⟩) 2 2] W1 fun e w' => e = .returned (.int .i64 0) ∧ Below W1.heap.size W1 w' :=
 check2_x _ _ _ h.p (Kd.C_below (Grl.C_of_lit (k39) W 39 (repsAB _) (by decide)) hd) (hG.step h.hb)
section
variable {w W : World} {ga gb gp : Nat} (hG : GL w) (h : SnAll w ga gb gp W)
include hG h
theorem ver_sn : Calls Tryd.prog 20 #[.slice (some ⟨gp, 0, none⟩) 1 1, .agg #[.int .i64 1, .int .i64 2, .int .i64 2, .int .i64 sdg, .int .i64 6, .int .i64 3, .int .i64 3, .int .i64 0, .int .i64 0, .int .i64 0, .int .i64 sm2]] W fun e w' => e = .returned (.bool true) ∧ Below W.heap.size W w' := verB_x _ _ h.p (hG.step h.hb)
theorem con_sn : Calls Tryd.prog 21 #[.agg #[.int .i64 1, .int .i64 2, .int .i64 1, .int .i64 0, .int .i64 5, .int .i64 1, .int .i64 3, .int .i64 9, .int .i64 10, .int .i64 8, .int .i64 sm1], .agg #[.int .i64 1, .int .i64 2, .int .i64 2, .int .i64 sdg, .int .i64 6, .int .i64 3, .int .i64 3, .int .i64 0, .int .i64 0, .int .i64 0, .int .i64 sm2]] W fun e w' => e = .returned (.bool false) ∧ Below W.heap.size W w' := con_x _ (hG.step h.hb)
end
set_option maxRecDepth 100000 in
set_option maxHeartbeats 8000000 in
theorem sane_x (w : World) (hG : GL w) : Calls Tryd.prog 8 #[] w fun e w' => e = .returned (.bool true) ∧ Below w.heap.size w w' := by
 have mixed : (Tryd.prog).follows .mixedOrders = true := by kernel_rfl
 have hu39 := Tryd.underlying39
 have hu25 := Tryd.underlying25
 have HG := Aside0.mk hG
 clear hG
 go_enter Tryd.func8, Tryd.ntmps8
 go_upto_region 5 with (first | (go_at_call 14; with_reducible refine (next1_x _ ?gl).mono ?_; (case gl => exact HG.out.alloc _); rintro e w2 ⟨rfl, hb⟩; have HB := Aside0.mk (below_step (below_alloc (Below.refl w.heap.size w) (.cells #[.int .i64 1, .int .i64 7] 25)) hb); have HPB := Aside0.mk (blk_below (heap_alloc_new w (.cells #[.int .i64 1, .int .i64 7] 25)) hb); clear hb; have hp0 : w2.cell? ⟨w.heap.size, 0, none⟩ = some (.int .i64 1) := (blk_cell HPB.out 0).trans rfl; have hp1 : w2.cell? ⟨w.heap.size, 1, none⟩ = some (.int .i64 7) := (blk_cell HPB.out 1).trans rfl; have hpz : w.heap.size < w2.heap.size := blk_lt HPB.out; have HC1 : Aside0 (Kd.C k39 ((w2.alloc (.cells #[.int .i64 1, .int .i64 2, .int .i64 1, .int .i64 0, .int .i64 5, .int .i64 1, .int .i64 3, .int .i64 9, .int .i64 10, .int .i64 8, .int .i64 sm1] 39)).alloc (.cells #[.int .i64 1, .int .i64 2, .int .i64 1, .int .i64 0, .int .i64 5, .int .i64 1, .int .i64 3, .int .i64 9, .int .i64 10, .int .i64 8, .int .i64 sm1] 39)) (some ⟨w2.heap.size + 1, 0, none⟩) 1 [sA]) := ⟨by have h := Grl.C_of_lit (k39) (w2.alloc (.cells #[.int .i64 1, .int .i64 2, .int .i64 1, .int .i64 0, .int .i64 5, .int .i64 1, .int .i64 3, .int .i64 9, .int .i64 10, .int .i64 8, .int .i64 sm1] 39)) 39 (repsA _) (by decide); simpa using h⟩) | (go_at_call 14; with_reducible refine (next2_x _ _ HC1.out ?gl).mono ?_; (case gl => exact HG.out.step (below_alloc (below_alloc HB.out _) _)); rintro e w4 ⟨rfl, hb⟩; have n1_ := Aside0.mk (below_step (below_alloc (below_alloc HB.out _) _) hb); have HA := Aside0.mk (blk_below (blk_alloc (heap_alloc_new w2 (.cells #[.int .i64 1, .int .i64 2, .int .i64 1, .int .i64 0, .int .i64 5, .int .i64 1, .int .i64 3, .int .i64 9, .int .i64 10, .int .i64 8, .int .i64 sm1] 39)) (.cells #[.int .i64 1, .int .i64 2, .int .i64 1, .int .i64 0, .int .i64 5, .int .i64 1, .int .i64 3, .int .i64 9, .int .i64 10, .int .i64 8, .int .i64 sm1] 39)) hb); have n2_ := Aside0.mk (blk_below (blk_alloc (blk_alloc HPB.out _) _) hb); clear HB HPB hb HC1; have HB := n1_; have HPB := n2_; clear n1_ n2_; have hp0_ : w4.cell? ⟨w.heap.size, 0, none⟩ = some (.int .i64 1) := (blk_cell HPB.out 0).trans rfl; have hp1_ : w4.cell? ⟨w.heap.size, 1, none⟩ = some (.int .i64 7) := (blk_cell HPB.out 1).trans rfl; have hpz_ : w.heap.size < w4.heap.size := blk_lt HPB.out))
 have HS : SnAll w w2.heap.size w4.heap.size (w4.heap.size + 1) ((w4.alloc (.cells #[.int .i64 1, .int .i64 2, .int .i64 2, .int .i64 sdg, .int .i64 6, .int .i64 3, .int .i64 3, .int .i64 0, .int .i64 0, .int .i64 0, .int .i64 sm2] 39)).alloc (.cells #[.int .i64 1, .int .i64 7] 25)) :=
  ⟨below_alloc (below_alloc HB.out _) _, blk_alloc (blk_alloc HA.out _) _, blk_alloc (heap_alloc_new w4 _) _, by have h : Kd.C k25 _ _ 1 sP := Grl.C_of_lit (k25) (w4.alloc (.cells #[.int .i64 1, .int .i64 2, .int .i64 2, .int .i64 sdg, .int .i64 6, .int .i64 3, .int .i64 3, .int .i64 0, .int .i64 0, .int .i64 0, .int .i64 sm2] 39)) 25 (repsP _) (by decide); simpa using h⟩
 obtain ⟨W5, hW5⟩ : ∃ W5, W5 = ((w4.alloc (.cells #[.int .i64 1, .int .i64 2, .int .i64 2, .int .i64 sdg, .int .i64 6, .int .i64 3, .int .i64 3, .int .i64 0, .int .i64 0, .int .i64 0, .int .i64 sm2] 39)).alloc (.cells #[.int .i64 1, .int .i64 7] 25)) := ⟨_, rfl⟩
 rw [← hW5] at HS ⊢
 clear hW5 HB HPB HA hp0 hp1 hp0_ hp1_ hpz hpz_
 generalize w4.heap.size + 1 = gp at HS ⊢
 generalize w4.heap.size = gb at HS ⊢
 generalize w2.heap.size = ga at HS ⊢
 have HSA := HS.all
 go_region_held3 (fun W => (SnAll w ga gb gp W ∧ W.cell? ⟨ga, 0, none⟩ = some (.int .i64 1) ∧ W.cell? ⟨ga, 1, none⟩ = some (.int .i64 2) ∧ W.cell? ⟨ga, 2, none⟩ = some (.int .i64 1) ∧ W.cell? ⟨ga, 3, none⟩ = some (.int .i64 0) ∧ W.cell? ⟨ga, 4, none⟩ = some (.int .i64 5) ∧ W.cell? ⟨ga, 5, none⟩ = some (.int .i64 1) ∧ W.cell? ⟨ga, 6, none⟩ = some (.int .i64 3) ∧ W.cell? ⟨ga, 7, none⟩ = some (.int .i64 9) ∧ W.cell? ⟨ga, 8, none⟩ = some (.int .i64 10) ∧ W.cell? ⟨ga, 9, none⟩ = some (.int .i64 8) ∧ W.cell? ⟨ga, 10, none⟩ = some (.int .i64 sm1) ∧ W.cell? ⟨gb, 0, none⟩ = some (.int .i64 1) ∧ W.cell? ⟨gb, 1, none⟩ = some (.int .i64 2) ∧ W.cell? ⟨gb, 2, none⟩ = some (.int .i64 2) ∧ W.cell? ⟨gb, 3, none⟩ = some (.int .i64 sdg) ∧ W.cell? ⟨gb, 4, none⟩ = some (.int .i64 6) ∧ W.cell? ⟨gb, 5, none⟩ = some (.int .i64 3) ∧ W.cell? ⟨gb, 6, none⟩ = some (.int .i64 3) ∧ W.cell? ⟨gb, 7, none⟩ = some (.int .i64 0) ∧ W.cell? ⟨gb, 8, none⟩ = some (.int .i64 0) ∧ W.cell? ⟨gb, 9, none⟩ = some (.int .i64 0) ∧ W.cell? ⟨gb, 10, none⟩ = some (.int .i64 sm2))) (((try go_split_ands); first | (refine SnAll.all (SnAll.drew ?_); assumption) | (refine SnAll.all ?_; assumption) | (refine SnAll.all (SnAll.alloc ?_ _); assumption) | (refine SnAll.all (SnAll.below ?_ hb); assumption)))
  (first | (go_at_call 25; with_reducible refine (bytesA_x _).mono ?_; rintro e w' ⟨rfl, hb⟩) | (go_at_call 26; with_reducible refine (sumA_x _).mono ?_; rintro e w' ⟨rfl, hb⟩) | (go_at_call 18; (try go_split_ands); with_reducible refine (check_sn HG.out (by assumption) (Below.refl _ _)).mono ?_; rintro e w' ⟨rfl, hb⟩) | (go_at_call 20; (try go_split_ands); with_reducible refine (ver_sn HG.out (by assumption)).mono ?_; rintro e w' ⟨rfl, hb⟩) | (go_at_call 21; (try go_split_ands); with_reducible refine (con_sn HG.out (by assumption)).mono ?_; rintro e w' ⟨rfl, hb⟩) | (go_at_call 23; with_reducible refine (same_x _).mono ?_; rintro e w' ⟨rfl, hb⟩))
 all_goals
  (try go_split_ands)
  go_wp2
  go_ret
  refine ⟨rfl, ?_⟩
  refine SnAll.hb (ga := ga) (gb := gb) (gp := gp) ?_
  assumption
def storagebarterlaw15_sane.f : Option Bool := some true
theorem storagebarterlaw15_sane.calls (r : Bool) (w : World) (h : storagebarterlaw15_sane.f = some r) (hGL : GL w := by first | exact hGL | exact Aside0.out HGL | exact GL.step (Aside0.out HGL) (by repeat (first | (with_reducible first | exact HB.out | apply below_alloc | apply pw_below_drewN | apply below_drew1 | refine below_set ?_ (Aside0.out (by assumption))) | exact HB.out))) :
 Calls Tryd.prog 8 #[] w fun e w' => e = .returned (.bool r) ∧ Below w.heap.size w w' := by
 obtain rfl := Option.some.inj h
 exact sane_x w hGL
end Go.Proofs.YtcalkhlchjjalaaDoor.Q

namespace Go.Proofs.YtcalkhlchjjalaaDoor.Gcw
open Go Go.RowKit Go.Proofs Go.Proofs.YtcalkhlchjjalaaDoor.Gm Go.Proofs.YtcalkhlchjjalaaDoor.Gdm Go.Proofs.YtcalkhlchjjalaaDoor.Gmr Go.Proofs.YtcalkhlchjjalaaDoor.Gpp Go.Proofs.YtcalkhlchjjalaaDoor.Gsy Go.Proofs.YtcalkhlchjjalaaDoor.Gnx Go.Proofs.YtcalkhlchjjalaaDoor.Gck Go.Proofs.YtcalkhlchjjalaaDoor.Ggd Go.Proofs.YtcalkhlchjjalaaDoor.Q Go.Proofs.YtcalkhlchjjalaaDoorW.PrintWords Go.Proofs.YtcalkhlchjjalaaDoorW.PrintLast Go.Proofs.YtcalkhlchjjalaaDoorW.PrintMore
set_option linter.unusedVariables false
theorem holds_made {l : List S25} {sec : Int} (h : Made l sec) (hl : l.length ≤ 16) (j : Nat) (hj : j < l.length) : Holds l ((j : Int) + 1) l[j].f1 := by
 refine ⟨h.ck hl, ?_, (h.within hl _ (List.getElem_mem hj)).2⟩
 have h1 := Find_made h hl j hj
 rw [mFind_eq l (h.wf hl)] at h1
 exact Option.some.inj h1
theorem C_heap {W W' : World} {ad : Addr} {n : Nat} {xs : List S25} (h : Kd.C k25 W (some ad) n xs) (he : W'.heap[ad.block]? = W.heap[ad.block]?) : Kd.C k25 W' (some ad) n xs := by
 obtain ⟨h1, h2, h3⟩ := h
 refine ⟨h1, h2, fun hn => ?_⟩
 obtain ⟨a, ea, h4⟩ := h3 hn
 cases ea
 refine ⟨_, rfl, fun j p hj => ?_⟩
 obtain ⟨cs, g1, g2, g3⟩ := h4 j p hj
 refine ⟨cs, g1, ?_, fun i u hu => ?_⟩
 ·rw [k25_open g2]; exact k25_mk _ _
 ·rw [← g3 i u hu]
  have hbl : ∀ q, (ad.add q).block = ad.block := fun q => by unfold Addr.add; split <;> rfl
  unfold World.cell?
  rw [hbl, he]
structure CW (w W : World) (gd : Nat) (L : List Int) (ad : Addr) (ps : List S25) (v9 : Value) (ch : List S39) : Prop where
 hb : Below w.heap.size w W
 dk : ∃ at_, 0 ≤ at_ ∧ IsS57 w W gd L at_
 pe : Kd.C k25 W (some ad) ps.length ps
 ty : ∃ cells, W.heap[ad.block]? = some (.cells cells 25 (0, 0))
 cr : Kd.R k39 39 W w.heap.size (fun _ => True) v9 ch
section
variable {w W W' : World} {gd : Nat} {L : List Int} {ad : Addr} {ps : List S25} {v9 v1 : Value} {ch ch' : List S39}
theorem CW.below (h : CW w W gd L ad ps v9 ch) (hb : Below W.heap.size W W') : CW w W' gd L ad ps v9 ch := by
 obtain ⟨at_, h0, hd⟩ := h.dk
 obtain ⟨cs, hc⟩ := h.ty
 have he := hb.block ad.block (blk_lt hc)
 exact ⟨below_step h.hb hb, ⟨at_, h0, hd.below hb⟩, C_heap h.pe he, ⟨cs, he.trans hc⟩, Kd.R_below h.cr hb⟩
theorem CW.alloc (h : CW w W gd L ad ps v9 ch) (o : Obj) : CW w (W.alloc o) gd L ad ps v9 ch := h.below (below_alloc (Below.refl _ _) o)
theorem CW.drew (h : CW w W gd L ad ps v9 ch) : CW w W.drew gd L ad ps v9 ch := h.below (below_drew1 (Below.refl _ _))
theorem CW.next {at_ : Int} (h : CW w W gd L ad ps v9 ch) (h0 : 0 ≤ at_) (hd : IsS57 w W' gd L at_) (hb : Below w.heap.size w W') (hk : KeepBut W W' gd none) : CW w W' gd L ad ps v9 ch := by
 obtain ⟨at0, -, A0, c0, hbg, -, -⟩ := h.dk
 obtain ⟨cs, hc⟩ := h.ty
 have hne : ad.block ≠ gd := by
  rintro e
  rw [e, hbg] at hc
  injection hc with hc
  injection hc with _ hc
  exact absurd hc (by decide)
 have he := hk.2 ad.block (blk_lt hc) hne (by simp)
 exact ⟨hb, ⟨at_, h0, hd⟩, C_heap h.pe he, ⟨cs, he.trans hc⟩, Kd.R_mono (Kd.R_keep (Kd.R_types h.cr hbg (by first | decide | (intro q hq; rcases List.mem_cons.1 hq with h_ | h_; (subst h_; decide); (first | (cases h_; done) | (simp [k39] at h_))))) hk (fun _ z => z.2)) (fun _ _ => trivial)⟩
theorem CW.app (h : CW w W gd L ad ps v9 ch) (hr : Kd.R k39 39 W' w.heap.size (fun _ => True) v1 ch') (hb : Below w.heap.size w W') (hg : W.grownBy W' v9.ownBlock) : CW w W' gd L ad ps v1 ch' := by
 obtain ⟨at_, h0, hd⟩ := h.dk
 obtain ⟨cs, hc⟩ := h.ty
 have he : W'.heap[ad.block]? = W.heap[ad.block]? := (blk_grown hc hg (Kd.R_ne h.cr hc (by decide))).trans hc.symm
 exact ⟨hb, ⟨at_, h0, hd.grown hg (hd.own_ne h.cr (by decide))⟩, C_heap h.pe he, ⟨cs, he.trans hc⟩, hr⟩
theorem CW.turn (h : CW w W gd L ad ps v9 ch) (hL : L.length ≤ 1000000) (n : Int) (hn : 1 ≤ n ∧ n ≤ 100000) : Calls Tryd.prog 16 #[.pointer (some ⟨gd, 0, none⟩), .int .i64 n] W fun e w' => ∃ t : Int, e = .returned (.int .i64 t) ∧ 0 ≤ t ∧ t < n ∧ CW w w' gd L ad ps v9 ch := by
 obtain ⟨at_, h0, hd⟩ := h.dk
 obtain ⟨t, a1, e, p, q, h1⟩ := next_ok L at_ n hn.1 (by omega) h0 hL
 refine (storagebartermake_Deck_Next.calls gd L at_ n t a1 w W hd h.hb e).mono fun e' w' z => ?_
 obtain ⟨rfl, z1, z2, z3⟩ := z
 exact ⟨t, rfl, p, q, h.next h1 z1 z2 z3⟩
structure ZB (w W : World) (gz : Nat) (v9 : Value) (cs : Array Value) : Prop where
 b : W.heap[gz]? = some (.cells cs 39 (0, 0))
 ne : some gz ≠ v9.ownBlock
 le : w.heap.size ≤ gz
theorem ZB.below {gz : Nat} {cs : Array Value} (z : ZB w W gz v9 cs) (hb : Below W.heap.size W W') : ZB w W' gz v9 cs := ⟨blk_below z.b hb, z.ne, z.le⟩
theorem ZB.set {gz : Nat} {cs : Array Value} (z : ZB w W gz v9 cs) (i : Nat) (v : Value) : ZB w (W.setCell ⟨gz, i, none⟩ v) gz v9 (cs.setIfInBounds i v) := ⟨blk_put z.b i v rfl, z.ne, z.le⟩
theorem CW.far {gz : Nat} {cs : Array Value} (h : CW w W gd L ad ps v9 ch) (z : ZB w W gz v9 cs) (i : Nat) (v : Value) : CW w (W.setCell ⟨gz, i, none⟩ v) gd L ad ps v9 ch := by
 obtain ⟨at0, h0, hd⟩ := h.dk
 obtain ⟨A0, c0, hbg, hg1, hg2⟩ := id hd
 obtain ⟨cs2, hc⟩ := h.ty
 have n1 : gd ≠ gz := by
  rintro rfl
  rw [z.b] at hbg
  injection hbg with hbg
  injection hbg with _ hbg
  exact absurd hbg (by decide)
 have n2 : ad.block ≠ gz := by
  intro e
  rw [e, z.b] at hc
  injection hc with hc
  injection hc with _ hc
  exact absurd hc (by decide)
 have hc' := blk_far (p := ⟨gz, i, none⟩) hc n2 v
 have hr : Kd.R k39 39 W w.heap.size (fun k => k ≠ gz) v9 ch := ⟨fun k hk e => z.ne (by rw [hk, e]), h.cr.2.imp_ (fun p c hm => by rw [k39_openM hm]; exact k39_mkM _ _ _ _)⟩
 exact ⟨below_set h.hb z.le, ⟨at0, h0, hd.far n1 v⟩, C_heap h.pe (hc'.trans hc.symm), ⟨cs2, hc'⟩, Kd.R_mono (Kd.R_far (p := ⟨gz, i, none⟩) hr (fun _ hk => hk) v) (fun _ _ => trivial)⟩
theorem CW.far11 {gz : Nat} {cs : Array Value} (h : CW w W gd L ad ps v9 ch) (z : ZB w W gz v9 cs) (v0 v1 v2 v3 v4 v5 v6 v7 v8 va vb : Value) :
 CW w (((((((((((W.setCell ⟨gz, 0, none⟩ v0).setCell ⟨gz, 1, none⟩ v1).setCell ⟨gz, 2, none⟩ v2).setCell ⟨gz, 3, none⟩ v3).setCell ⟨gz, 4, none⟩ v4).setCell ⟨gz, 5, none⟩ v5).setCell ⟨gz, 6, none⟩ v6).setCell ⟨gz, 7, none⟩ v7).setCell ⟨gz, 8, none⟩ v8).setCell ⟨gz, 9, none⟩ va).setCell ⟨gz, 10, none⟩ vb) gd L ad ps v9 ch := by
 have c0 := h.far z 0 v0
 have z0 := z.set 0 v0
 have c1 := c0.far z0 1 v1
 have z1 := z0.set 1 v1
 have c2 := c1.far z1 2 v2
 have z2 := z1.set 2 v2
 have c3 := c2.far z2 3 v3
 have z3 := z2.set 3 v3
 have c4 := c3.far z3 4 v4
 have z4 := z3.set 4 v4
 have c5 := c4.far z4 5 v5
 have z5 := z4.set 5 v5
 have c6 := c5.far z5 6 v6
 have z6 := z5.set 6 v6
 have c7 := c6.far z6 7 v7
 have z7 := z6.set 7 v7
 have c8 := c7.far z7 8 v8
 have z8 := z7.set 8 v8
 have c9 := c8.far z8 9 va
 have z9 := z8.set 9 va
 exact c9.far z9 10 vb
theorem ZB.put11 {gz : Nat} {x0 x1 x2 x3 x4 x5 x6 x7 x8 x9 xa : Value} (z : ZB w W gz v9 #[x0, x1, x2, x3, x4, x5, x6, x7, x8, x9, xa]) (v0 v1 v2 v3 v4 v5 v6 v7 v8 v9_ va : Value) :
 ZB w (((((((((((W.setCell ⟨gz, 0, none⟩ v0).setCell ⟨gz, 1, none⟩ v1).setCell ⟨gz, 2, none⟩ v2).setCell ⟨gz, 3, none⟩ v3).setCell ⟨gz, 4, none⟩ v4).setCell ⟨gz, 5, none⟩ v5).setCell ⟨gz, 6, none⟩ v6).setCell ⟨gz, 7, none⟩ v7).setCell ⟨gz, 8, none⟩ v8).setCell ⟨gz, 9, none⟩ v9_).setCell ⟨gz, 10, none⟩ va) gz v9 #[v0, v1, v2, v3, v4, v5, v6, v7, v8, v9_, va] := ⟨Gnx.put11 _ _ _ _ _ _ _ _ _ _ _ _ _ _ _ _ _ _ _ _ _ _ z.b, z.ne, z.le⟩
end
end Go.Proofs.YtcalkhlchjjalaaDoor.Gcw

namespace Go.Proofs.YtcalkhlchjjalaaDoor.Q
open Go.RowKit Go.Proofs.YtcalkhlchjjalaaDoorW.PrintWords Go.Proofs.YtcalkhlchjjalaaDoorW.PrintLast Go.Proofs.YtcalkhlchjjalaaDoorW.PrintMore Go.Proofs.YtcalkhlchjjalaaDoor.Gput
attribute [local go_sem] max2_int min2_int max_two min_two max_three min_three max_four min_four   -- for this text's walks alone
set_option linter.unusedVariables false
set_option linter.unusedSimpArgs false
def storagebarterref15_Bytes.l0 : Nat → ByteArray → List Int → Int → Int → Option (ByteArray)
 | 0, _, _, _, _ => none
 | k + 1, x3, x26, x27, x28 => if x28 < x27 then (if 0 ≤ x28 then (if x28 < (x26.length : Int) then ((storagebarterref01_PutInt.f k x3 (rd x26 x28)).bind fun t148 => (storagebarterref15_Bytes.l0 k t148 x26 x27 (wrap64 (x28 + 1)))) else (none)) else (none)) else (some x3)
def storagebarterref15_Bytes.f (k : Nat) (a0_0 : Int) (a0_1 : Int) (a0_2 : Int) (a0_3 : Int) (a0_4 : Int) (a0_5 : Int) (a0_6 : Int) (a0_7 : Int) (a0_8 : Int) (a0_9 : Int) (a0_10 : Int) : Option (ByteArray) := (some (([a0_0, a0_1, a0_2, a0_3, a0_4, a0_5, a0_6, a0_7, a0_8, a0_9] : List Int) : List Int)).bind fun y144 => (storagebarterref15_Bytes.l0 k (⟨#[]⟩ : ByteArray) y144 (y144.length : Int) 0)
theorem storagebarterref15_Bytes.mono_l : ∀ k, (∀ y0 y1 y2 y3, LeO (storagebarterref15_Bytes.l0 k y0 y1 y2 y3) (storagebarterref15_Bytes.l0 (k + 1) y0 y1 y2 y3))
 | 0 => fun _ _ _ _ r h => by simp [storagebarterref15_Bytes.l0] at h
 | k + 1 => by
  have ih0 := storagebarterref15_Bytes.mono_l k
  ·intro y0 y1 y2 y3
   unfold storagebarterref15_Bytes.l0
   repeat' first
   | (with_reducible exact ih0 _ _ _ _)
   | (with_reducible exact storagebarterref01_PutInt.mono _ _ _)
   | (with_reducible exact LeO.refl _)
   | (with_reducible exact LeO.none _)
   | (with_reducible refine LeO.ite ?_ ?_)
   | (with_reducible refine LeO.bind ?_ (fun _ => ?_))
   | exact ih0 _ _ _ _
   | exact storagebarterref01_PutInt.mono _ _ _
   | exact LeO.none _
   | refine LeO.ite ?_ ?_
   | refine LeO.bind ?_ (fun _ => ?_)
theorem storagebarterref15_Bytes.mono : ∀ a0 a1 a2 a3 a4 a5 a6 a7 a8 a9 a10 k, LeO (storagebarterref15_Bytes.f k a0 a1 a2 a3 a4 a5 a6 a7 a8 a9 a10) (storagebarterref15_Bytes.f (k + 1) a0 a1 a2 a3 a4 a5 a6 a7 a8 a9 a10) := by
 intro a0 a1 a2 a3 a4 a5 a6 a7 a8 a9 a10 k
 have ih0 := storagebarterref15_Bytes.mono_l k
 unfold storagebarterref15_Bytes.f
 repeat' first
  | (with_reducible exact ih0 _ _ _ _)
  | (with_reducible exact storagebarterref01_PutInt.mono _ _ _)
  | (with_reducible exact LeO.refl _)
  | (with_reducible exact LeO.none _)
  | (with_reducible refine LeO.ite ?_ ?_)
  | (with_reducible refine LeO.bind ?_ (fun _ => ?_))
  | exact ih0 _ _ _ _
  | exact storagebarterref01_PutInt.mono _ _ _
  | exact LeO.none _
  | refine LeO.ite ?_ ?_
  | refine LeO.bind ?_ (fun _ => ?_)
set_option maxHeartbeats 8000000 in
set_option maxRecDepth 100000 in
theorem storagebarterref15_Bytes.calls (k : Nat) (a0_0 : Int) (a0_1 : Int) (a0_2 : Int) (a0_3 : Int) (a0_4 : Int) (a0_5 : Int) (a0_6 : Int) (a0_7 : Int) (a0_8 : Int) (a0_9 : Int) (a0_10 : Int) (r : ByteArray) (w : World) (h : storagebarterref15_Bytes.f k a0_0 a0_1 a0_2 a0_3 a0_4 a0_5 a0_6 a0_7 a0_8 a0_9 a0_10 = some r) :
 Calls Tryd.prog 32 #[.agg #[.int .i64 a0_0, .int .i64 a0_1, .int .i64 a0_2, .int .i64 a0_3, .int .i64 a0_4, .int .i64 a0_5, .int .i64 a0_6, .int .i64 a0_7, .int .i64 a0_8, .int .i64 a0_9, .int .i64 a0_10]] w fun e w' => e = .returned (.string r) ∧ Below w.heap.size w w' := by
 have hu39 := Tryd.underlying39
 have HB := Aside0.mk (Below.refl w.heap.size w)
 have H : ((some (([a0_0, a0_1, a0_2, a0_3, a0_4, a0_5, a0_6, a0_7, a0_8, a0_9] : List Int) : List Int)).bind fun y144 => (storagebarterref15_Bytes.l0 k (⟨#[]⟩ : ByteArray) y144 (y144.length : Int) 0)) = some r := h
 clear h
 obtain ⟨y144, hy144⟩ : ∃ y_ : List Int, y_ = (([a0_0, a0_1, a0_2, a0_3, a0_4, a0_5, a0_6, a0_7, a0_8, a0_9] : List Int)) := ⟨_, rfl⟩
 replace H : (storagebarterref15_Bytes.l0 k (⟨#[]⟩ : ByteArray) y144 (y144.length : Int) 0) = some r := by first | (rw [hy144]; with_reducible exact H) | (have H2_ := (Option.bind_some _ _).symm.trans H; rw [hy144]; with_reducible exact H2_) | (have H2_ := (Option.bind_some _ _).symm.trans H; with_reducible exact H2_) | with_reducible exact H | (rw [hy144]; exact H) | exact H
 have Ny144 := Aside0.mk hy144
 clear hy144
 have H' := Aside0.mk H
 clear H
 go_enter Tryd.func32, Tryd.ntmps32
 go_wp2_with (first | ((with_reducible refine gate_dst (N := 1) rfl ?_); refine box_event ?hg (N := 1) ?hd (cs := #[.int .i64 a0_0, .int .i64 a0_1, .int .i64 a0_2, .int .i64 a0_3, .int .i64 a0_4, .int .i64 a0_5, .int .i64 a0_6, .int .i64 a0_7, .int .i64 a0_8, .int .i64 a0_9, .int .i64 a0_10]) (t := 39) ?hr ?_; (case hd => rfl); (case hg => rfl); (case hr => first | (go_simp; done) | (go_simp; rfl)); intro gb143 hg w2 hbox hb; have n0_ := Aside0.mk (below_step (by repeat (first | (with_reducible first | exact HB.out | apply below_alloc | apply pw_below_drewN | apply below_drew1) | exact HB.out)) hb); have n1_ := Aside0.mk (hbox); have n2_ := Aside0.mk ((by rw [hg]; exact (below_size (by repeat (first | (with_reducible first | exact HB.out | apply below_alloc | apply pw_below_drewN | apply below_drew1) | exact HB.out))) : w.heap.size ≤ gb143)); have n3_ := Aside0.mk ((by rw [hg]; exact (below_size (by repeat (first | (with_reducible first | exact HB.out | apply below_alloc | apply pw_below_drewN | apply below_drew1) | exact HB.out))) : w.heap.size ≤ gb143)); clear HB; have HB := n0_; have BK143 := n1_; have GW143 := n2_; have GE143 := n3_; clear n0_ n1_ n2_ n3_; clear hb hbox hg; have hcz3_0 : w2.cell? ⟨gb143, 0, none⟩ = some (.int .i64 a0_0) := (blk_cell BK143.out 0).trans rfl; have hcz3_1 : w2.cell? ⟨gb143, 1, none⟩ = some (.int .i64 a0_1) := (blk_cell BK143.out 1).trans rfl; have hcz3_2 : w2.cell? ⟨gb143, 2, none⟩ = some (.int .i64 a0_2) := (blk_cell BK143.out 2).trans rfl; have hcz3_3 : w2.cell? ⟨gb143, 3, none⟩ = some (.int .i64 a0_3) := (blk_cell BK143.out 3).trans rfl; have hcz3_4 : w2.cell? ⟨gb143, 4, none⟩ = some (.int .i64 a0_4) := (blk_cell BK143.out 4).trans rfl; have hcz3_5 : w2.cell? ⟨gb143, 5, none⟩ = some (.int .i64 a0_5) := (blk_cell BK143.out 5).trans rfl; have hcz3_6 : w2.cell? ⟨gb143, 6, none⟩ = some (.int .i64 a0_6) := (blk_cell BK143.out 6).trans rfl; have hcz3_7 : w2.cell? ⟨gb143, 7, none⟩ = some (.int .i64 a0_7) := (blk_cell BK143.out 7).trans rfl; have hcz3_8 : w2.cell? ⟨gb143, 8, none⟩ = some (.int .i64 a0_8) := (blk_cell BK143.out 8).trans rfl; have hcz3_9 : w2.cell? ⟨gb143, 9, none⟩ = some (.int .i64 a0_9) := (blk_cell BK143.out 9).trans rfl; have hcz3_10 : w2.cell? ⟨gb143, 10, none⟩ = some (.int .i64 a0_10) := (blk_cell BK143.out 10).trans rfl; have hfz3_0 := blk_frozen BK143.out 0; have hfz3_1 := blk_frozen BK143.out 1; have hfz3_2 := blk_frozen BK143.out 2; have hfz3_3 := blk_frozen BK143.out 3; have hfz3_4 := blk_frozen BK143.out 4; have hfz3_5 := blk_frozen BK143.out 5; have hfz3_6 := blk_frozen BK143.out 6; have hfz3_7 := blk_frozen BK143.out 7; have hfz3_8 := blk_frozen BK143.out 8; have hfz3_9 := blk_frozen BK143.out 9; have hfz3_10 := blk_frozen BK143.out 10) | ((with_reducible refine gate_dst (N := 26) rfl ?_); refine Kd.R_lit (Kd.int .i64) _ 3 ?hg (N := 26) ?hd (xs := ([a0_0, a0_1, a0_2, a0_3, a0_4, a0_5, a0_6, a0_7, a0_8, a0_9] : List Int)) (inner := [.int .i64 a0_0, .int .i64 a0_1, .int .i64 a0_2, .int .i64 a0_3, .int .i64 a0_4, .int .i64 a0_5, .int .i64 a0_6, .int .i64 a0_7, .int .i64 a0_8, .int .i64 a0_9]) (ok := fun _ => True) (okp := fun _ => True) ?hr ?hp (fun _ hk => hk) trivial (Below.refl _ _) (Nat.le_refl _) (by simp) ?_; (case hd => rfl); (case hg => rfl); (case hr => first | (go_simp; done) | (go_simp; rfl)); (case hp => exact (Reps.one (show Kd.M (Kd.int .i64) _ _ _ a0_0 [.int .i64 a0_0] from rfl) (Reps.one (show Kd.M (Kd.int .i64) _ _ _ a0_1 [.int .i64 a0_1] from rfl) (Reps.one (show Kd.M (Kd.int .i64) _ _ _ a0_2 [.int .i64 a0_2] from rfl) (Reps.one (show Kd.M (Kd.int .i64) _ _ _ a0_3 [.int .i64 a0_3] from rfl) (Reps.one (show Kd.M (Kd.int .i64) _ _ _ a0_4 [.int .i64 a0_4] from rfl) (Reps.one (show Kd.M (Kd.int .i64) _ _ _ a0_5 [.int .i64 a0_5] from rfl) (Reps.one (show Kd.M (Kd.int .i64) _ _ _ a0_6 [.int .i64 a0_6] from rfl) (Reps.one (show Kd.M (Kd.int .i64) _ _ _ a0_7 [.int .i64 a0_7] from rfl) (Reps.one (show Kd.M (Kd.int .i64) _ _ _ a0_8 [.int .i64 a0_8] from rfl) (Reps.one (show Kd.M (Kd.int .i64) _ _ _ a0_9 [.int .i64 a0_9] from rfl) (Reps.none _ _)))))))))))); intro v145 w4 ho5 hb hg_ hnew_; clear hg_ hnew_; (first | rw [← Ny144.out] at ho5 | (simp only [Int.reduceToNat] at ho5; rw [← Ny144.out] at ho5)); have n0_ := Aside0.mk (Kd.R_lower ho5 (below_size (by repeat (first | (with_reducible first | exact HB.out | apply below_alloc | apply pw_below_drewN | apply below_drew1 | refine below_set ?_ GE143.out) | exact HB.out)))); have n1_ := Aside0.mk (blk_below (g := gb143) (o := .cells #[.int .i64 a0_0, .int .i64 a0_1, .int .i64 a0_2, .int .i64 a0_3, .int .i64 a0_4, .int .i64 a0_5, .int .i64 a0_6, .int .i64 a0_7, .int .i64 a0_8, .int .i64 a0_9, .int .i64 a0_10] 39 (0, 0)) (by (with_reducible repeat (first | refine blk_drewN ?_ _ | refine blk_drew ?_ | refine blk_alloc ?_ _)); exact BK143.out) hb); have n2_ := Aside0.mk (below_step (by repeat (first | (with_reducible first | exact HB.out | apply below_alloc | apply pw_below_drewN | apply below_drew1 | refine below_set ?_ GE143.out) | exact HB.out)) hb); clear BK143; clear HB; have HO146 := n0_; have BK143 := n1_; have HB := n2_; clear n0_ n1_ n2_; clear hb ho5; obtain ⟨Ao6, co6, eo6⟩ := Kd.R_slice HO146.out; subst eo6))
 go_loopg [3, 28] k (fun kq v3 v28 w' => ∃ (x3_1 : ByteArray) (x28_1 : Int), v3 = .string x3_1 ∧ v28 = .int .i64 x28_1 ∧ Aside0 (storagebarterref15_Bytes.l0 kq x3_1 y144 (y144.length : Int) x28_1 = some r) ∧ Aside0 (kq ≤ k) ∧ Aside0 (Kd.R (Kd.int .i64) 3 w' w.heap.size (fun _ => True) (.slice Ao6 y144.length co6) y144) ∧ Aside0 (w'.heap[gb143]? = some (.cells #[.int .i64 a0_0, .int .i64 a0_1, .int .i64 a0_2, .int .i64 a0_3, .int .i64 a0_4, .int .i64 a0_5, .int .i64 a0_6, .int .i64 a0_7, .int .i64 a0_8, .int .i64 a0_9, .int .i64 a0_10] 39 (0, 0))) ∧ Aside0 (Below w.heap.size w w'))
 case atStart => exact ⟨((⟨#[]⟩ : ByteArray)), (0), (by first | rfl | (simp; done) | (simp [*]; done)), (by first | rfl | (simp; done) | (simp [*]; done)), H', ⟨Nat.le_refl _⟩, ⟨by (with_reducible repeat (first | apply Kd.R_alloc | apply Kd.R_drewN | apply Kd.R_drew)); exact HO146.out⟩, ⟨by (with_reducible repeat (first | refine blk_drewN ?_ _ | refine blk_drew ?_ | refine blk_alloc ?_ _)); exact BK143.out⟩, ⟨by repeat (first | (with_reducible first | exact HB.out | apply below_alloc | apply pw_below_drewN | apply below_drew1 | refine below_set ?_ GE143.out) | exact HB.out)⟩⟩
 case round =>
  clear H'
  try clear p2
  try clear c3
  try clear hcz3_0
  try clear hcz3_1
  try clear hcz3_10
  try clear hcz3_2
  try clear hcz3_3
  try clear hcz3_4
  try clear hcz3_5
  try clear hcz3_6
  try clear hcz3_7
  try clear hcz3_8
  try clear hcz3_9
  try clear hfz3_0
  try clear hfz3_1
  try clear hfz3_10
  try clear hfz3_2
  try clear hfz3_3
  try clear hfz3_4
  try clear hfz3_5
  try clear hfz3_6
  try clear hfz3_7
  try clear hfz3_8
  try clear hfz3_9
  obtain ⟨x3_1, x28_1, rfl, rfl, HA, HK1, HO_26, BK143, HB⟩ := hrel
  cases gk with
  | zero => exact absurd HA.out (by simp [storagebarterref15_Bytes.l0])
  | succ k1 =>
   have H := HA.out
   clear HA
   simp only [storagebarterref15_Bytes.l0] at H
   by_cases c7 : x28_1 < (y144.length : Int)
   ·rw [if_pos c7] at H
    have c7b0 : decide (x28_1 < (y144.length : Int)) = true := decide_eq_true c7
    clear c7
    by_cases c8 : 0 ≤ x28_1
    ·rw [if_pos c8] at H
     have c8b0 : decide (0 ≤ x28_1) = true := decide_eq_true c8
     clear c8
     by_cases c9 : x28_1 < (y144.length : Int)
     ·rw [if_pos c9] at H
      have c9b0 : decide (x28_1 < (y144.length : Int)) = true := decide_eq_true c9
      clear c9
      replace H := Option.bind_eq_some_iff.mp H
      obtain ⟨t148, A100, H⟩ := H
      replace H : (storagebarterref15_Bytes.l0 k1 t148 y144 (y144.length : Int) (wrap64 (x28_1 + 1))) = some r := H
      have A10 := Aside0.mk A100
      clear A100
      have H' := Aside0.mk H
      clear H
      have p147 : 0 ≤ (x28_1 : Int) := of_decide_eq_true (by first | (with_reducible assumption) | assumption)
      have q147 : x28_1 < (y144.length : Int) := of_decide_eq_true (by first | (with_reducible assumption) | assumption)
      obtain ⟨ad147, e147, hx147_0⟩ := Kd.at_int (Kd.R_reads' HO_26.out).2.2 x28_1 p147 q147
      cases e147
      replace p147 := eq_true p147
      replace q147 := eq_true q147
      go_wp2_with (first | ((with_reducible refine gate_callee (f := 45) rfl ?_); refine goesL_ (some 34) rfl rfl Tryd.func45 (by kernel_rfl) rfl #[.string x3_1, .int .i64 (rd y144 x28_1)] rfl (by (try simp only [List.map_toArray, List.map_cons, List.map_nil]); first | done | rfl | (simp only [List.length_drop, List.length_take]; rfl)) ?_; (with_reducible refine (storagebarterref01_PutInt.calls k1 x3_1 (rd y144 x28_1) t148 _ A10.out).mono ?_); rintro e w11 ⟨rfl, hb⟩; refine ⟨_, rfl, ?_⟩; have n0_ := Aside0.mk (Kd.R_below (by (with_reducible repeat (first | apply Kd.R_alloc | apply Kd.R_drewN | apply Kd.R_drew)); exact HO_26.out) hb); have n1_ := Aside0.mk (blk_below (g := gb143) (o := .cells #[.int .i64 a0_0, .int .i64 a0_1, .int .i64 a0_2, .int .i64 a0_3, .int .i64 a0_4, .int .i64 a0_5, .int .i64 a0_6, .int .i64 a0_7, .int .i64 a0_8, .int .i64 a0_9, .int .i64 a0_10] 39 (0, 0)) (by (with_reducible repeat (first | refine blk_drewN ?_ _ | refine blk_drew ?_ | refine blk_alloc ?_ _)); exact BK143.out) hb); have n2_ := Aside0.mk (below_step (by repeat (first | (with_reducible first | exact HB.out | apply below_alloc | apply pw_below_drewN | apply below_drew1 | refine below_set ?_ GE143.out) | exact HB.out)) hb); clear HO_26; clear BK143; clear HB; have HO_26 := n0_; have BK143 := n1_; have HB := n2_; clear n0_ n1_ n2_; (try clear hb); (try clear hb2); (try clear hk); (try clear hi)))
      go_roundg k1
      case measure => have := HK1.out; omega
      case rel => exact ⟨(t148), (wrap64 (x28_1 + 1)), (by first | rfl | (simp; done) | (simp [*]; done)), (by first | rfl | (simp; done) | (simp [*]; done)), H', ⟨by have := HK1.out; omega⟩, ⟨by (with_reducible repeat (first | apply Kd.R_alloc | apply Kd.R_drewN | apply Kd.R_drew)); exact HO_26.out⟩, ⟨by (with_reducible repeat (first | refine blk_drewN ?_ _ | refine blk_drew ?_ | refine blk_alloc ?_ _)); exact BK143.out⟩, ⟨by repeat (first | (with_reducible first | exact HB.out | apply below_alloc | apply pw_below_drewN | apply below_drew1 | refine below_set ?_ GE143.out) | exact HB.out)⟩⟩
     ·rw [if_neg c9] at H
      exact absurd H (by simp)
    ·rw [if_neg c8] at H
     exact absurd H (by simp)
   ·rw [if_neg c7] at H
    have c7b0 : decide (x28_1 < (y144.length : Int)) = false := decide_eq_false c7
    clear c7
    obtain rfl := Option.some.inj H
    go_wp2
    go_ret
    exact ⟨by first | rfl | (simp [errW_none, errW_some] <;> rfl) | (simp [*, errW_none, errW_some] <;> rfl), by repeat (first | (with_reducible first | exact HB.out | apply below_alloc | apply pw_below_drewN | apply below_drew1 | refine below_set ?_ GE143.out) | exact HB.out)⟩
end Go.Proofs.YtcalkhlchjjalaaDoor.Q

namespace Go.Proofs.YtcalkhlchjjalaaDoor.Q
open Go.RowKit Go.Proofs.YtcalkhlchjjalaaDoorW.PrintWords Go.Proofs.YtcalkhlchjjalaaDoorW.PrintLast Go.Proofs.YtcalkhlchjjalaaDoorW.PrintMore Go.Proofs.YtcalkhlchjjalaaDoor.Gput
attribute [local go_sem] max2_int min2_int max_two min_two max_three min_three max_four min_four   -- for this text's walks alone
set_option linter.unusedVariables false
set_option linter.unusedSimpArgs false
def storagebartermake_mark.f (k : Nat) (a0_0 : Int) (a0_1 : Int) (a1_0 : Int) (a1_1 : Int) (a1_2 : Int) (a1_3 : Int) (a1_4 : Int) (a1_5 : Int) (a1_6 : Int) (a1_7 : Int) (a1_8 : Int) (a1_9 : Int) (a1_10 : Int) : Option (Int) := (storagebarterref15_Bytes.f k a1_0 a1_1 a1_2 a1_3 a1_4 a1_5 a1_6 a1_7 a1_8 a1_9 a1_10).bind fun t228 => ((storagebarterref14_Sign.f k a0_1 t228).bind fun bt229 => (some bt229.1))
theorem storagebartermake_mark.mono : ∀ a0 a1 a2 a3 a4 a5 a6 a7 a8 a9 a10 a11 a12 k, LeO (storagebartermake_mark.f k a0 a1 a2 a3 a4 a5 a6 a7 a8 a9 a10 a11 a12) (storagebartermake_mark.f (k + 1) a0 a1 a2 a3 a4 a5 a6 a7 a8 a9 a10 a11 a12) := by
 intro a0 a1 a2 a3 a4 a5 a6 a7 a8 a9 a10 a11 a12 k
 unfold storagebartermake_mark.f
 repeat' first
  | (with_reducible exact storagebarterref14_Sign.mono _ _ _)
  | (with_reducible exact storagebarterref15_Bytes.mono _ _ _ _ _ _ _ _ _ _ _ _)
  | (with_reducible exact LeO.refl _)
  | (with_reducible exact LeO.none _)
  | (with_reducible refine LeO.ite ?_ ?_)
  | (with_reducible refine LeO.bind ?_ (fun _ => ?_))
  | exact storagebarterref14_Sign.mono _ _ _
  | exact storagebarterref15_Bytes.mono _ _ _ _ _ _ _ _ _ _ _ _
  | exact LeO.none _
  | refine LeO.ite ?_ ?_
  | refine LeO.bind ?_ (fun _ => ?_)
def storagebartermake_mark.T1 : Bool × List (List Nat × List Nat) := (true, [([], []), ([0], [0]), ([], []), ([2], [2]), ([1, 3, 3], [1, 3]), ([4], [4]), ([5], [5]), ([5], [5]), ([6, 4, 0, 1, 2, 3, 4, 5, 6], [6]), ([7, 8, 0, 1, 2, 3, 4, 5, 6, 7, 8], [7])])
def storagebartermake_mark.B1 : List Nat := [0, 1, 0, 4, 15, 31, 63, 63, 127, 511]
theorem storagebartermake_mark.tab1 : rtab .any (opsOf Tryd.f35 1) = storagebartermake_mark.T1 := by kernel_rfl
theorem storagebartermake_mark.bits1 : waitsOk storagebartermake_mark.T1.2 storagebartermake_mark.B1 = true := by kernel_rfl
set_option maxHeartbeats 8000000 in
set_option maxRecDepth 100000 in
theorem storagebartermake_mark.calls (k : Nat) (a0_0 : Int) (a0_1 : Int) (a1_0 : Int) (a1_1 : Int) (a1_2 : Int) (a1_3 : Int) (a1_4 : Int) (a1_5 : Int) (a1_6 : Int) (a1_7 : Int) (a1_8 : Int) (a1_9 : Int) (a1_10 : Int) (r : Int) (w : World) (h : storagebartermake_mark.f k a0_0 a0_1 a1_0 a1_1 a1_2 a1_3 a1_4 a1_5 a1_6 a1_7 a1_8 a1_9 a1_10 = some r) :
 Calls Tryd.prog 35 #[.agg #[.int .i64 a0_0, .int .i64 a0_1], .agg #[.int .i64 a1_0, .int .i64 a1_1, .int .i64 a1_2, .int .i64 a1_3, .int .i64 a1_4, .int .i64 a1_5, .int .i64 a1_6, .int .i64 a1_7, .int .i64 a1_8, .int .i64 a1_9, .int .i64 a1_10]] w fun e w' => e = .returned (.int .i64 r) ∧ Below w.heap.size w w' := by
 have hu25 := Tryd.underlying25
 have hu39 := Tryd.underlying39
 have HB := Aside0.mk (Below.refl w.heap.size w)
 have H : ((storagebarterref15_Bytes.f k a1_0 a1_1 a1_2 a1_3 a1_4 a1_5 a1_6 a1_7 a1_8 a1_9 a1_10).bind fun t228 => ((storagebarterref14_Sign.f k a0_1 t228).bind fun bt229 => (some bt229.1))) = some r := h
 clear h
 replace H := Option.bind_eq_some_iff.mp H
 obtain ⟨t228, A30, H⟩ := H
 replace H : ((storagebarterref14_Sign.f k a0_1 t228).bind fun bt229 => (some bt229.1)) = some r := H
 have A3 := Aside0.mk A30
 clear A30
 replace H := Option.bind_eq_some_iff.mp H
 obtain ⟨⟨t229, t230⟩, A40, H⟩ := H
 replace H : (some t229) = some r := H
 have A4 := Aside0.mk A40
 clear A40
 obtain rfl := Option.some.inj H
 go_enter Tryd.func35, Tryd.ntmps35
 try go_wp2_with (first | ((with_reducible refine gate_dst (N := 2) rfl ?_); refine box_event ?hg (N := 2) ?hd (cs := #[.int .i64 a0_0, .int .i64 a0_1]) (t := 25) ?hr ?_; (case hd => rfl); (case hg => rfl); (case hr => first | (go_simp; done) | (go_simp; rfl)); intro gb226 hg w5 hbox hb; have n0_ := Aside0.mk (below_step (by repeat (first | (with_reducible first | exact HB.out | apply below_alloc | apply pw_below_drewN | apply below_drew1) | exact HB.out)) hb); have n1_ := Aside0.mk (hbox); have n2_ := Aside0.mk ((by rw [hg]; exact (below_size (by repeat (first | (with_reducible first | exact HB.out | apply below_alloc | apply pw_below_drewN | apply below_drew1) | exact HB.out))) : w.heap.size ≤ gb226)); have n3_ := Aside0.mk ((by rw [hg]; exact (below_size (by repeat (first | (with_reducible first | exact HB.out | apply below_alloc | apply pw_below_drewN | apply below_drew1) | exact HB.out))) : w.heap.size ≤ gb226)); clear HB; have HB := n0_; have BK226 := n1_; have GW226 := n2_; have GE226 := n3_; clear n0_ n1_ n2_ n3_; clear hb hbox hg) | ((with_reducible refine gate_dst (N := 3) rfl ?_); refine box_event ?hg (N := 3) ?hd (cs := #[.int .i64 a1_0, .int .i64 a1_1, .int .i64 a1_2, .int .i64 a1_3, .int .i64 a1_4, .int .i64 a1_5, .int .i64 a1_6, .int .i64 a1_7, .int .i64 a1_8, .int .i64 a1_9, .int .i64 a1_10]) (t := 39) ?hr ?_; (case hd => rfl); (case hg => rfl); (case hr => first | (go_simp; done) | (go_simp; rfl)); intro gb227 hg w6 hbox hb; have n0_ := Aside0.mk (blk_below (g := gb226) (o := .cells #[.int .i64 a0_0, .int .i64 a0_1] 25 (0, 0)) (by (with_reducible repeat (first | refine blk_drewN ?_ _ | refine blk_drew ?_ | refine blk_alloc ?_ _)); exact BK226.out) hb); have n1_ := Aside0.mk (below_step (by repeat (first | (with_reducible first | exact HB.out | apply below_alloc | apply pw_below_drewN | apply below_drew1 | refine below_set ?_ GE226.out) | exact HB.out)) hb); have n2_ := Aside0.mk (hbox); have n3_ := Aside0.mk ((by rw [hg]; exact (below_size (by repeat (first | (with_reducible first | exact HB.out | apply below_alloc | apply pw_below_drewN | apply below_drew1 | refine below_set ?_ GE226.out) | exact HB.out))) : w.heap.size ≤ gb227)); have n4_ := Aside0.mk ((by rw [hg]; exact (below_size (by repeat (first | (with_reducible first | exact HB.out | apply below_alloc | apply pw_below_drewN | apply below_drew1 | refine below_set ?_ GE226.out) | exact HB.out))) : w.heap.size ≤ gb227)); have n5_ := Aside0.mk ((by rw [hg]; exact Nat.ne_of_lt (blk_lt (g := gb226) (o := .cells #[.int .i64 a0_0, .int .i64 a0_1] 25 (0, 0)) (by (with_reducible repeat (first | refine blk_drewN ?_ _ | refine blk_drew ?_ | refine blk_alloc ?_ _)); exact BK226.out)) : gb226 ≠ gb227)); have n6_ := Aside0.mk ((by rw [hg]; exact Nat.ne_of_gt (blk_lt (g := gb226) (o := .cells #[.int .i64 a0_0, .int .i64 a0_1] 25 (0, 0)) (by (with_reducible repeat (first | refine blk_drewN ?_ _ | refine blk_drew ?_ | refine blk_alloc ?_ _)); exact BK226.out)) : gb227 ≠ gb226)); clear BK226; clear HB; have BK226 := n0_; have HB := n1_; have BK227 := n2_; have GW227 := n3_; have GE227 := n4_; have NB226_227 := n5_; have NB227_226 := n6_; clear n0_ n1_ n2_ n3_ n4_ n5_ n6_; clear hb hbox hg))
 have n0_ := Aside0.mk (blk_drew BK226.out)
 have n1_ := Aside0.mk (blk_drew BK227.out)
 have n2_ := Aside0.mk (below_drew1 HB.out)
 clear BK226
 clear BK227
 clear HB
 have BK226 := n0_
 have BK227 := n1_
 have HB := n2_
 clear n0_ n1_ n2_
 refine start_ (n := 10) (S := fun w' => w'.cell? ⟨gb226, 0, none⟩ = some (.int .i64 a0_0) ∧ w'.cell? ⟨gb226, 1, none⟩ = some (.int .i64 a0_1) ∧ w'.cell? ⟨gb227, 0, none⟩ = some (.int .i64 a1_0) ∧ w'.cell? ⟨gb227, 1, none⟩ = some (.int .i64 a1_1) ∧ w'.cell? ⟨gb227, 2, none⟩ = some (.int .i64 a1_2) ∧ w'.cell? ⟨gb227, 3, none⟩ = some (.int .i64 a1_3) ∧ w'.cell? ⟨gb227, 4, none⟩ = some (.int .i64 a1_4) ∧ w'.cell? ⟨gb227, 5, none⟩ = some (.int .i64 a1_5) ∧ w'.cell? ⟨gb227, 6, none⟩ = some (.int .i64 a1_6) ∧ w'.cell? ⟨gb227, 7, none⟩ = some (.int .i64 a1_7) ∧ w'.cell? ⟨gb227, 8, none⟩ = some (.int .i64 a1_8) ∧ w'.cell? ⟨gb227, 9, none⟩ = some (.int .i64 a1_9) ∧ w'.cell? ⟨gb227, 10, none⟩ = some (.int .i64 a1_10)) (ds := []) #[false, false, false, false, false, false, false, false, false, false] (by kernel_rfl) rfl rfl ⟨(blk_cell BK226.out 0).trans rfl, (blk_cell BK226.out 1).trans rfl, (blk_cell BK227.out 0).trans rfl, (blk_cell BK227.out 1).trans rfl, (blk_cell BK227.out 2).trans rfl, (blk_cell BK227.out 3).trans rfl, (blk_cell BK227.out 4).trans rfl, (blk_cell BK227.out 5).trans rfl, (blk_cell BK227.out 6).trans rfl, (blk_cell BK227.out 7).trans rfl, (blk_cell BK227.out 8).trans rfl, (blk_cell BK227.out 9).trans rfl, (blk_cell BK227.out 10).trans rfl⟩ (fun hHeld => ?_); refine with_tabW storagebartermake_mark.tab1 storagebartermake_mark.bits1 (fun HT_ HW_ => ?_)
 generalize w6.drew = w7 at BK226 BK227 HB hHeld ⊢
 refine pure_ (i := 0) (N := some 8) (v := ?_) (a' := ?_) #[true, false, false, false, false, false, false, false, false, false] rfl rfl (any_of HT_.out (by kernel_rfl)) (fun _ _ _ h => h) (Or.inl ⟨by rfl, ?_⟩) ?_ ?_
 rotate_left
 ·intro w'
  go_simp
  with_reducible rfl
 rotate_left
 ·simp only [Act.put, List.setIfInBounds_toArray, List.set_cons_zero, List.set_cons_succ, i64_w, i32_w]
  rfl
 refine take_ (i := 1) (N := some 9) (v := ?_) (a' := ?_) #[true, true, false, false, false, false, false, false, false, false] rfl rfl (take_ofW HT_.out HW_.out (by kernel_rfl)) (fun _ _ _ h => h) (Or.inl ⟨by rfl, ?_⟩) hHeld ?_ ?_
 rotate_left
 ·rintro w' ⟨s0, s1, s2, s3, s4, s5, s6, s7, s8, s9, s10, s11, s12⟩
  go_simp
  with_reducible rfl
 rotate_left
 ·simp only [Act.put, List.setIfInBounds_toArray, List.set_cons_zero, List.set_cons_succ, i64_w, i32_w]
  rfl
 refine take_ (i := 2) (N := some 10) (v := ?_) (a' := ?_) #[true, true, true, false, false, false, false, false, false, false] rfl rfl (take_ofW HT_.out HW_.out (by kernel_rfl)) (fun _ _ _ h => h) (Or.inl ⟨by rfl, ?_⟩) hHeld ?_ ?_
 rotate_left
 ·rintro w' ⟨s0, s1, s2, s3, s4, s5, s6, s7, s8, s9, s10, s11, s12⟩
  go_simp
  with_reducible rfl
 rotate_left
 ·simp only [Act.put, List.setIfInBounds_toArray, List.set_cons_zero, List.set_cons_succ, i64_w, i32_w]
  rfl
 refine one_ (i := 3) (N := some 11) #[true, true, true, true, false, false, false, false, false, false] rfl rfl (one_of HT_.out (by kernel_rfl)) (by decide) (fun K hK => ?_)
 refine goes_ Tryd.func32 (by kernel_rfl) rfl #[.agg #[.int .i64 a1_0, .int .i64 a1_1, .int .i64 a1_2, .int .i64 a1_3, .int .i64 a1_4, .int .i64 a1_5, .int .i64 a1_6, .int .i64 a1_7, .int .i64 a1_8, .int .i64 a1_9, .int .i64 a1_10]] (by rfl) rfl rfl (by (try simp only [List.map_toArray, List.map_cons, List.map_nil]); first | done | rfl | (simp only [List.length_drop, List.length_take]; rfl)) ?_
 with_reducible refine (storagebarterref15_Bytes.calls k a1_0 a1_1 a1_2 a1_3 a1_4 a1_5 a1_6 a1_7 a1_8 a1_9 a1_10 t228 _ A3.out).mono ?_
 rintro e w8 ⟨rfl, hb⟩
 refine ⟨_, rfl, ?_⟩
 have n0_ := Aside0.mk (blk_below (g := gb226) (o := .cells #[.int .i64 a0_0, .int .i64 a0_1] 25 (0, 0)) (by (with_reducible repeat (first | refine blk_drewN ?_ _ | refine blk_drew ?_ | refine blk_alloc ?_ _)); exact BK226.out) hb)
 have n1_ := Aside0.mk (blk_below (g := gb227) (o := .cells #[.int .i64 a1_0, .int .i64 a1_1, .int .i64 a1_2, .int .i64 a1_3, .int .i64 a1_4, .int .i64 a1_5, .int .i64 a1_6, .int .i64 a1_7, .int .i64 a1_8, .int .i64 a1_9, .int .i64 a1_10] 39 (0, 0)) (by (with_reducible repeat (first | refine blk_drewN ?_ _ | refine blk_drew ?_ | refine blk_alloc ?_ _)); exact BK227.out) hb)
 have n2_ := Aside0.mk (below_step (by repeat (first | (with_reducible first | exact HB.out | apply below_alloc | apply pw_below_drewN | apply below_drew1 | refine below_set ?_ GE226.out | refine below_set ?_ GE227.out) | exact HB.out)) hb)
 clear BK226
 clear BK227
 clear HB
 have BK226 := n0_
 have BK227 := n1_
 have HB := n2_
 clear n0_ n1_ n2_
 (try clear hb)
 (try clear hb2)
 (try clear hk)
 (try clear hi)
 refine hK.out _ _ ⟨(blk_cell BK226.out 0).trans rfl, (blk_cell BK226.out 1).trans rfl, (blk_cell BK227.out 0).trans rfl, (blk_cell BK227.out 1).trans rfl, (blk_cell BK227.out 2).trans rfl, (blk_cell BK227.out 3).trans rfl, (blk_cell BK227.out 4).trans rfl, (blk_cell BK227.out 5).trans rfl, (blk_cell BK227.out 6).trans rfl, (blk_cell BK227.out 7).trans rfl, (blk_cell BK227.out 8).trans rfl, (blk_cell BK227.out 9).trans rfl, (blk_cell BK227.out 10).trans rfl⟩ (fun hHeld => ?_)
 clear hK K
 refine norm_ (a' := ?_) ?_ ?_
 rotate_left
 ·show Act.put _ (some 11) _ = _
  simp only [Act.put, List.setIfInBounds_toArray, List.set_cons_zero, List.set_cons_succ, i64_w, i32_w]
  rfl
 refine one_ (i := 4) (N := some 12) #[true, true, true, true, true, false, false, false, false, false] rfl rfl (one_of HT_.out (by kernel_rfl)) (by decide) (fun K hK => ?_)
 refine goes_ Tryd.func33 (by kernel_rfl) rfl #[.int .i64 a0_1, .string t228] (by rfl) rfl rfl (by (try simp only [List.map_toArray, List.map_cons, List.map_nil]); first | done | rfl | (simp only [List.length_drop, List.length_take]; rfl)) ?_
 with_reducible refine (storagebarterref14_Sign.calls k a0_1 t228 t229 t230 _ A4.out).mono ?_
 rintro e w9 ⟨rfl, hb⟩
 refine ⟨_, rfl, ?_⟩
 have n0_ := Aside0.mk (blk_below (g := gb226) (o := .cells #[.int .i64 a0_0, .int .i64 a0_1] 25 (0, 0)) (by (with_reducible repeat (first | refine blk_drewN ?_ _ | refine blk_drew ?_ | refine blk_alloc ?_ _)); exact BK226.out) hb)
 have n1_ := Aside0.mk (blk_below (g := gb227) (o := .cells #[.int .i64 a1_0, .int .i64 a1_1, .int .i64 a1_2, .int .i64 a1_3, .int .i64 a1_4, .int .i64 a1_5, .int .i64 a1_6, .int .i64 a1_7, .int .i64 a1_8, .int .i64 a1_9, .int .i64 a1_10] 39 (0, 0)) (by (with_reducible repeat (first | refine blk_drewN ?_ _ | refine blk_drew ?_ | refine blk_alloc ?_ _)); exact BK227.out) hb)
 have n2_ := Aside0.mk (below_step (by repeat (first | (with_reducible first | exact HB.out | apply below_alloc | apply pw_below_drewN | apply below_drew1 | refine below_set ?_ GE226.out | refine below_set ?_ GE227.out) | exact HB.out)) hb)
 clear BK226
 clear BK227
 clear HB
 have BK226 := n0_
 have BK227 := n1_
 have HB := n2_
 clear n0_ n1_ n2_
 (try clear hb)
 (try clear hb2)
 (try clear hk)
 (try clear hi)
 refine hK.out _ _ ⟨(blk_cell BK226.out 0).trans rfl, (blk_cell BK226.out 1).trans rfl, (blk_cell BK227.out 0).trans rfl, (blk_cell BK227.out 1).trans rfl, (blk_cell BK227.out 2).trans rfl, (blk_cell BK227.out 3).trans rfl, (blk_cell BK227.out 4).trans rfl, (blk_cell BK227.out 5).trans rfl, (blk_cell BK227.out 6).trans rfl, (blk_cell BK227.out 7).trans rfl, (blk_cell BK227.out 8).trans rfl, (blk_cell BK227.out 9).trans rfl, (blk_cell BK227.out 10).trans rfl⟩ (fun hHeld => ?_)
 clear hK K
 refine norm_ (a' := ?_) ?_ ?_
 rotate_left
 ·show Act.put _ (some 12) _ = _
  simp only [Act.put, List.setIfInBounds_toArray, List.set_cons_zero, List.set_cons_succ, i64_w, i32_w]
  rfl
 refine pure_ (i := 5) (N := some 7) (v := ?_) (a' := ?_) #[true, true, true, true, true, true, false, false, false, false] rfl rfl (any_of HT_.out (by kernel_rfl)) (fun _ _ _ h => h) (Or.inl ⟨by rfl, ?_⟩) ?_ ?_
 rotate_left
 ·intro w'
  go_simp
  with_reducible rfl
 rotate_left
 ·simp only [Act.put, List.setIfInBounds_toArray, List.set_cons_zero, List.set_cons_succ, i64_w, i32_w]
  rfl
 refine pure_ (i := 6) (N := some 13) (v := ?_) (a' := ?_) #[true, true, true, true, true, true, true, false, false, false] rfl rfl (any_of HT_.out (by kernel_rfl)) (fun _ _ _ h => h) (Or.inl ⟨by rfl, ?_⟩) ?_ ?_
 rotate_left
 ·intro w'
  go_simp
  with_reducible rfl
 rotate_left
 ·simp only [Act.put, List.setIfInBounds_toArray, List.set_cons_zero, List.set_cons_succ, i64_w, i32_w]
  rfl
 refine pure_ (i := 7) (N := some 14) (v := ?_) (a' := ?_) #[true, true, true, true, true, true, true, true, false, false] rfl rfl (any_of HT_.out (by kernel_rfl)) (fun _ _ _ h => h) (Or.inl ⟨by rfl, ?_⟩) ?_ ?_
 rotate_left
 ·intro w'
  go_simp
  with_reducible rfl
 rotate_left
 ·simp only [Act.put, List.setIfInBounds_toArray, List.set_cons_zero, List.set_cons_succ, i64_w, i32_w]
  rfl
 refine pure_ (i := 8) (N := some 5) (v := ?_) (a' := ?_) #[true, true, true, true, true, true, true, true, true, false] rfl rfl (any_of HT_.out (by kernel_rfl)) (fun _ _ _ h => h) (Or.inl ⟨by rfl, ?_⟩) ?_ ?_
 rotate_left
 ·intro w'
  go_simp
  with_reducible rfl
 rotate_left
 ·simp only [Act.put, List.setIfInBounds_toArray, List.set_cons_zero, List.set_cons_succ, i64_w, i32_w]
  rfl
 refine pure_ (i := 9) (N := some 6) (v := ?_) (a' := ?_) #[true, true, true, true, true, true, true, true, true, true] rfl rfl (any_of HT_.out (by kernel_rfl)) (fun _ _ _ h => h) (Or.inl ⟨by rfl, ?_⟩) ?_ ?_
 rotate_left
 ·intro w'
  go_simp
  with_reducible rfl
 rotate_left
 ·simp only [Act.put, List.setIfInBounds_toArray, List.set_cons_zero, List.set_cons_succ, i64_w, i32_w]
  rfl
 refine done_ (done_of HT_.out (by kernel_rfl)) ?_
 try go_wp2
 go_ret
 exact ⟨by first | rfl | (simp [errW_none, errW_some] <;> rfl) | (simp [*, errW_none, errW_some] <;> rfl), by repeat (first | (with_reducible first | exact HB.out | apply below_alloc | apply pw_below_drewN | apply below_drew1 | refine below_set ?_ GE226.out | refine below_set ?_ GE227.out) | exact HB.out)⟩
end Go.Proofs.YtcalkhlchjjalaaDoor.Q

namespace Go.Proofs.YtcalkhlchjjalaaDoor.Q
open Go.RowKit Go.Proofs.YtcalkhlchjjalaaDoorW.PrintWords Go.Proofs.YtcalkhlchjjalaaDoorW.PrintLast Go.Proofs.YtcalkhlchjjalaaDoorW.PrintMore Go.Proofs.YtcalkhlchjjalaaDoor.Gput
attribute [local go_sem] max2_int min2_int max_two min_two max_three min_three max_four min_four   -- for this text's walks alone
set_option linter.unusedVariables false
set_option linter.unusedSimpArgs false
def storagebartermake_Sign.f (k : Nat) (a0_0 : Int) (a0_1 : Int) (a0_2 : Int) (a0_3 : Int) (a0_4 : Int) (a0_5 : Int) (a0_6 : Int) (a0_7 : Int) (a0_8 : Int) (a0_9 : Int) (a0_10 : Int) (a1_0 : Int) (a1_1 : Int) : Option (Int × Int × Int × Int × Int × Int × Int × Int × Int × Int × Int) := (storagebartermake_mark.f k a1_0 a1_1 a0_0 a0_1 a0_2 a0_3 a0_4 a0_5 a0_6 a0_7 a0_8 a0_9 a0_10).bind fun t234 => (some (a0_0, a0_1, a0_2, a0_3, a0_4, a0_5, a0_6, a0_7, a0_8, a0_9, t234))
theorem storagebartermake_Sign.mono : ∀ a0 a1 a2 a3 a4 a5 a6 a7 a8 a9 a10 a11 a12 k, LeO (storagebartermake_Sign.f k a0 a1 a2 a3 a4 a5 a6 a7 a8 a9 a10 a11 a12) (storagebartermake_Sign.f (k + 1) a0 a1 a2 a3 a4 a5 a6 a7 a8 a9 a10 a11 a12) := by
 intro a0 a1 a2 a3 a4 a5 a6 a7 a8 a9 a10 a11 a12 k
 unfold storagebartermake_Sign.f
 repeat' first
  | (with_reducible exact storagebartermake_mark.mono _ _ _ _ _ _ _ _ _ _ _ _ _ _)
  | (with_reducible exact LeO.refl _)
  | (with_reducible exact LeO.none _)
  | (with_reducible refine LeO.ite ?_ ?_)
  | (with_reducible refine LeO.bind ?_ (fun _ => ?_))
  | exact storagebartermake_mark.mono _ _ _ _ _ _ _ _ _ _ _ _ _ _
  | exact LeO.none _
  | refine LeO.ite ?_ ?_
  | refine LeO.bind ?_ (fun _ => ?_)
set_option maxHeartbeats 8000000 in
set_option maxRecDepth 100000 in
theorem storagebartermake_Sign.calls (k : Nat) (a0_0 : Int) (a0_1 : Int) (a0_2 : Int) (a0_3 : Int) (a0_4 : Int) (a0_5 : Int) (a0_6 : Int) (a0_7 : Int) (a0_8 : Int) (a0_9 : Int) (a0_10 : Int) (a1_0 : Int) (a1_1 : Int) (r1 : Int) (r2 : Int) (r3 : Int) (r4 : Int) (r5 : Int) (r6 : Int) (r7 : Int) (r8 : Int) (r9 : Int) (r10 : Int) (r11 : Int) (w : World) (h : storagebartermake_Sign.f k a0_0 a0_1 a0_2 a0_3 a0_4 a0_5 a0_6 a0_7 a0_8 a0_9 a0_10 a1_0 a1_1 = some (r1, r2, r3, r4, r5, r6, r7, r8, r9, r10, r11)) :
 Calls Tryd.prog 17 #[.agg #[.int .i64 a0_0, .int .i64 a0_1, .int .i64 a0_2, .int .i64 a0_3, .int .i64 a0_4, .int .i64 a0_5, .int .i64 a0_6, .int .i64 a0_7, .int .i64 a0_8, .int .i64 a0_9, .int .i64 a0_10], .agg #[.int .i64 a1_0, .int .i64 a1_1]] w fun e w' => e = .returned (.agg #[.int .i64 r1, .int .i64 r2, .int .i64 r3, .int .i64 r4, .int .i64 r5, .int .i64 r6, .int .i64 r7, .int .i64 r8, .int .i64 r9, .int .i64 r10, .int .i64 r11]) ∧ Below w.heap.size w w' := by
 have hu39 := Tryd.underlying39
 have hu25 := Tryd.underlying25
 have HB := Aside0.mk (Below.refl w.heap.size w)
 have H : ((storagebartermake_mark.f k a1_0 a1_1 a0_0 a0_1 a0_2 a0_3 a0_4 a0_5 a0_6 a0_7 a0_8 a0_9 a0_10).bind fun t234 => (some (a0_0, a0_1, a0_2, a0_3, a0_4, a0_5, a0_6, a0_7, a0_8, a0_9, t234))) = some (r1, r2, r3, r4, r5, r6, r7, r8, r9, r10, r11) := h
 clear h
 replace H := Option.bind_eq_some_iff.mp H
 obtain ⟨t234, A30, H⟩ := H
 replace H : (some (a0_0, a0_1, a0_2, a0_3, a0_4, a0_5, a0_6, a0_7, a0_8, a0_9, t234)) = some (r1, r2, r3, r4, r5, r6, r7, r8, r9, r10, r11) := H
 have A3 := Aside0.mk A30
 clear A30
 simp only [Option.some.injEq, Prod.mk.injEq] at H
 obtain ⟨rfl, rfl, rfl, rfl, rfl, rfl, rfl, rfl, rfl, rfl, rfl⟩ := H
 go_enter Tryd.func17, Tryd.ntmps17
 go_wp2_with (first | ((with_reducible refine gate_dst (N := 2) rfl ?_); refine box_event ?hg (N := 2) ?hd (cs := #[.int .i64 a0_0, .int .i64 a0_1, .int .i64 a0_2, .int .i64 a0_3, .int .i64 a0_4, .int .i64 a0_5, .int .i64 a0_6, .int .i64 a0_7, .int .i64 a0_8, .int .i64 a0_9, .int .i64 a0_10]) (t := 39) ?hr ?_; (case hd => rfl); (case hg => rfl); (case hr => first | (go_simp; done) | (go_simp; rfl)); intro gb231 hg w4 hbox hb; have n0_ := Aside0.mk (below_step (by repeat (first | (with_reducible first | exact HB.out | apply below_alloc | apply pw_below_drewN | apply below_drew1) | exact HB.out)) hb); have n1_ := Aside0.mk (hbox); have n2_ := Aside0.mk ((by rw [hg]; exact (below_size (by repeat (first | (with_reducible first | exact HB.out | apply below_alloc | apply pw_below_drewN | apply below_drew1) | exact HB.out))) : w.heap.size ≤ gb231)); have n3_ := Aside0.mk ((by rw [hg]; exact (below_size (by repeat (first | (with_reducible first | exact HB.out | apply below_alloc | apply pw_below_drewN | apply below_drew1) | exact HB.out))) : w.heap.size ≤ gb231)); clear HB; have HB := n0_; have BK231 := n1_; have GW231 := n2_; have GE231 := n3_; clear n0_ n1_ n2_ n3_; clear hb hbox hg) | ((with_reducible refine gate_dst (N := 3) rfl ?_); refine box_event ?hg (N := 3) ?hd (cs := #[.int .i64 a1_0, .int .i64 a1_1]) (t := 25) ?hr ?_; (case hd => rfl); (case hg => rfl); (case hr => first | (go_simp; done) | (go_simp; rfl)); intro gb232 hg w5 hbox hb; have n0_ := Aside0.mk (blk_below (g := gb231) (o := .cells #[.int .i64 a0_0, .int .i64 a0_1, .int .i64 a0_2, .int .i64 a0_3, .int .i64 a0_4, .int .i64 a0_5, .int .i64 a0_6, .int .i64 a0_7, .int .i64 a0_8, .int .i64 a0_9, .int .i64 a0_10] 39 (0, 0)) (by (with_reducible repeat (first | refine blk_drewN ?_ _ | refine blk_drew ?_ | refine blk_alloc ?_ _)); exact BK231.out) hb); have n1_ := Aside0.mk (below_step (by repeat (first | (with_reducible first | exact HB.out | apply below_alloc | apply pw_below_drewN | apply below_drew1 | refine below_set ?_ GE231.out) | exact HB.out)) hb); have n2_ := Aside0.mk (hbox); have n3_ := Aside0.mk ((by rw [hg]; exact (below_size (by repeat (first | (with_reducible first | exact HB.out | apply below_alloc | apply pw_below_drewN | apply below_drew1 | refine below_set ?_ GE231.out) | exact HB.out))) : w.heap.size ≤ gb232)); have n4_ := Aside0.mk ((by rw [hg]; exact (below_size (by repeat (first | (with_reducible first | exact HB.out | apply below_alloc | apply pw_below_drewN | apply below_drew1 | refine below_set ?_ GE231.out) | exact HB.out))) : w.heap.size ≤ gb232)); have n5_ := Aside0.mk ((by rw [hg]; exact Nat.ne_of_lt (blk_lt (g := gb231) (o := .cells #[.int .i64 a0_0, .int .i64 a0_1, .int .i64 a0_2, .int .i64 a0_3, .int .i64 a0_4, .int .i64 a0_5, .int .i64 a0_6, .int .i64 a0_7, .int .i64 a0_8, .int .i64 a0_9, .int .i64 a0_10] 39 (0, 0)) (by (with_reducible repeat (first | refine blk_drewN ?_ _ | refine blk_drew ?_ | refine blk_alloc ?_ _)); exact BK231.out)) : gb231 ≠ gb232)); have n6_ := Aside0.mk ((by rw [hg]; exact Nat.ne_of_gt (blk_lt (g := gb231) (o := .cells #[.int .i64 a0_0, .int .i64 a0_1, .int .i64 a0_2, .int .i64 a0_3, .int .i64 a0_4, .int .i64 a0_5, .int .i64 a0_6, .int .i64 a0_7, .int .i64 a0_8, .int .i64 a0_9, .int .i64 a0_10] 39 (0, 0)) (by (with_reducible repeat (first | refine blk_drewN ?_ _ | refine blk_drew ?_ | refine blk_alloc ?_ _)); exact BK231.out)) : gb232 ≠ gb231)); clear BK231; clear HB; have BK231 := n0_; have HB := n1_; have BK232 := n2_; have GW232 := n3_; have GE232 := n4_; have NB231_232 := n5_; have NB232_231 := n6_; clear n0_ n1_ n2_ n3_ n4_ n5_ n6_; clear hb hbox hg) | ((with_reducible refine gate_dst (N := 4) rfl ?_); refine box_event ?hg (N := 4) ?hd (cs := #[.int .i64 0, .int .i64 0, .int .i64 0, .int .i64 0, .int .i64 0, .int .i64 0, .int .i64 0, .int .i64 0, .int .i64 0, .int .i64 0, .int .i64 0]) (t := 39) ?hr ?_; (case hd => rfl); (case hg => rfl); (case hr => first | (go_simp; done) | (go_simp; rfl)); intro gb233 hg w6 hbox hb; have n0_ := Aside0.mk (blk_below (g := gb231) (o := .cells #[.int .i64 a0_0, .int .i64 a0_1, .int .i64 a0_2, .int .i64 a0_3, .int .i64 a0_4, .int .i64 a0_5, .int .i64 a0_6, .int .i64 a0_7, .int .i64 a0_8, .int .i64 a0_9, .int .i64 a0_10] 39 (0, 0)) (by (with_reducible repeat (first | refine blk_drewN ?_ _ | refine blk_drew ?_ | refine blk_alloc ?_ _)); exact BK231.out) hb); have n1_ := Aside0.mk (blk_below (g := gb232) (o := .cells #[.int .i64 a1_0, .int .i64 a1_1] 25 (0, 0)) (by (with_reducible repeat (first | refine blk_drewN ?_ _ | refine blk_drew ?_ | refine blk_alloc ?_ _)); exact BK232.out) hb); have n2_ := Aside0.mk (below_step (by repeat (first | (with_reducible first | exact HB.out | apply below_alloc | apply pw_below_drewN | apply below_drew1 | refine below_set ?_ GE231.out | refine below_set ?_ GE232.out) | exact HB.out)) hb); have n3_ := Aside0.mk (hbox); have n4_ := Aside0.mk ((by rw [hg]; exact (below_size (by repeat (first | (with_reducible first | exact HB.out | apply below_alloc | apply pw_below_drewN | apply below_drew1 | refine below_set ?_ GE231.out | refine below_set ?_ GE232.out) | exact HB.out))) : w.heap.size ≤ gb233)); have n5_ := Aside0.mk ((by rw [hg]; exact (below_size (by repeat (first | (with_reducible first | exact HB.out | apply below_alloc | apply pw_below_drewN | apply below_drew1 | refine below_set ?_ GE231.out | refine below_set ?_ GE232.out) | exact HB.out))) : w.heap.size ≤ gb233)); have n6_ := Aside0.mk ((by rw [hg]; exact Nat.ne_of_lt (blk_lt (g := gb231) (o := .cells #[.int .i64 a0_0, .int .i64 a0_1, .int .i64 a0_2, .int .i64 a0_3, .int .i64 a0_4, .int .i64 a0_5, .int .i64 a0_6, .int .i64 a0_7, .int .i64 a0_8, .int .i64 a0_9, .int .i64 a0_10] 39 (0, 0)) (by (with_reducible repeat (first | refine blk_drewN ?_ _ | refine blk_drew ?_ | refine blk_alloc ?_ _)); exact BK231.out)) : gb231 ≠ gb233)); have n7_ := Aside0.mk ((by rw [hg]; exact Nat.ne_of_gt (blk_lt (g := gb231) (o := .cells #[.int .i64 a0_0, .int .i64 a0_1, .int .i64 a0_2, .int .i64 a0_3, .int .i64 a0_4, .int .i64 a0_5, .int .i64 a0_6, .int .i64 a0_7, .int .i64 a0_8, .int .i64 a0_9, .int .i64 a0_10] 39 (0, 0)) (by (with_reducible repeat (first | refine blk_drewN ?_ _ | refine blk_drew ?_ | refine blk_alloc ?_ _)); exact BK231.out)) : gb233 ≠ gb231)); have n8_ := Aside0.mk ((by rw [hg]; exact Nat.ne_of_lt (blk_lt (g := gb232) (o := .cells #[.int .i64 a1_0, .int .i64 a1_1] 25 (0, 0)) (by (with_reducible repeat (first | refine blk_drewN ?_ _ | refine blk_drew ?_ | refine blk_alloc ?_ _)); exact BK232.out)) : gb232 ≠ gb233)); have n9_ := Aside0.mk ((by rw [hg]; exact Nat.ne_of_gt (blk_lt (g := gb232) (o := .cells #[.int .i64 a1_0, .int .i64 a1_1] 25 (0, 0)) (by (with_reducible repeat (first | refine blk_drewN ?_ _ | refine blk_drew ?_ | refine blk_alloc ?_ _)); exact BK232.out)) : gb233 ≠ gb232)); clear BK231; clear BK232; clear HB; have BK231 := n0_; have BK232 := n1_; have HB := n2_; have BK233 := n3_; have GW233 := n4_; have GE233 := n5_; have NB231_233 := n6_; have NB233_231 := n7_; have NB232_233 := n8_; have NB233_232 := n9_; clear n0_ n1_ n2_ n3_ n4_ n5_ n6_ n7_ n8_ n9_; clear hb hbox hg; have hnb7 := NB232_231.out; have hnc7 := NB231_232.out; have hnb8 := NB232_233.out; have hnc8 := NB233_232.out; have hcz9_0 : w6.cell? ⟨gb232, 0, none⟩ = some (.int .i64 a1_0) := (blk_cell BK232.out 0).trans rfl; have hcz9_1 : w6.cell? ⟨gb232, 1, none⟩ = some (.int .i64 a1_1) := (blk_cell BK232.out 1).trans rfl; have hfz9_0 := blk_frozen BK232.out 0; have hfz9_1 := blk_frozen BK232.out 1; have hnb10 := NB231_233.out; have hnc10 := NB233_231.out; have hcz11_0 : w6.cell? ⟨gb231, 0, none⟩ = some (.int .i64 a0_0) := (blk_cell BK231.out 0).trans rfl; have hcz11_1 : w6.cell? ⟨gb231, 1, none⟩ = some (.int .i64 a0_1) := (blk_cell BK231.out 1).trans rfl; have hcz11_2 : w6.cell? ⟨gb231, 2, none⟩ = some (.int .i64 a0_2) := (blk_cell BK231.out 2).trans rfl; have hcz11_3 : w6.cell? ⟨gb231, 3, none⟩ = some (.int .i64 a0_3) := (blk_cell BK231.out 3).trans rfl; have hcz11_4 : w6.cell? ⟨gb231, 4, none⟩ = some (.int .i64 a0_4) := (blk_cell BK231.out 4).trans rfl; have hcz11_5 : w6.cell? ⟨gb231, 5, none⟩ = some (.int .i64 a0_5) := (blk_cell BK231.out 5).trans rfl; have hcz11_6 : w6.cell? ⟨gb231, 6, none⟩ = some (.int .i64 a0_6) := (blk_cell BK231.out 6).trans rfl; have hcz11_7 : w6.cell? ⟨gb231, 7, none⟩ = some (.int .i64 a0_7) := (blk_cell BK231.out 7).trans rfl; have hcz11_8 : w6.cell? ⟨gb231, 8, none⟩ = some (.int .i64 a0_8) := (blk_cell BK231.out 8).trans rfl; have hcz11_9 : w6.cell? ⟨gb231, 9, none⟩ = some (.int .i64 a0_9) := (blk_cell BK231.out 9).trans rfl; have hcz11_10 : w6.cell? ⟨gb231, 10, none⟩ = some (.int .i64 a0_10) := (blk_cell BK231.out 10).trans rfl; have hfz11_0 := blk_frozen BK231.out 0; have hfz11_1 := blk_frozen BK231.out 1; have hfz11_2 := blk_frozen BK231.out 2; have hfz11_3 := blk_frozen BK231.out 3; have hfz11_4 := blk_frozen BK231.out 4; have hfz11_5 := blk_frozen BK231.out 5; have hfz11_6 := blk_frozen BK231.out 6; have hfz11_7 := blk_frozen BK231.out 7; have hfz11_8 := blk_frozen BK231.out 8; have hfz11_9 := blk_frozen BK231.out 9; have hfz11_10 := blk_frozen BK231.out 10) | ((with_reducible refine gate_callee (f := 35) rfl ?_); refine goesL_ (some 7) rfl rfl Tryd.func35 (by kernel_rfl) rfl #[.agg #[.int .i64 a1_0, .int .i64 a1_1], .agg #[.int .i64 a0_0, .int .i64 a0_1, .int .i64 a0_2, .int .i64 a0_3, .int .i64 a0_4, .int .i64 a0_5, .int .i64 a0_6, .int .i64 a0_7, .int .i64 a0_8, .int .i64 a0_9, .int .i64 a0_10]] rfl (by (try simp only [List.map_toArray, List.map_cons, List.map_nil]); first | done | rfl | (simp only [List.length_drop, List.length_take]; rfl)) ?_; (with_reducible refine (storagebartermake_mark.calls k a1_0 a1_1 a0_0 a0_1 a0_2 a0_3 a0_4 a0_5 a0_6 a0_7 a0_8 a0_9 a0_10 t234 _ A3.out).mono ?_); rintro e w12 ⟨rfl, hb⟩; refine ⟨_, rfl, ?_⟩; have n0_ := Aside0.mk (blk_below (g := gb231) (o := .cells #[.int .i64 a0_0, .int .i64 a0_1, .int .i64 a0_2, .int .i64 a0_3, .int .i64 a0_4, .int .i64 a0_5, .int .i64 a0_6, .int .i64 a0_7, .int .i64 a0_8, .int .i64 a0_9, .int .i64 a0_10] 39 (0, 0)) (by (with_reducible repeat (first | refine blk_drewN ?_ _ | refine blk_drew ?_ | refine blk_alloc ?_ _)); exact BK231.out) hb); have n1_ := Aside0.mk (blk_below (g := gb232) (o := .cells #[.int .i64 a1_0, .int .i64 a1_1] 25 (0, 0)) (by (with_reducible repeat (first | refine blk_drewN ?_ _ | refine blk_drew ?_ | refine blk_alloc ?_ _)); exact BK232.out) hb); have n2_ := Aside0.mk (blk_below (g := gb233) (o := .cells #[.int .i64 0, .int .i64 0, .int .i64 0, .int .i64 0, .int .i64 0, .int .i64 0, .int .i64 0, .int .i64 0, .int .i64 0, .int .i64 0, .int .i64 0] 39 (0, 0)) (by (with_reducible repeat (first | refine blk_drewN ?_ _ | refine blk_drew ?_ | refine blk_alloc ?_ _)); exact BK233.out) hb); have n3_ := Aside0.mk (below_step (by repeat (first | (with_reducible first | exact HB.out | apply below_alloc | apply pw_below_drewN | apply below_drew1 | refine below_set ?_ GE231.out | refine below_set ?_ GE232.out | refine below_set ?_ GE233.out) | exact HB.out)) hb); clear BK231; clear BK232; clear BK233; clear HB; have BK231 := n0_; have BK232 := n1_; have BK233 := n2_; have HB := n3_; clear n0_ n1_ n2_ n3_; (try clear hb); (try clear hb2); (try clear hk); (try clear hi); have hcz13_0 : w12.cell? ⟨gb231, 0, none⟩ = some (.int .i64 a0_0) := (blk_cell BK231.out 0).trans rfl; have hcz13_1 : w12.cell? ⟨gb231, 1, none⟩ = some (.int .i64 a0_1) := (blk_cell BK231.out 1).trans rfl; have hcz13_2 : w12.cell? ⟨gb231, 2, none⟩ = some (.int .i64 a0_2) := (blk_cell BK231.out 2).trans rfl; have hcz13_3 : w12.cell? ⟨gb231, 3, none⟩ = some (.int .i64 a0_3) := (blk_cell BK231.out 3).trans rfl; have hcz13_4 : w12.cell? ⟨gb231, 4, none⟩ = some (.int .i64 a0_4) := (blk_cell BK231.out 4).trans rfl; have hcz13_5 : w12.cell? ⟨gb231, 5, none⟩ = some (.int .i64 a0_5) := (blk_cell BK231.out 5).trans rfl; have hcz13_6 : w12.cell? ⟨gb231, 6, none⟩ = some (.int .i64 a0_6) := (blk_cell BK231.out 6).trans rfl; have hcz13_7 : w12.cell? ⟨gb231, 7, none⟩ = some (.int .i64 a0_7) := (blk_cell BK231.out 7).trans rfl; have hcz13_8 : w12.cell? ⟨gb231, 8, none⟩ = some (.int .i64 a0_8) := (blk_cell BK231.out 8).trans rfl; have hcz13_9 : w12.cell? ⟨gb231, 9, none⟩ = some (.int .i64 a0_9) := (blk_cell BK231.out 9).trans rfl; have hcz13_10 : w12.cell? ⟨gb231, 10, none⟩ = some (.int .i64 a0_10) := (blk_cell BK231.out 10).trans rfl; have hfz13_0 := blk_frozen BK231.out 0; have hfz13_1 := blk_frozen BK231.out 1; have hfz13_2 := blk_frozen BK231.out 2; have hfz13_3 := blk_frozen BK231.out 3; have hfz13_4 := blk_frozen BK231.out 4; have hfz13_5 := blk_frozen BK231.out 5; have hfz13_6 := blk_frozen BK231.out 6; have hfz13_7 := blk_frozen BK231.out 7; have hfz13_8 := blk_frozen BK231.out 8; have hfz13_9 := blk_frozen BK231.out 9; have hfz13_10 := blk_frozen BK231.out 10; have hcz14_0 : w12.cell? ⟨gb233, 0, none⟩ = some (.int .i64 0) := (blk_cell BK233.out 0).trans rfl; have hcz14_1 : w12.cell? ⟨gb233, 1, none⟩ = some (.int .i64 0) := (blk_cell BK233.out 1).trans rfl; have hcz14_2 : w12.cell? ⟨gb233, 2, none⟩ = some (.int .i64 0) := (blk_cell BK233.out 2).trans rfl; have hcz14_3 : w12.cell? ⟨gb233, 3, none⟩ = some (.int .i64 0) := (blk_cell BK233.out 3).trans rfl; have hcz14_4 : w12.cell? ⟨gb233, 4, none⟩ = some (.int .i64 0) := (blk_cell BK233.out 4).trans rfl; have hcz14_5 : w12.cell? ⟨gb233, 5, none⟩ = some (.int .i64 0) := (blk_cell BK233.out 5).trans rfl; have hcz14_6 : w12.cell? ⟨gb233, 6, none⟩ = some (.int .i64 0) := (blk_cell BK233.out 6).trans rfl; have hcz14_7 : w12.cell? ⟨gb233, 7, none⟩ = some (.int .i64 0) := (blk_cell BK233.out 7).trans rfl; have hcz14_8 : w12.cell? ⟨gb233, 8, none⟩ = some (.int .i64 0) := (blk_cell BK233.out 8).trans rfl; have hcz14_9 : w12.cell? ⟨gb233, 9, none⟩ = some (.int .i64 0) := (blk_cell BK233.out 9).trans rfl; have hcz14_10 : w12.cell? ⟨gb233, 10, none⟩ = some (.int .i64 0) := (blk_cell BK233.out 10).trans rfl; have hfz14_0 := blk_frozen BK233.out 0; have hfz14_1 := blk_frozen BK233.out 1; have hfz14_2 := blk_frozen BK233.out 2; have hfz14_3 := blk_frozen BK233.out 3; have hfz14_4 := blk_frozen BK233.out 4; have hfz14_5 := blk_frozen BK233.out 5; have hfz14_6 := blk_frozen BK233.out 6; have hfz14_7 := blk_frozen BK233.out 7; have hfz14_8 := blk_frozen BK233.out 8; have hfz14_9 := blk_frozen BK233.out 9; have hfz14_10 := blk_frozen BK233.out 10))
 refine bodyPost_ret (results_cell_row rfl _ _ gb233 39 #[.int .i64 a0_0, .int .i64 a0_1, .int .i64 a0_2, .int .i64 a0_3, .int .i64 a0_4, .int .i64 a0_5, .int .i64 a0_6, .int .i64 a0_7, .int .i64 a0_8, .int .i64 a0_9, .int .i64 t234] (0, 0) _ rfl (by (with_reducible repeat (first | refine blk_drewN ?_ _ | refine blk_drew ?_ | refine blk_alloc ?_ _)); refine blk_put (cs := #[.int .i64 a0_0, .int .i64 a0_1, .int .i64 a0_2, .int .i64 a0_3, .int .i64 a0_4, .int .i64 a0_5, .int .i64 a0_6, .int .i64 a0_7, .int .i64 a0_8, .int .i64 a0_9, .int .i64 0]) ?_ 10 _ rfl; (with_reducible repeat (first | refine blk_drewN ?_ _ | refine blk_drew ?_ | refine blk_alloc ?_ _)); refine blk_put (cs := #[.int .i64 a0_0, .int .i64 a0_1, .int .i64 a0_2, .int .i64 a0_3, .int .i64 a0_4, .int .i64 a0_5, .int .i64 a0_6, .int .i64 a0_7, .int .i64 a0_8, .int .i64 0, .int .i64 0]) ?_ 9 _ rfl; (with_reducible repeat (first | refine blk_drewN ?_ _ | refine blk_drew ?_ | refine blk_alloc ?_ _)); refine blk_put (cs := #[.int .i64 a0_0, .int .i64 a0_1, .int .i64 a0_2, .int .i64 a0_3, .int .i64 a0_4, .int .i64 a0_5, .int .i64 a0_6, .int .i64 a0_7, .int .i64 0, .int .i64 0, .int .i64 0]) ?_ 8 _ rfl; (with_reducible repeat (first | refine blk_drewN ?_ _ | refine blk_drew ?_ | refine blk_alloc ?_ _)); refine blk_put (cs := #[.int .i64 a0_0, .int .i64 a0_1, .int .i64 a0_2, .int .i64 a0_3, .int .i64 a0_4, .int .i64 a0_5, .int .i64 a0_6, .int .i64 0, .int .i64 0, .int .i64 0, .int .i64 0]) ?_ 7 _ rfl; (with_reducible repeat (first | refine blk_drewN ?_ _ | refine blk_drew ?_ | refine blk_alloc ?_ _)); refine blk_put (cs := #[.int .i64 a0_0, .int .i64 a0_1, .int .i64 a0_2, .int .i64 a0_3, .int .i64 a0_4, .int .i64 a0_5, .int .i64 0, .int .i64 0, .int .i64 0, .int .i64 0, .int .i64 0]) ?_ 6 _ rfl; (with_reducible repeat (first | refine blk_drewN ?_ _ | refine blk_drew ?_ | refine blk_alloc ?_ _)); refine blk_put (cs := #[.int .i64 a0_0, .int .i64 a0_1, .int .i64 a0_2, .int .i64 a0_3, .int .i64 a0_4, .int .i64 0, .int .i64 0, .int .i64 0, .int .i64 0, .int .i64 0, .int .i64 0]) ?_ 5 _ rfl; (with_reducible repeat (first | refine blk_drewN ?_ _ | refine blk_drew ?_ | refine blk_alloc ?_ _)); refine blk_put (cs := #[.int .i64 a0_0, .int .i64 a0_1, .int .i64 a0_2, .int .i64 a0_3, .int .i64 0, .int .i64 0, .int .i64 0, .int .i64 0, .int .i64 0, .int .i64 0, .int .i64 0]) ?_ 4 _ rfl; (with_reducible repeat (first | refine blk_drewN ?_ _ | refine blk_drew ?_ | refine blk_alloc ?_ _)); refine blk_put (cs := #[.int .i64 a0_0, .int .i64 a0_1, .int .i64 a0_2, .int .i64 0, .int .i64 0, .int .i64 0, .int .i64 0, .int .i64 0, .int .i64 0, .int .i64 0, .int .i64 0]) ?_ 3 _ rfl; (with_reducible repeat (first | refine blk_drewN ?_ _ | refine blk_drew ?_ | refine blk_alloc ?_ _)); refine blk_put (cs := #[.int .i64 a0_0, .int .i64 a0_1, .int .i64 0, .int .i64 0, .int .i64 0, .int .i64 0, .int .i64 0, .int .i64 0, .int .i64 0, .int .i64 0, .int .i64 0]) ?_ 2 _ rfl; (with_reducible repeat (first | refine blk_drewN ?_ _ | refine blk_drew ?_ | refine blk_alloc ?_ _)); refine blk_put (cs := #[.int .i64 a0_0, .int .i64 0, .int .i64 0, .int .i64 0, .int .i64 0, .int .i64 0, .int .i64 0, .int .i64 0, .int .i64 0, .int .i64 0, .int .i64 0]) ?_ 1 _ rfl; (with_reducible repeat (first | refine blk_drewN ?_ _ | refine blk_drew ?_ | refine blk_alloc ?_ _)); refine blk_put (cs := #[.int .i64 0, .int .i64 0, .int .i64 0, .int .i64 0, .int .i64 0, .int .i64 0, .int .i64 0, .int .i64 0, .int .i64 0, .int .i64 0, .int .i64 0]) ?_ 0 _ rfl; (with_reducible repeat (first | refine blk_drewN ?_ _ | refine blk_drew ?_ | refine blk_alloc ?_ _)); refine blk_far ?_ NB233_231.out _; (with_reducible repeat (first | refine blk_drewN ?_ _ | refine blk_drew ?_ | refine blk_alloc ?_ _)); exact BK233.out) Tryd.underlying39 rfl (by kernel_rfl)) rfl ?_
 exact ⟨by first | rfl | (simp [errW_none, errW_some] <;> rfl) | (simp [*, errW_none, errW_some] <;> rfl), by repeat (first | (with_reducible first | exact HB.out | apply below_alloc | apply pw_below_drewN | apply below_drew1 | refine below_set ?_ GE231.out | refine below_set ?_ GE232.out | refine below_set ?_ GE233.out) | exact HB.out)⟩
end Go.Proofs.YtcalkhlchjjalaaDoor.Q

namespace Go.Proofs.YtcalkhlchjjalaaDoor.Grs
open Go Go.RowKit Go.Proofs.YtcalkhlchjjalaaDoor.Gm Go.Proofs.YtcalkhlchjjalaaDoor.Gdm Go.Proofs.YtcalkhlchjjalaaDoor.Gmr Go.Proofs.YtcalkhlchjjalaaDoor.Gsg Go.Proofs.YtcalkhlchjjalaaDoor.Gsy Go.Proofs.YtcalkhlchjjalaaDoor.Q Go.Proofs.YtcalkhlchjjalaaDoor.Gput Go.Proofs.YtcalkhlchjjalaaDoorW.PrintWords Go.Proofs.YtcalkhlchjjalaaDoorW.PrintLast Go.Proofs.YtcalkhlchjjalaaDoorW.PrintMore
set_option linter.unusedVariables false
theorem rBytes_l0 (l : List Int) (hl : l.length ≤ 10) (h : ∀ x ∈ l, I64 x) : ∀ (d i k : Nat), l.length - i = d → i ≤ l.length → d + 11 < k →
 storagebarterref15_Bytes.l0 k (B (bl (l.take i))) l (l.length : Int) (i : Int) = some (B (bl l)) := by
 intro d
 induction d with
 | zero =>
  intro i k hd hi hk
  obtain ⟨k, rfl⟩ : ∃ m, k = m + 1 := ⟨k - 1, by omega⟩
  rw [storagebarterref15_Bytes.l0, if_neg (by omega), List.take_of_length_le (by omega)]
 | succ d ih =>
  intro i k hd hi hk
  obtain ⟨k, rfl⟩ : ∃ m, k = m + 1 := ⟨k - 1, by omega⟩
  have hil : i < l.length := by omega
  have h1 := bl_len (l := l.take i) (fun x hx => h x (List.mem_of_mem_take hx))
  rw [List.length_take] at h1
  have e : rd l (i : Int) = l[i] := by simp [rd, List.getD, hil]
  have h0 := ih (i + 1) k (by omega) (by omega) (by omega)
  have e2 : bl (l.take (i + 1)) = bl (l.take i) ++ putI l[i] := by
   unfold bl
   rw [List.take_succ_eq_append_getElem hil, List.flatMap_append]
   simp
  rw [e2] at h0
  rw [storagebarterref15_Bytes.l0, if_pos (by omega), if_pos (by omega), if_pos (by omega), e, ref_PutInt_eq _ _ _ (by omega) (h _ (List.getElem_mem hil)) (by omega), Option.bind_some, w64 (x := (i : Int) + 1) (by omega), show ((i : Int) + 1) = ((i + 1 : Nat) : Int) by omega]
  exact h0
theorem rBytes_eq (s : S39) (h : W64 s) (k : Nat) (hk : 22 ≤ k) : storagebarterref15_Bytes.f k s.f0 s.f1 s.f2 s.f3 s.f4 s.f5 s.f6 s.f7 s.f8 s.f9 s.f10 = some (B (bts s)) := by
 have := rBytes_l0 [s.f0, s.f1, s.f2, s.f3, s.f4, s.f5, s.f6, s.f7, s.f8, s.f9] (by simp) h.all 10 0 k (by simp) (by simp) (by omega)
 unfold storagebarterref15_Bytes.f
 rw [Option.bind_some]
 exact this
end Go.Proofs.YtcalkhlchjjalaaDoor.Grs

namespace Go.Proofs.YtcalkhlchjjalaaDoor.Q
open Go.RowKit Go.Proofs.YtcalkhlchjjalaaDoorW.PrintWords Go.Proofs.YtcalkhlchjjalaaDoorW.PrintLast Go.Proofs.YtcalkhlchjjalaaDoorW.PrintMore Go.Proofs.YtcalkhlchjjalaaDoor.Gput
attribute [local go_sem] max2_int min2_int max_two min_two max_three min_three max_four min_four   -- for this text's walks alone
set_option linter.unusedVariables false
set_option linter.unusedSimpArgs false
def storagebarterref15_in.f (a0 : Int) (a1 : Int) (a2 : Int) : Option (Bool) := if a0 ≥ a1 then (some (decide (a0 ≤ a2))) else (some false)
set_option maxHeartbeats 8000000 in
set_option maxRecDepth 100000 in
theorem storagebarterref15_in.calls (a0 : Int) (a1 : Int) (a2 : Int) (r : Bool) (w : World) (h : storagebarterref15_in.f a0 a1 a2 = some r) :
 Calls Tryd.prog 30 #[.int .i64 a0, .int .i64 a1, .int .i64 a2] w fun e w' => e = .returned (.bool r) ∧ Drawn0 w w' := by
 have H : (if a0 ≥ a1 then (some (decide (a0 ≤ a2))) else (some false)) = some r := h
 clear h
 by_cases c4 : a0 ≥ a1
 ·rw [if_pos c4] at H
  have c4b0 : decide (a1 ≤ a0) = true := decide_eq_true c4
  clear c4
  obtain rfl := Option.some.inj H
  go_enter Tryd.func30, Tryd.ntmps30
  go_wp2
  go_ret
  exact ⟨by first | rfl | (simp; done) | (simp [*]; done), by repeat (first | exact Drawn0.refl _ | apply Drawn0.step)⟩
 ·rw [if_neg c4] at H
  have c4b0 : decide (a1 ≤ a0) = false := decide_eq_false c4
  clear c4
  obtain rfl := Option.some.inj H
  go_enter Tryd.func30, Tryd.ntmps30
  go_wp2
  go_ret
  exact ⟨by first | rfl | (simp; done) | (simp [*]; done), by repeat (first | exact Drawn0.refl _ | apply Drawn0.step)⟩
end Go.Proofs.YtcalkhlchjjalaaDoor.Q

namespace Go.Proofs.YtcalkhlchjjalaaDoor.Q
open Go.RowKit Go.Proofs.YtcalkhlchjjalaaDoorW.PrintWords Go.Proofs.YtcalkhlchjjalaaDoorW.PrintLast Go.Proofs.YtcalkhlchjjalaaDoorW.PrintMore Go.Proofs.YtcalkhlchjjalaaDoor.Gput
attribute [local go_sem] max2_int min2_int max_two min_two max_three min_three max_four min_four   -- for this text's walks alone
set_option linter.unusedVariables false
set_option linter.unusedSimpArgs false
def storagebarterref15_lock.f (a0 : Int) : Option (Bool) := if a0 ≥ 1 then (if (Int.tmod a0 3) = 1 then (some (decide ((wrap64 (Int.tdiv a0 3)) < 4294967294))) else (some false)) else (some false)
set_option maxHeartbeats 8000000 in
set_option maxRecDepth 100000 in
theorem storagebarterref15_lock.calls (a0 : Int) (r : Bool) (w : World) (h : storagebarterref15_lock.f a0 = some r) :
 Calls Tryd.prog 54 #[.int .i64 a0] w fun e w' => e = .returned (.bool r) ∧ Drawn0 w w' := by
 have H : (if a0 ≥ 1 then (if (Int.tmod a0 3) = 1 then (some (decide ((wrap64 (Int.tdiv a0 3)) < 4294967294))) else (some false)) else (some false)) = some r := h
 clear h
 by_cases c2 : a0 ≥ 1
 ·rw [if_pos c2] at H
  have c2b0 : decide (1 ≤ a0) = true := decide_eq_true c2
  clear c2
  by_cases c3 : (Int.tmod a0 3) = 1
  ·rw [if_pos c3] at H
   have c3b0 : ((Int.tmod a0 3) == 1) = true := beq_iff_eq.mpr c3
   have c3b1 : ((Int.tmod a0 3) != 1) = false := bne_eq_false_iff_eq.mpr c3
   clear c3
   obtain rfl := Option.some.inj H
   go_enter Tryd.func54, Tryd.ntmps54
   go_wp2
   go_ret
   exact ⟨by first | rfl | (simp; done) | (simp [*]; done), by repeat (first | exact Drawn0.refl _ | apply Drawn0.step)⟩
  ·rw [if_neg c3] at H
   have c3b0 : ((Int.tmod a0 3) == 1) = false := beq_eq_false_iff_ne.mpr c3
   have c3b1 : ((Int.tmod a0 3) != 1) = true := bne_iff_ne.mpr c3
   obtain rfl := Option.some.inj H
   go_enter Tryd.func54, Tryd.ntmps54
   go_wp2
   go_ret
   exact ⟨by first | rfl | (simp; done) | (simp [*]; done), by repeat (first | exact Drawn0.refl _ | apply Drawn0.step)⟩
 ·rw [if_neg c2] at H
  have c2b0 : decide (1 ≤ a0) = false := decide_eq_false c2
  clear c2
  obtain rfl := Option.some.inj H
  go_enter Tryd.func54, Tryd.ntmps54
  go_wp2
  go_ret
  exact ⟨by first | rfl | (simp; done) | (simp [*]; done), by repeat (first | exact Drawn0.refl _ | apply Drawn0.step)⟩
end Go.Proofs.YtcalkhlchjjalaaDoor.Q

namespace Go.Proofs.YtcalkhlchjjalaaDoor.Q
open Go.RowKit Go.Proofs.YtcalkhlchjjalaaDoorW.PrintWords Go.Proofs.YtcalkhlchjjalaaDoorW.PrintLast Go.Proofs.YtcalkhlchjjalaaDoorW.PrintMore Go.Proofs.YtcalkhlchjjalaaDoor.Gput
attribute [local go_sem] max2_int min2_int max_two min_two max_three min_three max_four min_four   -- for this text's walks alone
set_option linter.unusedVariables false
set_option linter.unusedSimpArgs false
mutual
def storagebarterref15_parts.j0 : Nat → Bool → Bool → Int → Int → Int → Int → Int → Int → Int → Int → Int → Int → Int → Option (Bool)
 | 0, _, _, _, _, _, _, _, _, _, _, _, _, _ => none
 | k + 1, x3, x4, x153000, x153001, x153002, x153003, x153004, x153005, x153006, x153007, x153008, x153009, x153010 => (storagebarterref15_in.f x153009 (wrap64 (x153004 + 1)) (wrap64 (x153004 + 65536))).bind fun t156 => (if t156 = true then (storagebarterref15_parts.j1 k x3 x4 (decide (x153009 ≤ 1048576)) x153000 x153001 x153002 x153003 x153004 x153005 x153006 x153007 x153008 x153009 x153010) else (storagebarterref15_parts.j1 k x3 x4 false x153000 x153001 x153002 x153003 x153004 x153005 x153006 x153007 x153008 x153009 x153010))
def storagebarterref15_parts.j1 : Nat → Bool → Bool → Bool → Int → Int → Int → Int → Int → Int → Int → Int → Int → Int → Int → Option (Bool)
 | 0, _, _, _, _, _, _, _, _, _, _, _, _, _, _ => none
 | k + 1, x3, x4, x5, x153000, x153001, x153002, x153003, x153004, x153005, x153006, x153007, x153008, x153009, x153010 => if x153007 = 0 then (storagebarterref15_parts.j2 k x3 x4 x5 (x153008 == 0) x153000 x153001 x153002 x153003 x153004 x153005 x153006 x153007 x153008 x153009 x153010) else (storagebarterref15_parts.j2 k x3 x4 x5 false x153000 x153001 x153002 x153003 x153004 x153005 x153006 x153007 x153008 x153009 x153010)
def storagebarterref15_parts.j2 : Nat → Bool → Bool → Bool → Bool → Int → Int → Int → Int → Int → Int → Int → Int → Int → Int → Int → Option (Bool)
 | 0, _, _, _, _, _, _, _, _, _, _, _, _, _, _, _ => none
 | k + 1, x3, x4, x5, x6, x153000, x153001, x153002, x153003, x153004, x153005, x153006, x153007, x153008, x153009, x153010 => if x153005 = 1 then (if x3 = true then (if x4 = true then (some x5) else (some false)) else (some false)) else (if x153005 = 2 then (if x3 = true then (if x6 = true then (some x5) else (some false)) else (some false)) else (if x153005 = 3 then (storagebarterref15_parts.j3 k x3 x4 x6 x153005 (x153005 == 3) x153000 x153001 x153002 x153003 x153004 x153005 x153006 x153007 x153008 x153009 x153010) else (storagebarterref15_parts.j3 k x3 x4 x6 x153005 (x153005 == 5) x153000 x153001 x153002 x153003 x153004 x153005 x153006 x153007 x153008 x153009 x153010)))
def storagebarterref15_parts.j3 : Nat → Bool → Bool → Bool → Int → Bool → Int → Int → Int → Int → Int → Int → Int → Int → Int → Int → Int → Option (Bool)
 | 0, _, _, _, _, _, _, _, _, _, _, _, _, _, _, _, _ => none
 | k + 1, x3, x4, x6, x41, x60, x153000, x153001, x153002, x153003, x153004, x153005, x153006, x153007, x153008, x153009, x153010 => if x60 = true then (if x3 = true then (if x6 = true then (some (x153009 == 0)) else (some false)) else (some false)) else (if x41 = 4 then (if x3 = true then (if x4 = true then (some (x153009 == 0)) else (some false)) else (some false)) else (if x41 = 6 then ((storagebarterref15_in.f x153006 0 2147483646).bind fun t157 => (if t157 = true then ((storagebarterref15_in.f x153007 0 2147483646).bind fun t158 => (if t158 = true then ((storagebarterref15_in.f x153008 0 256).bind fun t159 => (if t159 = true then (some (x153009 == 0)) else (some false))) else (some false))) else (some false))) else (if x41 = 7 then ((storagebarterref15_in.f x153006 0 2147483646).bind fun t160 => (if t160 = true then (if x4 = true then ((storagebarterref15_lock.f x153009).bind fun t161 => (some t161)) else (some false)) else (some false))) else (if x41 = 8 then ((storagebarterref15_in.f x153006 0 2147483646).bind fun t162 => (if t162 = true then ((storagebarterref15_in.f x153007 0 4294967293).bind fun t163 => (if t163 = true then (if x153008 = 0 then (some (x153009 == 0)) else (some false)) else (some false))) else (some false))) else (some false)))))
end
def storagebarterref15_parts.f (k : Nat) (a0_0 : Int) (a0_1 : Int) (a0_2 : Int) (a0_3 : Int) (a0_4 : Int) (a0_5 : Int) (a0_6 : Int) (a0_7 : Int) (a0_8 : Int) (a0_9 : Int) (a0_10 : Int) : Option (Bool) := (storagebarterref15_in.f a0_6 0 63).bind fun t153 => ((storagebarterref15_in.f a0_7 0 2147483646).bind fun t154 => (if t154 = true then ((storagebarterref15_in.f a0_8 1 1024).bind fun t155 => (storagebarterref15_parts.j0 k t153 t155 a0_0 a0_1 a0_2 a0_3 a0_4 a0_5 a0_6 a0_7 a0_8 a0_9 a0_10)) else (storagebarterref15_parts.j0 k t153 false a0_0 a0_1 a0_2 a0_3 a0_4 a0_5 a0_6 a0_7 a0_8 a0_9 a0_10)))
theorem storagebarterref15_parts.mono_l : ∀ k, (∀ y0 y1 y2 y3 y4 y5 y6 y7 y8 y9 y10 y11 y12, LeO (storagebarterref15_parts.j0 k y0 y1 y2 y3 y4 y5 y6 y7 y8 y9 y10 y11 y12) (storagebarterref15_parts.j0 (k + 1) y0 y1 y2 y3 y4 y5 y6 y7 y8 y9 y10 y11 y12)) ∧ (∀ y0 y1 y2 y3 y4 y5 y6 y7 y8 y9 y10 y11 y12 y13, LeO (storagebarterref15_parts.j1 k y0 y1 y2 y3 y4 y5 y6 y7 y8 y9 y10 y11 y12 y13) (storagebarterref15_parts.j1 (k + 1) y0 y1 y2 y3 y4 y5 y6 y7 y8 y9 y10 y11 y12 y13)) ∧ (∀ y0 y1 y2 y3 y4 y5 y6 y7 y8 y9 y10 y11 y12 y13 y14, LeO (storagebarterref15_parts.j2 k y0 y1 y2 y3 y4 y5 y6 y7 y8 y9 y10 y11 y12 y13 y14) (storagebarterref15_parts.j2 (k + 1) y0 y1 y2 y3 y4 y5 y6 y7 y8 y9 y10 y11 y12 y13 y14)) ∧ (∀ y0 y1 y2 y3 y4 y5 y6 y7 y8 y9 y10 y11 y12 y13 y14 y15, LeO (storagebarterref15_parts.j3 k y0 y1 y2 y3 y4 y5 y6 y7 y8 y9 y10 y11 y12 y13 y14 y15) (storagebarterref15_parts.j3 (k + 1) y0 y1 y2 y3 y4 y5 y6 y7 y8 y9 y10 y11 y12 y13 y14 y15))
 | 0 => ⟨fun _ _ _ _ _ _ _ _ _ _ _ _ _ r h => by simp [storagebarterref15_parts.j0] at h, fun _ _ _ _ _ _ _ _ _ _ _ _ _ _ r h => by simp [storagebarterref15_parts.j1] at h, fun _ _ _ _ _ _ _ _ _ _ _ _ _ _ _ r h => by simp [storagebarterref15_parts.j2] at h, fun _ _ _ _ _ _ _ _ _ _ _ _ _ _ _ _ r h => by simp [storagebarterref15_parts.j3] at h⟩
 | k + 1 => by
  obtain ⟨ih0, ih1, ih2, ih3⟩ := storagebarterref15_parts.mono_l k
  refine ⟨?_, ?_, ?_, ?_⟩
  ·intro y0 y1 y2 y3 y4 y5 y6 y7 y8 y9 y10 y11 y12
   unfold storagebarterref15_parts.j0
   repeat' first
   | (with_reducible exact ih0 _ _ _ _ _ _ _ _ _ _ _ _ _)
   | (with_reducible exact ih1 _ _ _ _ _ _ _ _ _ _ _ _ _ _)
   | (with_reducible exact ih2 _ _ _ _ _ _ _ _ _ _ _ _ _ _ _)
   | (with_reducible exact ih3 _ _ _ _ _ _ _ _ _ _ _ _ _ _ _ _)
   | (with_reducible exact LeO.refl _)
   | (with_reducible exact LeO.none _)
   | (with_reducible refine LeO.ite ?_ ?_)
   | (with_reducible refine LeO.bind ?_ (fun _ => ?_))
   | exact ih0 _ _ _ _ _ _ _ _ _ _ _ _ _
   | exact ih1 _ _ _ _ _ _ _ _ _ _ _ _ _ _
   | exact ih2 _ _ _ _ _ _ _ _ _ _ _ _ _ _ _
   | exact ih3 _ _ _ _ _ _ _ _ _ _ _ _ _ _ _ _
   | exact LeO.none _
   | refine LeO.ite ?_ ?_
   | refine LeO.bind ?_ (fun _ => ?_)
  ·intro y0 y1 y2 y3 y4 y5 y6 y7 y8 y9 y10 y11 y12 y13
   unfold storagebarterref15_parts.j1
   repeat' first
   | (with_reducible exact ih0 _ _ _ _ _ _ _ _ _ _ _ _ _)
   | (with_reducible exact ih1 _ _ _ _ _ _ _ _ _ _ _ _ _ _)
   | (with_reducible exact ih2 _ _ _ _ _ _ _ _ _ _ _ _ _ _ _)
   | (with_reducible exact ih3 _ _ _ _ _ _ _ _ _ _ _ _ _ _ _ _)
   | (with_reducible exact LeO.refl _)
   | (with_reducible exact LeO.none _)
   | (with_reducible refine LeO.ite ?_ ?_)
   | (with_reducible refine LeO.bind ?_ (fun _ => ?_))
   | exact ih0 _ _ _ _ _ _ _ _ _ _ _ _ _
   | exact ih1 _ _ _ _ _ _ _ _ _ _ _ _ _ _
   | exact ih2 _ _ _ _ _ _ _ _ _ _ _ _ _ _ _
   | exact ih3 _ _ _ _ _ _ _ _ _ _ _ _ _ _ _ _
   | exact LeO.none _
   | refine LeO.ite ?_ ?_
   | refine LeO.bind ?_ (fun _ => ?_)
  ·intro y0 y1 y2 y3 y4 y5 y6 y7 y8 y9 y10 y11 y12 y13 y14
   unfold storagebarterref15_parts.j2
   repeat' first
   | (with_reducible exact ih0 _ _ _ _ _ _ _ _ _ _ _ _ _)
   | (with_reducible exact ih1 _ _ _ _ _ _ _ _ _ _ _ _ _ _)
   | (with_reducible exact ih2 _ _ _ _ _ _ _ _ _ _ _ _ _ _ _)
   | (with_reducible exact ih3 _ _ _ _ _ _ _ _ _ _ _ _ _ _ _ _)
   | (with_reducible exact LeO.refl _)
   | (with_reducible exact LeO.none _)
   | (with_reducible refine LeO.ite ?_ ?_)
   | (with_reducible refine LeO.bind ?_ (fun _ => ?_))
   | exact ih0 _ _ _ _ _ _ _ _ _ _ _ _ _
   | exact ih1 _ _ _ _ _ _ _ _ _ _ _ _ _ _
   | exact ih2 _ _ _ _ _ _ _ _ _ _ _ _ _ _ _
   | exact ih3 _ _ _ _ _ _ _ _ _ _ _ _ _ _ _ _
   | exact LeO.none _
   | refine LeO.ite ?_ ?_
   | refine LeO.bind ?_ (fun _ => ?_)
  ·intro y0 y1 y2 y3 y4 y5 y6 y7 y8 y9 y10 y11 y12 y13 y14 y15
   unfold storagebarterref15_parts.j3
   repeat' first
   | (with_reducible exact ih0 _ _ _ _ _ _ _ _ _ _ _ _ _)
   | (with_reducible exact ih1 _ _ _ _ _ _ _ _ _ _ _ _ _ _)
   | (with_reducible exact ih2 _ _ _ _ _ _ _ _ _ _ _ _ _ _ _)
   | (with_reducible exact ih3 _ _ _ _ _ _ _ _ _ _ _ _ _ _ _ _)
   | (with_reducible exact LeO.refl _)
   | (with_reducible exact LeO.none _)
   | (with_reducible refine LeO.ite ?_ ?_)
   | (with_reducible refine LeO.bind ?_ (fun _ => ?_))
   | exact ih0 _ _ _ _ _ _ _ _ _ _ _ _ _
   | exact ih1 _ _ _ _ _ _ _ _ _ _ _ _ _ _
   | exact ih2 _ _ _ _ _ _ _ _ _ _ _ _ _ _ _
   | exact ih3 _ _ _ _ _ _ _ _ _ _ _ _ _ _ _ _
   | exact LeO.none _
   | refine LeO.ite ?_ ?_
   | refine LeO.bind ?_ (fun _ => ?_)
theorem storagebarterref15_parts.mono : ∀ a0 a1 a2 a3 a4 a5 a6 a7 a8 a9 a10 k, LeO (storagebarterref15_parts.f k a0 a1 a2 a3 a4 a5 a6 a7 a8 a9 a10) (storagebarterref15_parts.f (k + 1) a0 a1 a2 a3 a4 a5 a6 a7 a8 a9 a10) := by
 intro a0 a1 a2 a3 a4 a5 a6 a7 a8 a9 a10 k
 obtain ⟨ih0, ih1, ih2, ih3⟩ := storagebarterref15_parts.mono_l k
 unfold storagebarterref15_parts.f
 repeat' first
  | (with_reducible exact ih0 _ _ _ _ _ _ _ _ _ _ _ _ _)
  | (with_reducible exact ih1 _ _ _ _ _ _ _ _ _ _ _ _ _ _)
  | (with_reducible exact ih2 _ _ _ _ _ _ _ _ _ _ _ _ _ _ _)
  | (with_reducible exact ih3 _ _ _ _ _ _ _ _ _ _ _ _ _ _ _ _)
  | (with_reducible exact LeO.refl _)
  | (with_reducible exact LeO.none _)
  | (with_reducible refine LeO.ite ?_ ?_)
  | (with_reducible refine LeO.bind ?_ (fun _ => ?_))
  | exact ih0 _ _ _ _ _ _ _ _ _ _ _ _ _
  | exact ih1 _ _ _ _ _ _ _ _ _ _ _ _ _ _
  | exact ih2 _ _ _ _ _ _ _ _ _ _ _ _ _ _ _
  | exact ih3 _ _ _ _ _ _ _ _ _ _ _ _ _ _ _ _
  | exact LeO.none _
  | refine LeO.ite ?_ ?_
  | refine LeO.bind ?_ (fun _ => ?_)
set_option maxHeartbeats 8000000 in
set_option maxRecDepth 100000 in
theorem storagebarterref15_parts.calls (k : Nat) (a0_0 : Int) (a0_1 : Int) (a0_2 : Int) (a0_3 : Int) (a0_4 : Int) (a0_5 : Int) (a0_6 : Int) (a0_7 : Int) (a0_8 : Int) (a0_9 : Int) (a0_10 : Int) (r : Bool) (w : World) (h : storagebarterref15_parts.f k a0_0 a0_1 a0_2 a0_3 a0_4 a0_5 a0_6 a0_7 a0_8 a0_9 a0_10 = some r) :
 Calls Tryd.prog 47 #[.agg #[.int .i64 a0_0, .int .i64 a0_1, .int .i64 a0_2, .int .i64 a0_3, .int .i64 a0_4, .int .i64 a0_5, .int .i64 a0_6, .int .i64 a0_7, .int .i64 a0_8, .int .i64 a0_9, .int .i64 a0_10]] w fun e w' => e = .returned (.bool r) ∧ Below w.heap.size w w' := by
 have hu39 := Tryd.underlying39
 have HB := Aside0.mk (Below.refl w.heap.size w)
 have H : ((storagebarterref15_in.f a0_6 0 63).bind fun t153 => ((storagebarterref15_in.f a0_7 0 2147483646).bind fun t154 => (if t154 = true then ((storagebarterref15_in.f a0_8 1 1024).bind fun t155 => (storagebarterref15_parts.j0 k t153 t155 a0_0 a0_1 a0_2 a0_3 a0_4 a0_5 a0_6 a0_7 a0_8 a0_9 a0_10)) else (storagebarterref15_parts.j0 k t153 false a0_0 a0_1 a0_2 a0_3 a0_4 a0_5 a0_6 a0_7 a0_8 a0_9 a0_10)))) = some r := h
 clear h
 replace H := Option.bind_eq_some_iff.mp H
 obtain ⟨t153, A20, H⟩ := H
 try dsimp only at H
 have A2 := Aside0.mk A20
 clear A20
 have HC3 := Aside0.mk H
 clear H
 go_enter Tryd.func47, Tryd.ntmps47
 go_upto_region 2 with (first | ((with_reducible refine gate_dst (N := 1) rfl ?_); refine box_event ?hg (N := 1) ?hd (cs := #[.int .i64 a0_0, .int .i64 a0_1, .int .i64 a0_2, .int .i64 a0_3, .int .i64 a0_4, .int .i64 a0_5, .int .i64 a0_6, .int .i64 a0_7, .int .i64 a0_8, .int .i64 a0_9, .int .i64 a0_10]) (t := 39) ?hr ?_; (case hd => rfl); (case hg => rfl); (case hr => first | (go_simp; done) | (go_simp; rfl)); intro gb152 hg w4 hbox hb; have n0_ := Aside0.mk (below_step (by repeat (first | (with_reducible first | exact HB.out | apply below_alloc | apply pw_below_drewN | apply below_drew1) | exact HB.out)) hb); have n1_ := Aside0.mk (hbox); have n2_ := Aside0.mk ((by rw [hg]; exact (below_size (by repeat (first | (with_reducible first | exact HB.out | apply below_alloc | apply pw_below_drewN | apply below_drew1) | exact HB.out))) : w.heap.size ≤ gb152)); have n3_ := Aside0.mk ((by rw [hg]; exact (below_size (by repeat (first | (with_reducible first | exact HB.out | apply below_alloc | apply pw_below_drewN | apply below_drew1) | exact HB.out))) : w.heap.size ≤ gb152)); clear HB; have HB := n0_; have BK152 := n1_; have GW152 := n2_; have GE152 := n3_; clear n0_ n1_ n2_ n3_; clear hb hbox hg; have hcz5_0 : w4.cell? ⟨gb152, 0, none⟩ = some (.int .i64 a0_0) := (blk_cell BK152.out 0).trans rfl; have hcz5_1 : w4.cell? ⟨gb152, 1, none⟩ = some (.int .i64 a0_1) := (blk_cell BK152.out 1).trans rfl; have hcz5_2 : w4.cell? ⟨gb152, 2, none⟩ = some (.int .i64 a0_2) := (blk_cell BK152.out 2).trans rfl; have hcz5_3 : w4.cell? ⟨gb152, 3, none⟩ = some (.int .i64 a0_3) := (blk_cell BK152.out 3).trans rfl; have hcz5_4 : w4.cell? ⟨gb152, 4, none⟩ = some (.int .i64 a0_4) := (blk_cell BK152.out 4).trans rfl; have hcz5_5 : w4.cell? ⟨gb152, 5, none⟩ = some (.int .i64 a0_5) := (blk_cell BK152.out 5).trans rfl; have hcz5_6 : w4.cell? ⟨gb152, 6, none⟩ = some (.int .i64 a0_6) := (blk_cell BK152.out 6).trans rfl; have hcz5_7 : w4.cell? ⟨gb152, 7, none⟩ = some (.int .i64 a0_7) := (blk_cell BK152.out 7).trans rfl; have hcz5_8 : w4.cell? ⟨gb152, 8, none⟩ = some (.int .i64 a0_8) := (blk_cell BK152.out 8).trans rfl; have hcz5_9 : w4.cell? ⟨gb152, 9, none⟩ = some (.int .i64 a0_9) := (blk_cell BK152.out 9).trans rfl; have hcz5_10 : w4.cell? ⟨gb152, 10, none⟩ = some (.int .i64 a0_10) := (blk_cell BK152.out 10).trans rfl; have hfz5_0 := blk_frozen BK152.out 0; have hfz5_1 := blk_frozen BK152.out 1; have hfz5_2 := blk_frozen BK152.out 2; have hfz5_3 := blk_frozen BK152.out 3; have hfz5_4 := blk_frozen BK152.out 4; have hfz5_5 := blk_frozen BK152.out 5; have hfz5_6 := blk_frozen BK152.out 6; have hfz5_7 := blk_frozen BK152.out 7; have hfz5_8 := blk_frozen BK152.out 8; have hfz5_9 := blk_frozen BK152.out 9; have hfz5_10 := blk_frozen BK152.out 10) | ((with_reducible refine gate_callee (f := 30) rfl ?_); refine goesL_ (some 9) rfl rfl Tryd.func30 (by kernel_rfl) rfl #[.int .i64 a0_6, .int .i64 0, .int .i64 63] rfl (by (try simp only [List.map_toArray, List.map_cons, List.map_nil]); first | done | rfl | (simp only [List.length_drop, List.length_take]; rfl)) ?_; (with_reducible refine (storagebarterref15_in.calls a0_6 0 63 t153 _ A2.out).mono ?_); rintro e w' ⟨rfl, ⟨nd, rfl⟩⟩; refine ⟨_, rfl, ?_⟩))
 (try simp only [Act.put, List.setIfInBounds_toArray, List.set_cons_zero, List.set_cons_succ])
 go_cut [4] (fun v4 wc => ∃ (kq : Nat) (x4_2 : Bool), v4 = .bool x4_2 ∧ Aside0 (storagebarterref15_parts.j0 kq t153 x4_2 a0_0 a0_1 a0_2 a0_3 a0_4 a0_5 a0_6 a0_7 a0_8 a0_9 a0_10 = some r) ∧ Aside0 (kq ≤ k) ∧ Aside0 (wc.heap[gb152]? = some (.cells #[.int .i64 a0_0, .int .i64 a0_1, .int .i64 a0_2, .int .i64 a0_3, .int .i64 a0_4, .int .i64 a0_5, .int .i64 a0_6, .int .i64 a0_7, .int .i64 a0_8, .int .i64 a0_9, .int .i64 a0_10] 39 (0, 0))) ∧ Aside0 (Below w.heap.size w wc))
 case first =>
  have H := HC3.out
  clear HC3
  replace H := Option.bind_eq_some_iff.mp H
  obtain ⟨t154, A60, H⟩ := H
  try dsimp only at H
  have A6 := Aside0.mk A60
  clear A60
  by_cases c7 : t154 = true
  focus
   subst c7
   rw [if_pos rfl] at H
   replace H := Option.bind_eq_some_iff.mp H
   obtain ⟨t155, A80, H⟩ := H
   try dsimp only at H
   have A8 := Aside0.mk A80
   clear A80
   have H' := Aside0.mk H
   clear H
   have hcz9_0 : w4.cell? ⟨gb152, 0, none⟩ = some (.int .i64 a0_0) := (blk_cell BK152.out 0).trans rfl
   have hcz9_1 : w4.cell? ⟨gb152, 1, none⟩ = some (.int .i64 a0_1) := (blk_cell BK152.out 1).trans rfl
   have hcz9_2 : w4.cell? ⟨gb152, 2, none⟩ = some (.int .i64 a0_2) := (blk_cell BK152.out 2).trans rfl
   have hcz9_3 : w4.cell? ⟨gb152, 3, none⟩ = some (.int .i64 a0_3) := (blk_cell BK152.out 3).trans rfl
   have hcz9_4 : w4.cell? ⟨gb152, 4, none⟩ = some (.int .i64 a0_4) := (blk_cell BK152.out 4).trans rfl
   have hcz9_5 : w4.cell? ⟨gb152, 5, none⟩ = some (.int .i64 a0_5) := (blk_cell BK152.out 5).trans rfl
   have hcz9_6 : w4.cell? ⟨gb152, 6, none⟩ = some (.int .i64 a0_6) := (blk_cell BK152.out 6).trans rfl
   have hcz9_7 : w4.cell? ⟨gb152, 7, none⟩ = some (.int .i64 a0_7) := (blk_cell BK152.out 7).trans rfl
   have hcz9_8 : w4.cell? ⟨gb152, 8, none⟩ = some (.int .i64 a0_8) := (blk_cell BK152.out 8).trans rfl
   have hcz9_9 : w4.cell? ⟨gb152, 9, none⟩ = some (.int .i64 a0_9) := (blk_cell BK152.out 9).trans rfl
   have hcz9_10 : w4.cell? ⟨gb152, 10, none⟩ = some (.int .i64 a0_10) := (blk_cell BK152.out 10).trans rfl
   have hfz9_0 := blk_frozen BK152.out 0
   have hfz9_1 := blk_frozen BK152.out 1
   have hfz9_2 := blk_frozen BK152.out 2
   have hfz9_3 := blk_frozen BK152.out 3
   have hfz9_4 := blk_frozen BK152.out 4
   have hfz9_5 := blk_frozen BK152.out 5
   have hfz9_6 := blk_frozen BK152.out 6
   have hfz9_7 := blk_frozen BK152.out 7
   have hfz9_8 := blk_frozen BK152.out 8
   have hfz9_9 := blk_frozen BK152.out 9
   have hfz9_10 := blk_frozen BK152.out 10
  rotate_left 1
  focus
   replace c7 := Bool.eq_false_iff.mpr c7
   subst c7
   rw [if_neg (show ¬ (false = true) by decide)] at H
   have H' := Aside0.mk H
   clear H
   have hcz10_0 : w4.cell? ⟨gb152, 0, none⟩ = some (.int .i64 a0_0) := (blk_cell BK152.out 0).trans rfl
   have hcz10_1 : w4.cell? ⟨gb152, 1, none⟩ = some (.int .i64 a0_1) := (blk_cell BK152.out 1).trans rfl
   have hcz10_2 : w4.cell? ⟨gb152, 2, none⟩ = some (.int .i64 a0_2) := (blk_cell BK152.out 2).trans rfl
   have hcz10_3 : w4.cell? ⟨gb152, 3, none⟩ = some (.int .i64 a0_3) := (blk_cell BK152.out 3).trans rfl
   have hcz10_4 : w4.cell? ⟨gb152, 4, none⟩ = some (.int .i64 a0_4) := (blk_cell BK152.out 4).trans rfl
   have hcz10_5 : w4.cell? ⟨gb152, 5, none⟩ = some (.int .i64 a0_5) := (blk_cell BK152.out 5).trans rfl
   have hcz10_6 : w4.cell? ⟨gb152, 6, none⟩ = some (.int .i64 a0_6) := (blk_cell BK152.out 6).trans rfl
   have hcz10_7 : w4.cell? ⟨gb152, 7, none⟩ = some (.int .i64 a0_7) := (blk_cell BK152.out 7).trans rfl
   have hcz10_8 : w4.cell? ⟨gb152, 8, none⟩ = some (.int .i64 a0_8) := (blk_cell BK152.out 8).trans rfl
   have hcz10_9 : w4.cell? ⟨gb152, 9, none⟩ = some (.int .i64 a0_9) := (blk_cell BK152.out 9).trans rfl
   have hcz10_10 : w4.cell? ⟨gb152, 10, none⟩ = some (.int .i64 a0_10) := (blk_cell BK152.out 10).trans rfl
   have hfz10_0 := blk_frozen BK152.out 0
   have hfz10_1 := blk_frozen BK152.out 1
   have hfz10_2 := blk_frozen BK152.out 2
   have hfz10_3 := blk_frozen BK152.out 3
   have hfz10_4 := blk_frozen BK152.out 4
   have hfz10_5 := blk_frozen BK152.out 5
   have hfz10_6 := blk_frozen BK152.out 6
   have hfz10_7 := blk_frozen BK152.out 7
   have hfz10_8 := blk_frozen BK152.out 8
   have hfz10_9 := blk_frozen BK152.out 9
   have hfz10_10 := blk_frozen BK152.out 10
  rotate_left 1
  all_goals (go_wp2_with (first | ((with_reducible refine gate_callee (f := 30) rfl ?_); refine goesL_ (some 12) rfl rfl Tryd.func30 (by kernel_rfl) rfl #[.int .i64 a0_7, .int .i64 0, .int .i64 2147483646] rfl (by (try simp only [List.map_toArray, List.map_cons, List.map_nil]); first | done | rfl | (simp only [List.length_drop, List.length_take]; rfl)) ?_; (with_reducible refine (storagebarterref15_in.calls a0_7 0 2147483646 true _ A6.out).mono ?_); rintro e w' ⟨rfl, ⟨nd, rfl⟩⟩; refine ⟨_, rfl, ?_⟩) | (go_at_call 30; (with_reducible refine (storagebarterref15_in.calls a0_8 1 1024 t155 _ A8.out).mono ?_); rintro e w' ⟨rfl, ⟨nd, rfl⟩⟩) | ((with_reducible refine gate_callee (f := 30) rfl ?_); refine goesL_ (some 12) rfl rfl Tryd.func30 (by kernel_rfl) rfl #[.int .i64 a0_7, .int .i64 0, .int .i64 2147483646] rfl (by (try simp only [List.map_toArray, List.map_cons, List.map_nil]); first | done | rfl | (simp only [List.length_drop, List.length_take]; rfl)) ?_; (with_reducible refine (storagebarterref15_in.calls a0_7 0 2147483646 false _ A6.out).mono ?_); rintro e w' ⟨rfl, ⟨nd, rfl⟩⟩; refine ⟨_, rfl, ?_⟩)))
  ·go_meet
   case rel => exact ⟨_, (t155), (by first | rfl | (simp; done) | (simp [*]; done)), H', ⟨by first | omega | exact Nat.le_refl _⟩, ⟨by (with_reducible repeat (first | refine blk_drewN ?_ _ | refine blk_drew ?_ | refine blk_alloc ?_ _)); exact BK152.out⟩, ⟨by repeat (first | (with_reducible first | exact HB.out | apply below_alloc | apply pw_below_drewN | apply below_drew1 | refine below_set ?_ GE152.out) | exact HB.out)⟩⟩
  ·go_meet
   case rel => exact ⟨_, (false), (by first | rfl | (simp; done) | (simp [*]; done)), H', ⟨by first | omega | exact Nat.le_refl _⟩, ⟨by (with_reducible repeat (first | refine blk_drewN ?_ _ | refine blk_drew ?_ | refine blk_alloc ?_ _)); exact BK152.out⟩, ⟨by repeat (first | (with_reducible first | exact HB.out | apply below_alloc | apply pw_below_drewN | apply below_drew1 | refine below_set ?_ GE152.out) | exact HB.out)⟩⟩
 case rest =>
  clear HC3
  try clear p2
  try clear c3
  try clear c4
  try clear c7
  try clear hcz10_0
  try clear hcz10_1
  try clear hcz10_10
  try clear hcz10_2
  try clear hcz10_3
  try clear hcz10_4
  try clear hcz10_5
  try clear hcz10_6
  try clear hcz10_7
  try clear hcz10_8
  try clear hcz10_9
  try clear hcz5_0
  try clear hcz5_1
  try clear hcz5_10
  try clear hcz5_2
  try clear hcz5_3
  try clear hcz5_4
  try clear hcz5_5
  try clear hcz5_6
  try clear hcz5_7
  try clear hcz5_8
  try clear hcz5_9
  try clear hcz9_0
  try clear hcz9_1
  try clear hcz9_10
  try clear hcz9_2
  try clear hcz9_3
  try clear hcz9_4
  try clear hcz9_5
  try clear hcz9_6
  try clear hcz9_7
  try clear hcz9_8
  try clear hcz9_9
  try clear hfz10_0
  try clear hfz10_1
  try clear hfz10_10
  try clear hfz10_2
  try clear hfz10_3
  try clear hfz10_4
  try clear hfz10_5
  try clear hfz10_6
  try clear hfz10_7
  try clear hfz10_8
  try clear hfz10_9
  try clear hfz5_0
  try clear hfz5_1
  try clear hfz5_10
  try clear hfz5_2
  try clear hfz5_3
  try clear hfz5_4
  try clear hfz5_5
  try clear hfz5_6
  try clear hfz5_7
  try clear hfz5_8
  try clear hfz5_9
  try clear hfz9_0
  try clear hfz9_1
  try clear hfz9_10
  try clear hfz9_2
  try clear hfz9_3
  try clear hfz9_4
  try clear hfz9_5
  try clear hfz9_6
  try clear hfz9_7
  try clear hfz9_8
  try clear hfz9_9
  obtain ⟨kq, x4_2, rfl, HA, HJ2, BK152, HB⟩ := hcut
  cases kq with
  | zero => exact absurd HA.out (by simp [storagebarterref15_parts.j0])
  | succ kj2 =>
   have H := HA.out
   clear HA
   simp only [storagebarterref15_parts.j0] at H
   have HC11 := Aside0.mk H
   clear H
   go_upto_region 3 with (fail)
   go_cut [5] (fun v5 wc => ∃ (kq : Nat) (x5_10 : Bool), v5 = .bool x5_10 ∧ Aside0 (storagebarterref15_parts.j1 kq t153 x4_2 x5_10 a0_0 a0_1 a0_2 a0_3 a0_4 a0_5 a0_6 a0_7 a0_8 a0_9 a0_10 = some r) ∧ Aside0 (kq ≤ kj2) ∧ Aside0 (wc.heap[gb152]? = some (.cells #[.int .i64 a0_0, .int .i64 a0_1, .int .i64 a0_2, .int .i64 a0_3, .int .i64 a0_4, .int .i64 a0_5, .int .i64 a0_6, .int .i64 a0_7, .int .i64 a0_8, .int .i64 a0_9, .int .i64 a0_10] 39 (0, 0))) ∧ Aside0 (Below w.heap.size w wc))
   case first =>
    have H := HC11.out
    clear HC11
    replace H := Option.bind_eq_some_iff.mp H
    obtain ⟨t156, A120, H⟩ := H
    try dsimp only at H
    have A12 := Aside0.mk A120
    clear A120
    by_cases c13 : t156 = true
    ·subst c13
     rw [if_pos rfl] at H
     have H' := Aside0.mk H
     clear H
     have hcz14_0 : wc.cell? ⟨gb152, 0, none⟩ = some (.int .i64 a0_0) := (blk_cell BK152.out 0).trans rfl
     have hcz14_1 : wc.cell? ⟨gb152, 1, none⟩ = some (.int .i64 a0_1) := (blk_cell BK152.out 1).trans rfl
     have hcz14_2 : wc.cell? ⟨gb152, 2, none⟩ = some (.int .i64 a0_2) := (blk_cell BK152.out 2).trans rfl
     have hcz14_3 : wc.cell? ⟨gb152, 3, none⟩ = some (.int .i64 a0_3) := (blk_cell BK152.out 3).trans rfl
     have hcz14_4 : wc.cell? ⟨gb152, 4, none⟩ = some (.int .i64 a0_4) := (blk_cell BK152.out 4).trans rfl
     have hcz14_5 : wc.cell? ⟨gb152, 5, none⟩ = some (.int .i64 a0_5) := (blk_cell BK152.out 5).trans rfl
     have hcz14_6 : wc.cell? ⟨gb152, 6, none⟩ = some (.int .i64 a0_6) := (blk_cell BK152.out 6).trans rfl
     have hcz14_7 : wc.cell? ⟨gb152, 7, none⟩ = some (.int .i64 a0_7) := (blk_cell BK152.out 7).trans rfl
     have hcz14_8 : wc.cell? ⟨gb152, 8, none⟩ = some (.int .i64 a0_8) := (blk_cell BK152.out 8).trans rfl
     have hcz14_9 : wc.cell? ⟨gb152, 9, none⟩ = some (.int .i64 a0_9) := (blk_cell BK152.out 9).trans rfl
     have hcz14_10 : wc.cell? ⟨gb152, 10, none⟩ = some (.int .i64 a0_10) := (blk_cell BK152.out 10).trans rfl
     have hfz14_0 := blk_frozen BK152.out 0
     have hfz14_1 := blk_frozen BK152.out 1
     have hfz14_2 := blk_frozen BK152.out 2
     have hfz14_3 := blk_frozen BK152.out 3
     have hfz14_4 := blk_frozen BK152.out 4
     have hfz14_5 := blk_frozen BK152.out 5
     have hfz14_6 := blk_frozen BK152.out 6
     have hfz14_7 := blk_frozen BK152.out 7
     have hfz14_8 := blk_frozen BK152.out 8
     have hfz14_9 := blk_frozen BK152.out 9
     have hfz14_10 := blk_frozen BK152.out 10
     go_wp2_with (first | ((with_reducible refine gate_callee (f := 30) rfl ?_); refine goesL_ (some 26) rfl rfl Tryd.func30 (by kernel_rfl) rfl #[.int .i64 a0_9, .int .i64 (wrap64 (a0_4 + 1)), .int .i64 (wrap64 (a0_4 + 65536))] rfl (by (try simp only [List.map_toArray, List.map_cons, List.map_nil]); first | done | rfl | (simp only [List.length_drop, List.length_take]; rfl)) ?_; (with_reducible refine (storagebarterref15_in.calls a0_9 (wrap64 (a0_4 + 1)) (wrap64 (a0_4 + 65536)) true _ A12.out).mono ?_); rintro e w' ⟨rfl, ⟨nd, rfl⟩⟩; refine ⟨_, rfl, ?_⟩))
     go_meet
     case rel => exact ⟨_, (decide (a0_9 ≤ 1048576)), (by first | rfl | (simp; done) | (simp [*]; done)), H', ⟨by have := HJ2.out; first | omega | exact Nat.le_refl _⟩, ⟨by (with_reducible repeat (first | refine blk_drewN ?_ _ | refine blk_drew ?_ | refine blk_alloc ?_ _)); exact BK152.out⟩, ⟨by repeat (first | (with_reducible first | exact HB.out | apply below_alloc | apply pw_below_drewN | apply below_drew1 | refine below_set ?_ GE152.out) | exact HB.out)⟩⟩
    ·replace c13 := Bool.eq_false_iff.mpr c13
     subst c13
     rw [if_neg (show ¬ (false = true) by decide)] at H
     have H' := Aside0.mk H
     clear H
     have hcz15_0 : wc.cell? ⟨gb152, 0, none⟩ = some (.int .i64 a0_0) := (blk_cell BK152.out 0).trans rfl
     have hcz15_1 : wc.cell? ⟨gb152, 1, none⟩ = some (.int .i64 a0_1) := (blk_cell BK152.out 1).trans rfl
     have hcz15_2 : wc.cell? ⟨gb152, 2, none⟩ = some (.int .i64 a0_2) := (blk_cell BK152.out 2).trans rfl
     have hcz15_3 : wc.cell? ⟨gb152, 3, none⟩ = some (.int .i64 a0_3) := (blk_cell BK152.out 3).trans rfl
     have hcz15_4 : wc.cell? ⟨gb152, 4, none⟩ = some (.int .i64 a0_4) := (blk_cell BK152.out 4).trans rfl
     have hcz15_5 : wc.cell? ⟨gb152, 5, none⟩ = some (.int .i64 a0_5) := (blk_cell BK152.out 5).trans rfl
     have hcz15_6 : wc.cell? ⟨gb152, 6, none⟩ = some (.int .i64 a0_6) := (blk_cell BK152.out 6).trans rfl
     have hcz15_7 : wc.cell? ⟨gb152, 7, none⟩ = some (.int .i64 a0_7) := (blk_cell BK152.out 7).trans rfl
     have hcz15_8 : wc.cell? ⟨gb152, 8, none⟩ = some (.int .i64 a0_8) := (blk_cell BK152.out 8).trans rfl
     have hcz15_9 : wc.cell? ⟨gb152, 9, none⟩ = some (.int .i64 a0_9) := (blk_cell BK152.out 9).trans rfl
     have hcz15_10 : wc.cell? ⟨gb152, 10, none⟩ = some (.int .i64 a0_10) := (blk_cell BK152.out 10).trans rfl
     have hfz15_0 := blk_frozen BK152.out 0
     have hfz15_1 := blk_frozen BK152.out 1
     have hfz15_2 := blk_frozen BK152.out 2
     have hfz15_3 := blk_frozen BK152.out 3
     have hfz15_4 := blk_frozen BK152.out 4
     have hfz15_5 := blk_frozen BK152.out 5
     have hfz15_6 := blk_frozen BK152.out 6
     have hfz15_7 := blk_frozen BK152.out 7
     have hfz15_8 := blk_frozen BK152.out 8
     have hfz15_9 := blk_frozen BK152.out 9
     have hfz15_10 := blk_frozen BK152.out 10
     go_wp2_with (first | ((with_reducible refine gate_callee (f := 30) rfl ?_); refine goesL_ (some 26) rfl rfl Tryd.func30 (by kernel_rfl) rfl #[.int .i64 a0_9, .int .i64 (wrap64 (a0_4 + 1)), .int .i64 (wrap64 (a0_4 + 65536))] rfl (by (try simp only [List.map_toArray, List.map_cons, List.map_nil]); first | done | rfl | (simp only [List.length_drop, List.length_take]; rfl)) ?_; (with_reducible refine (storagebarterref15_in.calls a0_9 (wrap64 (a0_4 + 1)) (wrap64 (a0_4 + 65536)) false _ A12.out).mono ?_); rintro e w' ⟨rfl, ⟨nd, rfl⟩⟩; refine ⟨_, rfl, ?_⟩))
     go_meet
     case rel => exact ⟨_, (false), (by first | rfl | (simp; done) | (simp [*]; done)), H', ⟨by have := HJ2.out; first | omega | exact Nat.le_refl _⟩, ⟨by (with_reducible repeat (first | refine blk_drewN ?_ _ | refine blk_drew ?_ | refine blk_alloc ?_ _)); exact BK152.out⟩, ⟨by repeat (first | (with_reducible first | exact HB.out | apply below_alloc | apply pw_below_drewN | apply below_drew1 | refine below_set ?_ GE152.out) | exact HB.out)⟩⟩
   case rest =>
    clear HC11
    try clear c1
    try clear p2
    try clear c3
    try clear c4
    try clear p6
    try clear c7
    try clear c13
    try clear hcz10_0
    try clear hcz10_1
    try clear hcz10_10
    try clear hcz10_2
    try clear hcz10_3
    try clear hcz10_4
    try clear hcz10_5
    try clear hcz10_6
    try clear hcz10_7
    try clear hcz10_8
    try clear hcz10_9
    try clear hcz14_0
    try clear hcz14_1
    try clear hcz14_10
    try clear hcz14_2
    try clear hcz14_3
    try clear hcz14_4
    try clear hcz14_5
    try clear hcz14_6
    try clear hcz14_7
    try clear hcz14_8
    try clear hcz14_9
    try clear hcz15_0
    try clear hcz15_1
    try clear hcz15_10
    try clear hcz15_2
    try clear hcz15_3
    try clear hcz15_4
    try clear hcz15_5
    try clear hcz15_6
    try clear hcz15_7
    try clear hcz15_8
    try clear hcz15_9
    try clear hcz5_0
    try clear hcz5_1
    try clear hcz5_10
    try clear hcz5_2
    try clear hcz5_3
    try clear hcz5_4
    try clear hcz5_5
    try clear hcz5_6
    try clear hcz5_7
    try clear hcz5_8
    try clear hcz5_9
    try clear hcz9_0
    try clear hcz9_1
    try clear hcz9_10
    try clear hcz9_2
    try clear hcz9_3
    try clear hcz9_4
    try clear hcz9_5
    try clear hcz9_6
    try clear hcz9_7
    try clear hcz9_8
    try clear hcz9_9
    try clear hfz10_0
    try clear hfz10_1
    try clear hfz10_10
    try clear hfz10_2
    try clear hfz10_3
    try clear hfz10_4
    try clear hfz10_5
    try clear hfz10_6
    try clear hfz10_7
    try clear hfz10_8
    try clear hfz10_9
    try clear hfz14_0
    try clear hfz14_1
    try clear hfz14_10
    try clear hfz14_2
    try clear hfz14_3
    try clear hfz14_4
    try clear hfz14_5
    try clear hfz14_6
    try clear hfz14_7
    try clear hfz14_8
    try clear hfz14_9
    try clear hfz15_0
    try clear hfz15_1
    try clear hfz15_10
    try clear hfz15_2
    try clear hfz15_3
    try clear hfz15_4
    try clear hfz15_5
    try clear hfz15_6
    try clear hfz15_7
    try clear hfz15_8
    try clear hfz15_9
    try clear hfz5_0
    try clear hfz5_1
    try clear hfz5_10
    try clear hfz5_2
    try clear hfz5_3
    try clear hfz5_4
    try clear hfz5_5
    try clear hfz5_6
    try clear hfz5_7
    try clear hfz5_8
    try clear hfz5_9
    try clear hfz9_0
    try clear hfz9_1
    try clear hfz9_10
    try clear hfz9_2
    try clear hfz9_3
    try clear hfz9_4
    try clear hfz9_5
    try clear hfz9_6
    try clear hfz9_7
    try clear hfz9_8
    try clear hfz9_9
    try clear p2
    obtain ⟨kq, x5_10, rfl, HA, HJ10, BK152, HB⟩ := hcut
    cases kq with
    | zero => exact absurd HA.out (by simp [storagebarterref15_parts.j1])
    | succ kj10 =>
     have H := HA.out
     clear HA
     simp only [storagebarterref15_parts.j1] at H
     have HC16 := Aside0.mk H
     clear H
     go_upto_region 4 with (fail)
     go_cut [6] (fun v6 wc => ∃ (kq : Nat) (x6_15 : Bool), v6 = .bool x6_15 ∧ Aside0 (storagebarterref15_parts.j2 kq t153 x4_2 x5_10 x6_15 a0_0 a0_1 a0_2 a0_3 a0_4 a0_5 a0_6 a0_7 a0_8 a0_9 a0_10 = some r) ∧ Aside0 (kq ≤ kj10) ∧ Aside0 (wc.heap[gb152]? = some (.cells #[.int .i64 a0_0, .int .i64 a0_1, .int .i64 a0_2, .int .i64 a0_3, .int .i64 a0_4, .int .i64 a0_5, .int .i64 a0_6, .int .i64 a0_7, .int .i64 a0_8, .int .i64 a0_9, .int .i64 a0_10] 39 (0, 0))) ∧ Aside0 (Below w.heap.size w wc))
     case first =>
      have H := HC16.out
      clear HC16
      by_cases c17 : a0_7 = 0
      ·rw [if_pos c17] at H
       have c17b0 : (a0_7 == 0) = true := beq_iff_eq.mpr c17
       have c17b1 : (a0_7 != 0) = false := bne_eq_false_iff_eq.mpr c17
       clear c17
       (first | rw [c17b0] | (simp only [i64_w, i32_w]; rw [c17b0]) | skip)
       have H' := Aside0.mk H
       clear H
       have hcz18_0 : wc.cell? ⟨gb152, 0, none⟩ = some (.int .i64 a0_0) := (blk_cell BK152.out 0).trans rfl
       have hcz18_1 : wc.cell? ⟨gb152, 1, none⟩ = some (.int .i64 a0_1) := (blk_cell BK152.out 1).trans rfl
       have hcz18_2 : wc.cell? ⟨gb152, 2, none⟩ = some (.int .i64 a0_2) := (blk_cell BK152.out 2).trans rfl
       have hcz18_3 : wc.cell? ⟨gb152, 3, none⟩ = some (.int .i64 a0_3) := (blk_cell BK152.out 3).trans rfl
       have hcz18_4 : wc.cell? ⟨gb152, 4, none⟩ = some (.int .i64 a0_4) := (blk_cell BK152.out 4).trans rfl
       have hcz18_5 : wc.cell? ⟨gb152, 5, none⟩ = some (.int .i64 a0_5) := (blk_cell BK152.out 5).trans rfl
       have hcz18_6 : wc.cell? ⟨gb152, 6, none⟩ = some (.int .i64 a0_6) := (blk_cell BK152.out 6).trans rfl
       have hcz18_7 : wc.cell? ⟨gb152, 7, none⟩ = some (.int .i64 a0_7) := (blk_cell BK152.out 7).trans rfl
       have hcz18_8 : wc.cell? ⟨gb152, 8, none⟩ = some (.int .i64 a0_8) := (blk_cell BK152.out 8).trans rfl
       have hcz18_9 : wc.cell? ⟨gb152, 9, none⟩ = some (.int .i64 a0_9) := (blk_cell BK152.out 9).trans rfl
       have hcz18_10 : wc.cell? ⟨gb152, 10, none⟩ = some (.int .i64 a0_10) := (blk_cell BK152.out 10).trans rfl
       have hfz18_0 := blk_frozen BK152.out 0
       have hfz18_1 := blk_frozen BK152.out 1
       have hfz18_2 := blk_frozen BK152.out 2
       have hfz18_3 := blk_frozen BK152.out 3
       have hfz18_4 := blk_frozen BK152.out 4
       have hfz18_5 := blk_frozen BK152.out 5
       have hfz18_6 := blk_frozen BK152.out 6
       have hfz18_7 := blk_frozen BK152.out 7
       have hfz18_8 := blk_frozen BK152.out 8
       have hfz18_9 := blk_frozen BK152.out 9
       have hfz18_10 := blk_frozen BK152.out 10
       go_wp2
       go_meet
       case rel => exact ⟨_, ((a0_8 == 0)), (by first | rfl | (simp; done) | (simp [*]; done)), H', ⟨by have := HJ2.out; have := HJ10.out; first | omega | exact Nat.le_refl _⟩, ⟨by (with_reducible repeat (first | refine blk_drewN ?_ _ | refine blk_drew ?_ | refine blk_alloc ?_ _)); exact BK152.out⟩, ⟨by repeat (first | (with_reducible first | exact HB.out | apply below_alloc | apply pw_below_drewN | apply below_drew1 | refine below_set ?_ GE152.out) | exact HB.out)⟩⟩
      ·rw [if_neg c17] at H
       have c17b0 : (a0_7 == 0) = false := beq_eq_false_iff_ne.mpr c17
       have c17b1 : (a0_7 != 0) = true := bne_iff_ne.mpr c17
       (first | rw [c17b0] | (simp only [i64_w, i32_w]; rw [c17b0]) | skip)
       have H' := Aside0.mk H
       clear H
       have hcz19_0 : wc.cell? ⟨gb152, 0, none⟩ = some (.int .i64 a0_0) := (blk_cell BK152.out 0).trans rfl
       have hcz19_1 : wc.cell? ⟨gb152, 1, none⟩ = some (.int .i64 a0_1) := (blk_cell BK152.out 1).trans rfl
       have hcz19_2 : wc.cell? ⟨gb152, 2, none⟩ = some (.int .i64 a0_2) := (blk_cell BK152.out 2).trans rfl
       have hcz19_3 : wc.cell? ⟨gb152, 3, none⟩ = some (.int .i64 a0_3) := (blk_cell BK152.out 3).trans rfl
       have hcz19_4 : wc.cell? ⟨gb152, 4, none⟩ = some (.int .i64 a0_4) := (blk_cell BK152.out 4).trans rfl
       have hcz19_5 : wc.cell? ⟨gb152, 5, none⟩ = some (.int .i64 a0_5) := (blk_cell BK152.out 5).trans rfl
       have hcz19_6 : wc.cell? ⟨gb152, 6, none⟩ = some (.int .i64 a0_6) := (blk_cell BK152.out 6).trans rfl
       have hcz19_7 : wc.cell? ⟨gb152, 7, none⟩ = some (.int .i64 a0_7) := (blk_cell BK152.out 7).trans rfl
       have hcz19_8 : wc.cell? ⟨gb152, 8, none⟩ = some (.int .i64 a0_8) := (blk_cell BK152.out 8).trans rfl
       have hcz19_9 : wc.cell? ⟨gb152, 9, none⟩ = some (.int .i64 a0_9) := (blk_cell BK152.out 9).trans rfl
       have hcz19_10 : wc.cell? ⟨gb152, 10, none⟩ = some (.int .i64 a0_10) := (blk_cell BK152.out 10).trans rfl
       have hfz19_0 := blk_frozen BK152.out 0
       have hfz19_1 := blk_frozen BK152.out 1
       have hfz19_2 := blk_frozen BK152.out 2
       have hfz19_3 := blk_frozen BK152.out 3
       have hfz19_4 := blk_frozen BK152.out 4
       have hfz19_5 := blk_frozen BK152.out 5
       have hfz19_6 := blk_frozen BK152.out 6
       have hfz19_7 := blk_frozen BK152.out 7
       have hfz19_8 := blk_frozen BK152.out 8
       have hfz19_9 := blk_frozen BK152.out 9
       have hfz19_10 := blk_frozen BK152.out 10
       go_wp2
       go_meet
       case rel => exact ⟨_, (false), (by first | rfl | (simp; done) | (simp [*]; done)), H', ⟨by have := HJ2.out; have := HJ10.out; first | omega | exact Nat.le_refl _⟩, ⟨by (with_reducible repeat (first | refine blk_drewN ?_ _ | refine blk_drew ?_ | refine blk_alloc ?_ _)); exact BK152.out⟩, ⟨by repeat (first | (with_reducible first | exact HB.out | apply below_alloc | apply pw_below_drewN | apply below_drew1 | refine below_set ?_ GE152.out) | exact HB.out)⟩⟩
     case rest =>
      clear HC16
      try clear c1
      try clear p2
      try clear c3
      try clear c4
      try clear p6
      try clear c7
      try clear c13
      try clear c17
      try clear c17b0
      try clear c17b1
      try clear hcz10_0
      try clear hcz10_1
      try clear hcz10_10
      try clear hcz10_2
      try clear hcz10_3
      try clear hcz10_4
      try clear hcz10_5
      try clear hcz10_6
      try clear hcz10_7
      try clear hcz10_8
      try clear hcz10_9
      try clear hcz14_0
      try clear hcz14_1
      try clear hcz14_10
      try clear hcz14_2
      try clear hcz14_3
      try clear hcz14_4
      try clear hcz14_5
      try clear hcz14_6
      try clear hcz14_7
      try clear hcz14_8
      try clear hcz14_9
      try clear hcz15_0
      try clear hcz15_1
      try clear hcz15_10
      try clear hcz15_2
      try clear hcz15_3
      try clear hcz15_4
      try clear hcz15_5
      try clear hcz15_6
      try clear hcz15_7
      try clear hcz15_8
      try clear hcz15_9
      try clear hcz18_0
      try clear hcz18_1
      try clear hcz18_10
      try clear hcz18_2
      try clear hcz18_3
      try clear hcz18_4
      try clear hcz18_5
      try clear hcz18_6
      try clear hcz18_7
      try clear hcz18_8
      try clear hcz18_9
      try clear hcz19_0
      try clear hcz19_1
      try clear hcz19_10
      try clear hcz19_2
      try clear hcz19_3
      try clear hcz19_4
      try clear hcz19_5
      try clear hcz19_6
      try clear hcz19_7
      try clear hcz19_8
      try clear hcz19_9
      try clear hcz5_0
      try clear hcz5_1
      try clear hcz5_10
      try clear hcz5_2
      try clear hcz5_3
      try clear hcz5_4
      try clear hcz5_5
      try clear hcz5_6
      try clear hcz5_7
      try clear hcz5_8
      try clear hcz5_9
      try clear hcz9_0
      try clear hcz9_1
      try clear hcz9_10
      try clear hcz9_2
      try clear hcz9_3
      try clear hcz9_4
      try clear hcz9_5
      try clear hcz9_6
      try clear hcz9_7
      try clear hcz9_8
      try clear hcz9_9
      try clear hfz10_0
      try clear hfz10_1
      try clear hfz10_10
      try clear hfz10_2
      try clear hfz10_3
      try clear hfz10_4
      try clear hfz10_5
      try clear hfz10_6
      try clear hfz10_7
      try clear hfz10_8
      try clear hfz10_9
      try clear hfz14_0
      try clear hfz14_1
      try clear hfz14_10
      try clear hfz14_2
      try clear hfz14_3
      try clear hfz14_4
      try clear hfz14_5
      try clear hfz14_6
      try clear hfz14_7
      try clear hfz14_8
      try clear hfz14_9
      try clear hfz15_0
      try clear hfz15_1
      try clear hfz15_10
      try clear hfz15_2
      try clear hfz15_3
      try clear hfz15_4
      try clear hfz15_5
      try clear hfz15_6
      try clear hfz15_7
      try clear hfz15_8
      try clear hfz15_9
      try clear hfz18_0
      try clear hfz18_1
      try clear hfz18_10
      try clear hfz18_2
      try clear hfz18_3
      try clear hfz18_4
      try clear hfz18_5
      try clear hfz18_6
      try clear hfz18_7
      try clear hfz18_8
      try clear hfz18_9
      try clear hfz19_0
      try clear hfz19_1
      try clear hfz19_10
      try clear hfz19_2
      try clear hfz19_3
      try clear hfz19_4
      try clear hfz19_5
      try clear hfz19_6
      try clear hfz19_7
      try clear hfz19_8
      try clear hfz19_9
      try clear hfz5_0
      try clear hfz5_1
      try clear hfz5_10
      try clear hfz5_2
      try clear hfz5_3
      try clear hfz5_4
      try clear hfz5_5
      try clear hfz5_6
      try clear hfz5_7
      try clear hfz5_8
      try clear hfz5_9
      try clear hfz9_0
      try clear hfz9_1
      try clear hfz9_10
      try clear hfz9_2
      try clear hfz9_3
      try clear hfz9_4
      try clear hfz9_5
      try clear hfz9_6
      try clear hfz9_7
      try clear hfz9_8
      try clear hfz9_9
      try clear p2
      try clear p6
      obtain ⟨kq, x6_15, rfl, HA, HJ15, BK152, HB⟩ := hcut
      cases kq with
      | zero => exact absurd HA.out (by simp [storagebarterref15_parts.j2])
      | succ kj15 =>
       have H := HA.out
       clear HA
       simp only [storagebarterref15_parts.j2] at H
       by_cases c20 : a0_5 = 1
       ·rw [if_pos c20] at H
        have c20b0 : (a0_5 == 1) = true := beq_iff_eq.mpr c20
        have c20b1 : (a0_5 != 1) = false := bne_eq_false_iff_eq.mpr c20
        clear c20
        by_cases c21 : t153 = true
        ·subst c21
         rw [if_pos rfl] at H
         by_cases c22 : x4_2 = true
         ·subst c22
          rw [if_pos rfl] at H
          obtain rfl := Option.some.inj H
          have hcz23_0 : wc.cell? ⟨gb152, 0, none⟩ = some (.int .i64 a0_0) := (blk_cell BK152.out 0).trans rfl
          have hcz23_1 : wc.cell? ⟨gb152, 1, none⟩ = some (.int .i64 a0_1) := (blk_cell BK152.out 1).trans rfl
          have hcz23_2 : wc.cell? ⟨gb152, 2, none⟩ = some (.int .i64 a0_2) := (blk_cell BK152.out 2).trans rfl
          have hcz23_3 : wc.cell? ⟨gb152, 3, none⟩ = some (.int .i64 a0_3) := (blk_cell BK152.out 3).trans rfl
          have hcz23_4 : wc.cell? ⟨gb152, 4, none⟩ = some (.int .i64 a0_4) := (blk_cell BK152.out 4).trans rfl
          have hcz23_5 : wc.cell? ⟨gb152, 5, none⟩ = some (.int .i64 a0_5) := (blk_cell BK152.out 5).trans rfl
          have hcz23_6 : wc.cell? ⟨gb152, 6, none⟩ = some (.int .i64 a0_6) := (blk_cell BK152.out 6).trans rfl
          have hcz23_7 : wc.cell? ⟨gb152, 7, none⟩ = some (.int .i64 a0_7) := (blk_cell BK152.out 7).trans rfl
          have hcz23_8 : wc.cell? ⟨gb152, 8, none⟩ = some (.int .i64 a0_8) := (blk_cell BK152.out 8).trans rfl
          have hcz23_9 : wc.cell? ⟨gb152, 9, none⟩ = some (.int .i64 a0_9) := (blk_cell BK152.out 9).trans rfl
          have hcz23_10 : wc.cell? ⟨gb152, 10, none⟩ = some (.int .i64 a0_10) := (blk_cell BK152.out 10).trans rfl
          have hfz23_0 := blk_frozen BK152.out 0
          have hfz23_1 := blk_frozen BK152.out 1
          have hfz23_2 := blk_frozen BK152.out 2
          have hfz23_3 := blk_frozen BK152.out 3
          have hfz23_4 := blk_frozen BK152.out 4
          have hfz23_5 := blk_frozen BK152.out 5
          have hfz23_6 := blk_frozen BK152.out 6
          have hfz23_7 := blk_frozen BK152.out 7
          have hfz23_8 := blk_frozen BK152.out 8
          have hfz23_9 := blk_frozen BK152.out 9
          have hfz23_10 := blk_frozen BK152.out 10
          go_wp2
          go_ret
          exact ⟨by first | rfl | (simp [errW_none, errW_some] <;> rfl) | (simp [*, errW_none, errW_some] <;> rfl), by repeat (first | (with_reducible first | exact HB.out | apply below_alloc | apply pw_below_drewN | apply below_drew1 | refine below_set ?_ GE152.out) | exact HB.out)⟩
         ·replace c22 := Bool.eq_false_iff.mpr c22
          subst c22
          rw [if_neg (show ¬ (false = true) by decide)] at H
          obtain rfl := Option.some.inj H
          have hcz24_0 : wc.cell? ⟨gb152, 0, none⟩ = some (.int .i64 a0_0) := (blk_cell BK152.out 0).trans rfl
          have hcz24_1 : wc.cell? ⟨gb152, 1, none⟩ = some (.int .i64 a0_1) := (blk_cell BK152.out 1).trans rfl
          have hcz24_2 : wc.cell? ⟨gb152, 2, none⟩ = some (.int .i64 a0_2) := (blk_cell BK152.out 2).trans rfl
          have hcz24_3 : wc.cell? ⟨gb152, 3, none⟩ = some (.int .i64 a0_3) := (blk_cell BK152.out 3).trans rfl
          have hcz24_4 : wc.cell? ⟨gb152, 4, none⟩ = some (.int .i64 a0_4) := (blk_cell BK152.out 4).trans rfl
          have hcz24_5 : wc.cell? ⟨gb152, 5, none⟩ = some (.int .i64 a0_5) := (blk_cell BK152.out 5).trans rfl
          have hcz24_6 : wc.cell? ⟨gb152, 6, none⟩ = some (.int .i64 a0_6) := (blk_cell BK152.out 6).trans rfl
          have hcz24_7 : wc.cell? ⟨gb152, 7, none⟩ = some (.int .i64 a0_7) := (blk_cell BK152.out 7).trans rfl
          have hcz24_8 : wc.cell? ⟨gb152, 8, none⟩ = some (.int .i64 a0_8) := (blk_cell BK152.out 8).trans rfl
          have hcz24_9 : wc.cell? ⟨gb152, 9, none⟩ = some (.int .i64 a0_9) := (blk_cell BK152.out 9).trans rfl
          have hcz24_10 : wc.cell? ⟨gb152, 10, none⟩ = some (.int .i64 a0_10) := (blk_cell BK152.out 10).trans rfl
          have hfz24_0 := blk_frozen BK152.out 0
          have hfz24_1 := blk_frozen BK152.out 1
          have hfz24_2 := blk_frozen BK152.out 2
          have hfz24_3 := blk_frozen BK152.out 3
          have hfz24_4 := blk_frozen BK152.out 4
          have hfz24_5 := blk_frozen BK152.out 5
          have hfz24_6 := blk_frozen BK152.out 6
          have hfz24_7 := blk_frozen BK152.out 7
          have hfz24_8 := blk_frozen BK152.out 8
          have hfz24_9 := blk_frozen BK152.out 9
          have hfz24_10 := blk_frozen BK152.out 10
          go_wp2
          go_ret
          exact ⟨by first | rfl | (simp [errW_none, errW_some] <;> rfl) | (simp [*, errW_none, errW_some] <;> rfl), by repeat (first | (with_reducible first | exact HB.out | apply below_alloc | apply pw_below_drewN | apply below_drew1 | refine below_set ?_ GE152.out) | exact HB.out)⟩
        ·replace c21 := Bool.eq_false_iff.mpr c21
         subst c21
         rw [if_neg (show ¬ (false = true) by decide)] at H
         obtain rfl := Option.some.inj H
         have hcz25_0 : wc.cell? ⟨gb152, 0, none⟩ = some (.int .i64 a0_0) := (blk_cell BK152.out 0).trans rfl
         have hcz25_1 : wc.cell? ⟨gb152, 1, none⟩ = some (.int .i64 a0_1) := (blk_cell BK152.out 1).trans rfl
         have hcz25_2 : wc.cell? ⟨gb152, 2, none⟩ = some (.int .i64 a0_2) := (blk_cell BK152.out 2).trans rfl
         have hcz25_3 : wc.cell? ⟨gb152, 3, none⟩ = some (.int .i64 a0_3) := (blk_cell BK152.out 3).trans rfl
         have hcz25_4 : wc.cell? ⟨gb152, 4, none⟩ = some (.int .i64 a0_4) := (blk_cell BK152.out 4).trans rfl
         have hcz25_5 : wc.cell? ⟨gb152, 5, none⟩ = some (.int .i64 a0_5) := (blk_cell BK152.out 5).trans rfl
         have hcz25_6 : wc.cell? ⟨gb152, 6, none⟩ = some (.int .i64 a0_6) := (blk_cell BK152.out 6).trans rfl
         have hcz25_7 : wc.cell? ⟨gb152, 7, none⟩ = some (.int .i64 a0_7) := (blk_cell BK152.out 7).trans rfl
         have hcz25_8 : wc.cell? ⟨gb152, 8, none⟩ = some (.int .i64 a0_8) := (blk_cell BK152.out 8).trans rfl
         have hcz25_9 : wc.cell? ⟨gb152, 9, none⟩ = some (.int .i64 a0_9) := (blk_cell BK152.out 9).trans rfl
         have hcz25_10 : wc.cell? ⟨gb152, 10, none⟩ = some (.int .i64 a0_10) := (blk_cell BK152.out 10).trans rfl
         have hfz25_0 := blk_frozen BK152.out 0
         have hfz25_1 := blk_frozen BK152.out 1
         have hfz25_2 := blk_frozen BK152.out 2
         have hfz25_3 := blk_frozen BK152.out 3
         have hfz25_4 := blk_frozen BK152.out 4
         have hfz25_5 := blk_frozen BK152.out 5
         have hfz25_6 := blk_frozen BK152.out 6
         have hfz25_7 := blk_frozen BK152.out 7
         have hfz25_8 := blk_frozen BK152.out 8
         have hfz25_9 := blk_frozen BK152.out 9
         have hfz25_10 := blk_frozen BK152.out 10
         go_wp2
         go_ret
         exact ⟨by first | rfl | (simp [errW_none, errW_some] <;> rfl) | (simp [*, errW_none, errW_some] <;> rfl), by repeat (first | (with_reducible first | exact HB.out | apply below_alloc | apply pw_below_drewN | apply below_drew1 | refine below_set ?_ GE152.out) | exact HB.out)⟩
       ·rw [if_neg c20] at H
        have c20b0 : (a0_5 == 1) = false := beq_eq_false_iff_ne.mpr c20
        have c20b1 : (a0_5 != 1) = true := bne_iff_ne.mpr c20
        by_cases c26 : a0_5 = 2
        ·rw [if_pos c26] at H
         have c26b0 : (a0_5 == 2) = true := beq_iff_eq.mpr c26
         have c26b1 : (a0_5 != 2) = false := bne_eq_false_iff_eq.mpr c26
         clear c26
         by_cases c27 : t153 = true
         ·subst c27
          rw [if_pos rfl] at H
          by_cases c28 : x6_15 = true
          ·subst c28
           rw [if_pos rfl] at H
           obtain rfl := Option.some.inj H
           have hcz29_0 : wc.cell? ⟨gb152, 0, none⟩ = some (.int .i64 a0_0) := (blk_cell BK152.out 0).trans rfl
           have hcz29_1 : wc.cell? ⟨gb152, 1, none⟩ = some (.int .i64 a0_1) := (blk_cell BK152.out 1).trans rfl
           have hcz29_2 : wc.cell? ⟨gb152, 2, none⟩ = some (.int .i64 a0_2) := (blk_cell BK152.out 2).trans rfl
           have hcz29_3 : wc.cell? ⟨gb152, 3, none⟩ = some (.int .i64 a0_3) := (blk_cell BK152.out 3).trans rfl
           have hcz29_4 : wc.cell? ⟨gb152, 4, none⟩ = some (.int .i64 a0_4) := (blk_cell BK152.out 4).trans rfl
           have hcz29_5 : wc.cell? ⟨gb152, 5, none⟩ = some (.int .i64 a0_5) := (blk_cell BK152.out 5).trans rfl
           have hcz29_6 : wc.cell? ⟨gb152, 6, none⟩ = some (.int .i64 a0_6) := (blk_cell BK152.out 6).trans rfl
           have hcz29_7 : wc.cell? ⟨gb152, 7, none⟩ = some (.int .i64 a0_7) := (blk_cell BK152.out 7).trans rfl
           have hcz29_8 : wc.cell? ⟨gb152, 8, none⟩ = some (.int .i64 a0_8) := (blk_cell BK152.out 8).trans rfl
           have hcz29_9 : wc.cell? ⟨gb152, 9, none⟩ = some (.int .i64 a0_9) := (blk_cell BK152.out 9).trans rfl
           have hcz29_10 : wc.cell? ⟨gb152, 10, none⟩ = some (.int .i64 a0_10) := (blk_cell BK152.out 10).trans rfl
           have hfz29_0 := blk_frozen BK152.out 0
           have hfz29_1 := blk_frozen BK152.out 1
           have hfz29_2 := blk_frozen BK152.out 2
           have hfz29_3 := blk_frozen BK152.out 3
           have hfz29_4 := blk_frozen BK152.out 4
           have hfz29_5 := blk_frozen BK152.out 5
           have hfz29_6 := blk_frozen BK152.out 6
           have hfz29_7 := blk_frozen BK152.out 7
           have hfz29_8 := blk_frozen BK152.out 8
           have hfz29_9 := blk_frozen BK152.out 9
           have hfz29_10 := blk_frozen BK152.out 10
           go_wp2
           go_ret
           exact ⟨by first | rfl | (simp [errW_none, errW_some] <;> rfl) | (simp [*, errW_none, errW_some] <;> rfl), by repeat (first | (with_reducible first | exact HB.out | apply below_alloc | apply pw_below_drewN | apply below_drew1 | refine below_set ?_ GE152.out) | exact HB.out)⟩
          ·replace c28 := Bool.eq_false_iff.mpr c28
           subst c28
           rw [if_neg (show ¬ (false = true) by decide)] at H
           obtain rfl := Option.some.inj H
           have hcz30_0 : wc.cell? ⟨gb152, 0, none⟩ = some (.int .i64 a0_0) := (blk_cell BK152.out 0).trans rfl
           have hcz30_1 : wc.cell? ⟨gb152, 1, none⟩ = some (.int .i64 a0_1) := (blk_cell BK152.out 1).trans rfl
           have hcz30_2 : wc.cell? ⟨gb152, 2, none⟩ = some (.int .i64 a0_2) := (blk_cell BK152.out 2).trans rfl
           have hcz30_3 : wc.cell? ⟨gb152, 3, none⟩ = some (.int .i64 a0_3) := (blk_cell BK152.out 3).trans rfl
           have hcz30_4 : wc.cell? ⟨gb152, 4, none⟩ = some (.int .i64 a0_4) := (blk_cell BK152.out 4).trans rfl
           have hcz30_5 : wc.cell? ⟨gb152, 5, none⟩ = some (.int .i64 a0_5) := (blk_cell BK152.out 5).trans rfl
           have hcz30_6 : wc.cell? ⟨gb152, 6, none⟩ = some (.int .i64 a0_6) := (blk_cell BK152.out 6).trans rfl
           have hcz30_7 : wc.cell? ⟨gb152, 7, none⟩ = some (.int .i64 a0_7) := (blk_cell BK152.out 7).trans rfl
           have hcz30_8 : wc.cell? ⟨gb152, 8, none⟩ = some (.int .i64 a0_8) := (blk_cell BK152.out 8).trans rfl
           have hcz30_9 : wc.cell? ⟨gb152, 9, none⟩ = some (.int .i64 a0_9) := (blk_cell BK152.out 9).trans rfl
           have hcz30_10 : wc.cell? ⟨gb152, 10, none⟩ = some (.int .i64 a0_10) := (blk_cell BK152.out 10).trans rfl
           have hfz30_0 := blk_frozen BK152.out 0
           have hfz30_1 := blk_frozen BK152.out 1
           have hfz30_2 := blk_frozen BK152.out 2
           have hfz30_3 := blk_frozen BK152.out 3
           have hfz30_4 := blk_frozen BK152.out 4
           have hfz30_5 := blk_frozen BK152.out 5
           have hfz30_6 := blk_frozen BK152.out 6
           have hfz30_7 := blk_frozen BK152.out 7
           have hfz30_8 := blk_frozen BK152.out 8
           have hfz30_9 := blk_frozen BK152.out 9
           have hfz30_10 := blk_frozen BK152.out 10
           go_wp2
           go_ret
           exact ⟨by first | rfl | (simp [errW_none, errW_some] <;> rfl) | (simp [*, errW_none, errW_some] <;> rfl), by repeat (first | (with_reducible first | exact HB.out | apply below_alloc | apply pw_below_drewN | apply below_drew1 | refine below_set ?_ GE152.out) | exact HB.out)⟩
         ·replace c27 := Bool.eq_false_iff.mpr c27
          subst c27
          rw [if_neg (show ¬ (false = true) by decide)] at H
          obtain rfl := Option.some.inj H
          have hcz31_0 : wc.cell? ⟨gb152, 0, none⟩ = some (.int .i64 a0_0) := (blk_cell BK152.out 0).trans rfl
          have hcz31_1 : wc.cell? ⟨gb152, 1, none⟩ = some (.int .i64 a0_1) := (blk_cell BK152.out 1).trans rfl
          have hcz31_2 : wc.cell? ⟨gb152, 2, none⟩ = some (.int .i64 a0_2) := (blk_cell BK152.out 2).trans rfl
          have hcz31_3 : wc.cell? ⟨gb152, 3, none⟩ = some (.int .i64 a0_3) := (blk_cell BK152.out 3).trans rfl
          have hcz31_4 : wc.cell? ⟨gb152, 4, none⟩ = some (.int .i64 a0_4) := (blk_cell BK152.out 4).trans rfl
          have hcz31_5 : wc.cell? ⟨gb152, 5, none⟩ = some (.int .i64 a0_5) := (blk_cell BK152.out 5).trans rfl
          have hcz31_6 : wc.cell? ⟨gb152, 6, none⟩ = some (.int .i64 a0_6) := (blk_cell BK152.out 6).trans rfl
          have hcz31_7 : wc.cell? ⟨gb152, 7, none⟩ = some (.int .i64 a0_7) := (blk_cell BK152.out 7).trans rfl
          have hcz31_8 : wc.cell? ⟨gb152, 8, none⟩ = some (.int .i64 a0_8) := (blk_cell BK152.out 8).trans rfl
          have hcz31_9 : wc.cell? ⟨gb152, 9, none⟩ = some (.int .i64 a0_9) := (blk_cell BK152.out 9).trans rfl
          have hcz31_10 : wc.cell? ⟨gb152, 10, none⟩ = some (.int .i64 a0_10) := (blk_cell BK152.out 10).trans rfl
          have hfz31_0 := blk_frozen BK152.out 0
          have hfz31_1 := blk_frozen BK152.out 1
          have hfz31_2 := blk_frozen BK152.out 2
          have hfz31_3 := blk_frozen BK152.out 3
          have hfz31_4 := blk_frozen BK152.out 4
          have hfz31_5 := blk_frozen BK152.out 5
          have hfz31_6 := blk_frozen BK152.out 6
          have hfz31_7 := blk_frozen BK152.out 7
          have hfz31_8 := blk_frozen BK152.out 8
          have hfz31_9 := blk_frozen BK152.out 9
          have hfz31_10 := blk_frozen BK152.out 10
          go_wp2
          go_ret
          exact ⟨by first | rfl | (simp [errW_none, errW_some] <;> rfl) | (simp [*, errW_none, errW_some] <;> rfl), by repeat (first | (with_reducible first | exact HB.out | apply below_alloc | apply pw_below_drewN | apply below_drew1 | refine below_set ?_ GE152.out) | exact HB.out)⟩
        ·rw [if_neg c26] at H
         have c26b0 : (a0_5 == 2) = false := beq_eq_false_iff_ne.mpr c26
         have c26b1 : (a0_5 != 2) = true := bne_iff_ne.mpr c26
         have HC32 := Aside0.mk H
         clear H
         have hcz33_0 : wc.cell? ⟨gb152, 0, none⟩ = some (.int .i64 a0_0) := (blk_cell BK152.out 0).trans rfl
         have hcz33_1 : wc.cell? ⟨gb152, 1, none⟩ = some (.int .i64 a0_1) := (blk_cell BK152.out 1).trans rfl
         have hcz33_2 : wc.cell? ⟨gb152, 2, none⟩ = some (.int .i64 a0_2) := (blk_cell BK152.out 2).trans rfl
         have hcz33_3 : wc.cell? ⟨gb152, 3, none⟩ = some (.int .i64 a0_3) := (blk_cell BK152.out 3).trans rfl
         have hcz33_4 : wc.cell? ⟨gb152, 4, none⟩ = some (.int .i64 a0_4) := (blk_cell BK152.out 4).trans rfl
         have hcz33_5 : wc.cell? ⟨gb152, 5, none⟩ = some (.int .i64 a0_5) := (blk_cell BK152.out 5).trans rfl
         have hcz33_6 : wc.cell? ⟨gb152, 6, none⟩ = some (.int .i64 a0_6) := (blk_cell BK152.out 6).trans rfl
         have hcz33_7 : wc.cell? ⟨gb152, 7, none⟩ = some (.int .i64 a0_7) := (blk_cell BK152.out 7).trans rfl
         have hcz33_8 : wc.cell? ⟨gb152, 8, none⟩ = some (.int .i64 a0_8) := (blk_cell BK152.out 8).trans rfl
         have hcz33_9 : wc.cell? ⟨gb152, 9, none⟩ = some (.int .i64 a0_9) := (blk_cell BK152.out 9).trans rfl
         have hcz33_10 : wc.cell? ⟨gb152, 10, none⟩ = some (.int .i64 a0_10) := (blk_cell BK152.out 10).trans rfl
         have hfz33_0 := blk_frozen BK152.out 0
         have hfz33_1 := blk_frozen BK152.out 1
         have hfz33_2 := blk_frozen BK152.out 2
         have hfz33_3 := blk_frozen BK152.out 3
         have hfz33_4 := blk_frozen BK152.out 4
         have hfz33_5 := blk_frozen BK152.out 5
         have hfz33_6 := blk_frozen BK152.out 6
         have hfz33_7 := blk_frozen BK152.out 7
         have hfz33_8 := blk_frozen BK152.out 8
         have hfz33_9 := blk_frozen BK152.out 9
         have hfz33_10 := blk_frozen BK152.out 10
         go_upto_if 60 with (fail)
         go_cut [60] (fun v60 wc => ∃ (kq : Nat) (x60_31 : Bool), v60 = .bool x60_31 ∧ Aside0 (storagebarterref15_parts.j3 kq t153 x4_2 x6_15 a0_5 x60_31 a0_0 a0_1 a0_2 a0_3 a0_4 a0_5 a0_6 a0_7 a0_8 a0_9 a0_10 = some r) ∧ Aside0 (kq ≤ kj15) ∧ Aside0 (wc.heap[gb152]? = some (.cells #[.int .i64 a0_0, .int .i64 a0_1, .int .i64 a0_2, .int .i64 a0_3, .int .i64 a0_4, .int .i64 a0_5, .int .i64 a0_6, .int .i64 a0_7, .int .i64 a0_8, .int .i64 a0_9, .int .i64 a0_10] 39 (0, 0))) ∧ Aside0 (Below w.heap.size w wc))
         case first =>
          have H := HC32.out
          clear HC32
          by_cases c34 : a0_5 = 3
          ·rw [if_pos c34] at H
           have c34b0 : (a0_5 == 3) = true := beq_iff_eq.mpr c34
           have c34b1 : (a0_5 != 3) = false := bne_eq_false_iff_eq.mpr c34
           clear c34
           (first | rw [c34b0] | (simp only [i64_w, i32_w]; rw [c34b0]) | skip)
           have H' := Aside0.mk H
           clear H
           go_wp2
           go_meet
           case rel => exact ⟨_, ((a0_5 == 3)), (by first | rfl | (simp; done) | (simp [*]; done)), H', ⟨by have := HJ2.out; have := HJ10.out; have := HJ15.out; first | omega | exact Nat.le_refl _⟩, ⟨by (with_reducible repeat (first | refine blk_drewN ?_ _ | refine blk_drew ?_ | refine blk_alloc ?_ _)); exact BK152.out⟩, ⟨by repeat (first | (with_reducible first | exact HB.out | apply below_alloc | apply pw_below_drewN | apply below_drew1 | refine below_set ?_ GE152.out) | exact HB.out)⟩⟩
          ·rw [if_neg c34] at H
           have c34b0 : (a0_5 == 3) = false := beq_eq_false_iff_ne.mpr c34
           have c34b1 : (a0_5 != 3) = true := bne_iff_ne.mpr c34
           (first | rw [c34b0] | (simp only [i64_w, i32_w]; rw [c34b0]) | skip)
           have H' := Aside0.mk H
           clear H
           go_wp2
           go_meet
           case rel => exact ⟨_, ((a0_5 == 5)), (by first | rfl | (simp; done) | (simp [*]; done)), H', ⟨by have := HJ2.out; have := HJ10.out; have := HJ15.out; first | omega | exact Nat.le_refl _⟩, ⟨by (with_reducible repeat (first | refine blk_drewN ?_ _ | refine blk_drew ?_ | refine blk_alloc ?_ _)); exact BK152.out⟩, ⟨by repeat (first | (with_reducible first | exact HB.out | apply below_alloc | apply pw_below_drewN | apply below_drew1 | refine below_set ?_ GE152.out) | exact HB.out)⟩⟩
         case rest =>
          clear HC32
          try clear c1
          try clear c2
          try clear p2
          try clear c3
          try clear c4
          try clear p6
          try clear c7
          try clear c13
          try clear c17
          try clear c17b0
          try clear c17b1
          try clear c20
          try clear c20b0
          try clear c20b1
          try clear c21
          try clear c22
          try clear c26
          try clear c26b0
          try clear c26b1
          try clear c27
          try clear c28
          try clear c34
          try clear c34b0
          try clear c34b1
          try clear hcz10_0
          try clear hcz10_1
          try clear hcz10_10
          try clear hcz10_2
          try clear hcz10_3
          try clear hcz10_4
          try clear hcz10_5
          try clear hcz10_6
          try clear hcz10_7
          try clear hcz10_8
          try clear hcz10_9
          try clear hcz14_0
          try clear hcz14_1
          try clear hcz14_10
          try clear hcz14_2
          try clear hcz14_3
          try clear hcz14_4
          try clear hcz14_5
          try clear hcz14_6
          try clear hcz14_7
          try clear hcz14_8
          try clear hcz14_9
          try clear hcz15_0
          try clear hcz15_1
          try clear hcz15_10
          try clear hcz15_2
          try clear hcz15_3
          try clear hcz15_4
          try clear hcz15_5
          try clear hcz15_6
          try clear hcz15_7
          try clear hcz15_8
          try clear hcz15_9
          try clear hcz18_0
          try clear hcz18_1
          try clear hcz18_10
          try clear hcz18_2
          try clear hcz18_3
          try clear hcz18_4
          try clear hcz18_5
          try clear hcz18_6
          try clear hcz18_7
          try clear hcz18_8
          try clear hcz18_9
          try clear hcz19_0
          try clear hcz19_1
          try clear hcz19_10
          try clear hcz19_2
          try clear hcz19_3
          try clear hcz19_4
          try clear hcz19_5
          try clear hcz19_6
          try clear hcz19_7
          try clear hcz19_8
          try clear hcz19_9
          try clear hcz23_0
          try clear hcz23_1
          try clear hcz23_10
          try clear hcz23_2
          try clear hcz23_3
          try clear hcz23_4
          try clear hcz23_5
          try clear hcz23_6
          try clear hcz23_7
          try clear hcz23_8
          try clear hcz23_9
          try clear hcz24_0
          try clear hcz24_1
          try clear hcz24_10
          try clear hcz24_2
          try clear hcz24_3
          try clear hcz24_4
          try clear hcz24_5
          try clear hcz24_6
          try clear hcz24_7
          try clear hcz24_8
          try clear hcz24_9
          try clear hcz25_0
          try clear hcz25_1
          try clear hcz25_10
          try clear hcz25_2
          try clear hcz25_3
          try clear hcz25_4
          try clear hcz25_5
          try clear hcz25_6
          try clear hcz25_7
          try clear hcz25_8
          try clear hcz25_9
          try clear hcz29_0
          try clear hcz29_1
          try clear hcz29_10
          try clear hcz29_2
          try clear hcz29_3
          try clear hcz29_4
          try clear hcz29_5
          try clear hcz29_6
          try clear hcz29_7
          try clear hcz29_8
          try clear hcz29_9
          try clear hcz30_0
          try clear hcz30_1
          try clear hcz30_10
          try clear hcz30_2
          try clear hcz30_3
          try clear hcz30_4
          try clear hcz30_5
          try clear hcz30_6
          try clear hcz30_7
          try clear hcz30_8
          try clear hcz30_9
          try clear hcz31_0
          try clear hcz31_1
          try clear hcz31_10
          try clear hcz31_2
          try clear hcz31_3
          try clear hcz31_4
          try clear hcz31_5
          try clear hcz31_6
          try clear hcz31_7
          try clear hcz31_8
          try clear hcz31_9
          try clear hcz33_0
          try clear hcz33_1
          try clear hcz33_10
          try clear hcz33_2
          try clear hcz33_3
          try clear hcz33_4
          try clear hcz33_5
          try clear hcz33_6
          try clear hcz33_7
          try clear hcz33_8
          try clear hcz33_9
          try clear hcz5_0
          try clear hcz5_1
          try clear hcz5_10
          try clear hcz5_2
          try clear hcz5_3
          try clear hcz5_4
          try clear hcz5_5
          try clear hcz5_6
          try clear hcz5_7
          try clear hcz5_8
          try clear hcz5_9
          try clear hcz9_0
          try clear hcz9_1
          try clear hcz9_10
          try clear hcz9_2
          try clear hcz9_3
          try clear hcz9_4
          try clear hcz9_5
          try clear hcz9_6
          try clear hcz9_7
          try clear hcz9_8
          try clear hcz9_9
          try clear hfz10_0
          try clear hfz10_1
          try clear hfz10_10
          try clear hfz10_2
          try clear hfz10_3
          try clear hfz10_4
          try clear hfz10_5
          try clear hfz10_6
          try clear hfz10_7
          try clear hfz10_8
          try clear hfz10_9
          try clear hfz14_0
          try clear hfz14_1
          try clear hfz14_10
          try clear hfz14_2
          try clear hfz14_3
          try clear hfz14_4
          try clear hfz14_5
          try clear hfz14_6
          try clear hfz14_7
          try clear hfz14_8
          try clear hfz14_9
          try clear hfz15_0
          try clear hfz15_1
          try clear hfz15_10
          try clear hfz15_2
          try clear hfz15_3
          try clear hfz15_4
          try clear hfz15_5
          try clear hfz15_6
          try clear hfz15_7
          try clear hfz15_8
          try clear hfz15_9
          try clear hfz18_0
          try clear hfz18_1
          try clear hfz18_10
          try clear hfz18_2
          try clear hfz18_3
          try clear hfz18_4
          try clear hfz18_5
          try clear hfz18_6
          try clear hfz18_7
          try clear hfz18_8
          try clear hfz18_9
          try clear hfz19_0
          try clear hfz19_1
          try clear hfz19_10
          try clear hfz19_2
          try clear hfz19_3
          try clear hfz19_4
          try clear hfz19_5
          try clear hfz19_6
          try clear hfz19_7
          try clear hfz19_8
          try clear hfz19_9
          try clear hfz23_0
          try clear hfz23_1
          try clear hfz23_10
          try clear hfz23_2
          try clear hfz23_3
          try clear hfz23_4
          try clear hfz23_5
          try clear hfz23_6
          try clear hfz23_7
          try clear hfz23_8
          try clear hfz23_9
          try clear hfz24_0
          try clear hfz24_1
          try clear hfz24_10
          try clear hfz24_2
          try clear hfz24_3
          try clear hfz24_4
          try clear hfz24_5
          try clear hfz24_6
          try clear hfz24_7
          try clear hfz24_8
          try clear hfz24_9
          try clear hfz25_0
          try clear hfz25_1
          try clear hfz25_10
          try clear hfz25_2
          try clear hfz25_3
          try clear hfz25_4
          try clear hfz25_5
          try clear hfz25_6
          try clear hfz25_7
          try clear hfz25_8
          try clear hfz25_9
          try clear hfz29_0
          try clear hfz29_1
          try clear hfz29_10
          try clear hfz29_2
          try clear hfz29_3
          try clear hfz29_4
          try clear hfz29_5
          try clear hfz29_6
          try clear hfz29_7
          try clear hfz29_8
          try clear hfz29_9
          try clear hfz30_0
          try clear hfz30_1
          try clear hfz30_10
          try clear hfz30_2
          try clear hfz30_3
          try clear hfz30_4
          try clear hfz30_5
          try clear hfz30_6
          try clear hfz30_7
          try clear hfz30_8
          try clear hfz30_9
          try clear hfz31_0
          try clear hfz31_1
          try clear hfz31_10
          try clear hfz31_2
          try clear hfz31_3
          try clear hfz31_4
          try clear hfz31_5
          try clear hfz31_6
          try clear hfz31_7
          try clear hfz31_8
          try clear hfz31_9
          try clear hfz33_0
          try clear hfz33_1
          try clear hfz33_10
          try clear hfz33_2
          try clear hfz33_3
          try clear hfz33_4
          try clear hfz33_5
          try clear hfz33_6
          try clear hfz33_7
          try clear hfz33_8
          try clear hfz33_9
          try clear hfz5_0
          try clear hfz5_1
          try clear hfz5_10
          try clear hfz5_2
          try clear hfz5_3
          try clear hfz5_4
          try clear hfz5_5
          try clear hfz5_6
          try clear hfz5_7
          try clear hfz5_8
          try clear hfz5_9
          try clear hfz9_0
          try clear hfz9_1
          try clear hfz9_10
          try clear hfz9_2
          try clear hfz9_3
          try clear hfz9_4
          try clear hfz9_5
          try clear hfz9_6
          try clear hfz9_7
          try clear hfz9_8
          try clear hfz9_9
          try clear p2
          try clear p6
          obtain ⟨kq, x60_31, rfl, HA, HJ31, BK152, HB⟩ := hcut
          cases kq with
          | zero => exact absurd HA.out (by simp [storagebarterref15_parts.j3])
          | succ kj31 =>
           have H := HA.out
           clear HA
           simp only [storagebarterref15_parts.j3] at H
           by_cases c35 : x60_31 = true
           ·subst c35
            rw [if_pos rfl] at H
            by_cases c36 : t153 = true
            ·subst c36
             rw [if_pos rfl] at H
             by_cases c37 : x6_15 = true
             ·subst c37
              rw [if_pos rfl] at H
              obtain rfl := Option.some.inj H
              have hcz38_0 : wc.cell? ⟨gb152, 0, none⟩ = some (.int .i64 a0_0) := (blk_cell BK152.out 0).trans rfl
              have hcz38_1 : wc.cell? ⟨gb152, 1, none⟩ = some (.int .i64 a0_1) := (blk_cell BK152.out 1).trans rfl
              have hcz38_2 : wc.cell? ⟨gb152, 2, none⟩ = some (.int .i64 a0_2) := (blk_cell BK152.out 2).trans rfl
              have hcz38_3 : wc.cell? ⟨gb152, 3, none⟩ = some (.int .i64 a0_3) := (blk_cell BK152.out 3).trans rfl
              have hcz38_4 : wc.cell? ⟨gb152, 4, none⟩ = some (.int .i64 a0_4) := (blk_cell BK152.out 4).trans rfl
              have hcz38_5 : wc.cell? ⟨gb152, 5, none⟩ = some (.int .i64 a0_5) := (blk_cell BK152.out 5).trans rfl
              have hcz38_6 : wc.cell? ⟨gb152, 6, none⟩ = some (.int .i64 a0_6) := (blk_cell BK152.out 6).trans rfl
              have hcz38_7 : wc.cell? ⟨gb152, 7, none⟩ = some (.int .i64 a0_7) := (blk_cell BK152.out 7).trans rfl
              have hcz38_8 : wc.cell? ⟨gb152, 8, none⟩ = some (.int .i64 a0_8) := (blk_cell BK152.out 8).trans rfl
              have hcz38_9 : wc.cell? ⟨gb152, 9, none⟩ = some (.int .i64 a0_9) := (blk_cell BK152.out 9).trans rfl
              have hcz38_10 : wc.cell? ⟨gb152, 10, none⟩ = some (.int .i64 a0_10) := (blk_cell BK152.out 10).trans rfl
              have hfz38_0 := blk_frozen BK152.out 0
              have hfz38_1 := blk_frozen BK152.out 1
              have hfz38_2 := blk_frozen BK152.out 2
              have hfz38_3 := blk_frozen BK152.out 3
              have hfz38_4 := blk_frozen BK152.out 4
              have hfz38_5 := blk_frozen BK152.out 5
              have hfz38_6 := blk_frozen BK152.out 6
              have hfz38_7 := blk_frozen BK152.out 7
              have hfz38_8 := blk_frozen BK152.out 8
              have hfz38_9 := blk_frozen BK152.out 9
              have hfz38_10 := blk_frozen BK152.out 10
              go_wp2
              go_ret
              exact ⟨by first | rfl | (simp [errW_none, errW_some] <;> rfl) | (simp [*, errW_none, errW_some] <;> rfl), by repeat (first | (with_reducible first | exact HB.out | apply below_alloc | apply pw_below_drewN | apply below_drew1 | refine below_set ?_ GE152.out) | exact HB.out)⟩
             ·replace c37 := Bool.eq_false_iff.mpr c37
              subst c37
              rw [if_neg (show ¬ (false = true) by decide)] at H
              obtain rfl := Option.some.inj H
              go_wp2
              go_ret
              exact ⟨by first | rfl | (simp [errW_none, errW_some] <;> rfl) | (simp [*, errW_none, errW_some] <;> rfl), by repeat (first | (with_reducible first | exact HB.out | apply below_alloc | apply pw_below_drewN | apply below_drew1 | refine below_set ?_ GE152.out) | exact HB.out)⟩
            ·replace c36 := Bool.eq_false_iff.mpr c36
             subst c36
             rw [if_neg (show ¬ (false = true) by decide)] at H
             obtain rfl := Option.some.inj H
             go_wp2
             go_ret
             exact ⟨by first | rfl | (simp [errW_none, errW_some] <;> rfl) | (simp [*, errW_none, errW_some] <;> rfl), by repeat (first | (with_reducible first | exact HB.out | apply below_alloc | apply pw_below_drewN | apply below_drew1 | refine below_set ?_ GE152.out) | exact HB.out)⟩
           ·replace c35 := Bool.eq_false_iff.mpr c35
            subst c35
            rw [if_neg (show ¬ (false = true) by decide)] at H
            by_cases c39 : a0_5 = 4
            ·rw [if_pos c39] at H
             have c39b0 : (a0_5 == 4) = true := beq_iff_eq.mpr c39
             have c39b1 : (a0_5 != 4) = false := bne_eq_false_iff_eq.mpr c39
             clear c39
             by_cases c40 : t153 = true
             ·subst c40
              rw [if_pos rfl] at H
              by_cases c41 : x4_2 = true
              ·subst c41
               rw [if_pos rfl] at H
               obtain rfl := Option.some.inj H
               have hcz42_0 : wc.cell? ⟨gb152, 0, none⟩ = some (.int .i64 a0_0) := (blk_cell BK152.out 0).trans rfl
               have hcz42_1 : wc.cell? ⟨gb152, 1, none⟩ = some (.int .i64 a0_1) := (blk_cell BK152.out 1).trans rfl
               have hcz42_2 : wc.cell? ⟨gb152, 2, none⟩ = some (.int .i64 a0_2) := (blk_cell BK152.out 2).trans rfl
               have hcz42_3 : wc.cell? ⟨gb152, 3, none⟩ = some (.int .i64 a0_3) := (blk_cell BK152.out 3).trans rfl
               have hcz42_4 : wc.cell? ⟨gb152, 4, none⟩ = some (.int .i64 a0_4) := (blk_cell BK152.out 4).trans rfl
               have hcz42_5 : wc.cell? ⟨gb152, 5, none⟩ = some (.int .i64 a0_5) := (blk_cell BK152.out 5).trans rfl
               have hcz42_6 : wc.cell? ⟨gb152, 6, none⟩ = some (.int .i64 a0_6) := (blk_cell BK152.out 6).trans rfl
               have hcz42_7 : wc.cell? ⟨gb152, 7, none⟩ = some (.int .i64 a0_7) := (blk_cell BK152.out 7).trans rfl
               have hcz42_8 : wc.cell? ⟨gb152, 8, none⟩ = some (.int .i64 a0_8) := (blk_cell BK152.out 8).trans rfl
               have hcz42_9 : wc.cell? ⟨gb152, 9, none⟩ = some (.int .i64 a0_9) := (blk_cell BK152.out 9).trans rfl
               have hcz42_10 : wc.cell? ⟨gb152, 10, none⟩ = some (.int .i64 a0_10) := (blk_cell BK152.out 10).trans rfl
               have hfz42_0 := blk_frozen BK152.out 0
               have hfz42_1 := blk_frozen BK152.out 1
               have hfz42_2 := blk_frozen BK152.out 2
               have hfz42_3 := blk_frozen BK152.out 3
               have hfz42_4 := blk_frozen BK152.out 4
               have hfz42_5 := blk_frozen BK152.out 5
               have hfz42_6 := blk_frozen BK152.out 6
               have hfz42_7 := blk_frozen BK152.out 7
               have hfz42_8 := blk_frozen BK152.out 8
               have hfz42_9 := blk_frozen BK152.out 9
               have hfz42_10 := blk_frozen BK152.out 10
               go_wp2
               go_ret
               exact ⟨by first | rfl | (simp [errW_none, errW_some] <;> rfl) | (simp [*, errW_none, errW_some] <;> rfl), by repeat (first | (with_reducible first | exact HB.out | apply below_alloc | apply pw_below_drewN | apply below_drew1 | refine below_set ?_ GE152.out) | exact HB.out)⟩
              ·replace c41 := Bool.eq_false_iff.mpr c41
               subst c41
               rw [if_neg (show ¬ (false = true) by decide)] at H
               obtain rfl := Option.some.inj H
               go_wp2
               go_ret
               exact ⟨by first | rfl | (simp [errW_none, errW_some] <;> rfl) | (simp [*, errW_none, errW_some] <;> rfl), by repeat (first | (with_reducible first | exact HB.out | apply below_alloc | apply pw_below_drewN | apply below_drew1 | refine below_set ?_ GE152.out) | exact HB.out)⟩
             ·replace c40 := Bool.eq_false_iff.mpr c40
              subst c40
              rw [if_neg (show ¬ (false = true) by decide)] at H
              obtain rfl := Option.some.inj H
              go_wp2
              go_ret
              exact ⟨by first | rfl | (simp [errW_none, errW_some] <;> rfl) | (simp [*, errW_none, errW_some] <;> rfl), by repeat (first | (with_reducible first | exact HB.out | apply below_alloc | apply pw_below_drewN | apply below_drew1 | refine below_set ?_ GE152.out) | exact HB.out)⟩
            ·rw [if_neg c39] at H
             have c39b0 : (a0_5 == 4) = false := beq_eq_false_iff_ne.mpr c39
             have c39b1 : (a0_5 != 4) = true := bne_iff_ne.mpr c39
             by_cases c43 : a0_5 = 6
             ·rw [if_pos c43] at H
              have c43b0 : (a0_5 == 6) = true := beq_iff_eq.mpr c43
              have c43b1 : (a0_5 != 6) = false := bne_eq_false_iff_eq.mpr c43
              clear c43
              replace H := Option.bind_eq_some_iff.mp H
              obtain ⟨t157, A440, H⟩ := H
              try dsimp only at H
              have A44 := Aside0.mk A440
              clear A440
              by_cases c45 : t157 = true
              ·subst c45
               rw [if_pos rfl] at H
               replace H := Option.bind_eq_some_iff.mp H
               obtain ⟨t158, A460, H⟩ := H
               try dsimp only at H
               have A46 := Aside0.mk A460
               clear A460
               by_cases c47 : t158 = true
               ·subst c47
                rw [if_pos rfl] at H
                replace H := Option.bind_eq_some_iff.mp H
                obtain ⟨t159, A480, H⟩ := H
                try dsimp only at H
                have A48 := Aside0.mk A480
                clear A480
                by_cases c49 : t159 = true
                ·subst c49
                 rw [if_pos rfl] at H
                 obtain rfl := Option.some.inj H
                 have hcz50_0 : wc.cell? ⟨gb152, 0, none⟩ = some (.int .i64 a0_0) := (blk_cell BK152.out 0).trans rfl
                 have hcz50_1 : wc.cell? ⟨gb152, 1, none⟩ = some (.int .i64 a0_1) := (blk_cell BK152.out 1).trans rfl
                 have hcz50_2 : wc.cell? ⟨gb152, 2, none⟩ = some (.int .i64 a0_2) := (blk_cell BK152.out 2).trans rfl
                 have hcz50_3 : wc.cell? ⟨gb152, 3, none⟩ = some (.int .i64 a0_3) := (blk_cell BK152.out 3).trans rfl
                 have hcz50_4 : wc.cell? ⟨gb152, 4, none⟩ = some (.int .i64 a0_4) := (blk_cell BK152.out 4).trans rfl
                 have hcz50_5 : wc.cell? ⟨gb152, 5, none⟩ = some (.int .i64 a0_5) := (blk_cell BK152.out 5).trans rfl
                 have hcz50_6 : wc.cell? ⟨gb152, 6, none⟩ = some (.int .i64 a0_6) := (blk_cell BK152.out 6).trans rfl
                 have hcz50_7 : wc.cell? ⟨gb152, 7, none⟩ = some (.int .i64 a0_7) := (blk_cell BK152.out 7).trans rfl
                 have hcz50_8 : wc.cell? ⟨gb152, 8, none⟩ = some (.int .i64 a0_8) := (blk_cell BK152.out 8).trans rfl
                 have hcz50_9 : wc.cell? ⟨gb152, 9, none⟩ = some (.int .i64 a0_9) := (blk_cell BK152.out 9).trans rfl
                 have hcz50_10 : wc.cell? ⟨gb152, 10, none⟩ = some (.int .i64 a0_10) := (blk_cell BK152.out 10).trans rfl
                 have hfz50_0 := blk_frozen BK152.out 0
                 have hfz50_1 := blk_frozen BK152.out 1
                 have hfz50_2 := blk_frozen BK152.out 2
                 have hfz50_3 := blk_frozen BK152.out 3
                 have hfz50_4 := blk_frozen BK152.out 4
                 have hfz50_5 := blk_frozen BK152.out 5
                 have hfz50_6 := blk_frozen BK152.out 6
                 have hfz50_7 := blk_frozen BK152.out 7
                 have hfz50_8 := blk_frozen BK152.out 8
                 have hfz50_9 := blk_frozen BK152.out 9
                 have hfz50_10 := blk_frozen BK152.out 10
                 go_wp2_with (first | ((with_reducible refine gate_callee (f := 30) rfl ?_); refine goesL_ (some 87) rfl rfl Tryd.func30 (by kernel_rfl) rfl #[.int .i64 a0_6, .int .i64 0, .int .i64 2147483646] rfl (by (try simp only [List.map_toArray, List.map_cons, List.map_nil]); first | done | rfl | (simp only [List.length_drop, List.length_take]; rfl)) ?_; (with_reducible refine (storagebarterref15_in.calls a0_6 0 2147483646 true _ A44.out).mono ?_); rintro e w' ⟨rfl, ⟨nd, rfl⟩⟩; refine ⟨_, rfl, ?_⟩) | (go_at_call 30; (with_reducible refine (storagebarterref15_in.calls a0_7 0 2147483646 true _ A46.out).mono ?_); rintro e w' ⟨rfl, ⟨nd, rfl⟩⟩) | (go_at_call 30; (with_reducible refine (storagebarterref15_in.calls a0_8 0 256 true _ A48.out).mono ?_); rintro e w' ⟨rfl, ⟨nd, rfl⟩⟩))
                 go_ret
                 exact ⟨by first | rfl | (simp [errW_none, errW_some] <;> rfl) | (simp [*, errW_none, errW_some] <;> rfl), by repeat (first | (with_reducible first | exact HB.out | apply below_alloc | apply pw_below_drewN | apply below_drew1 | refine below_set ?_ GE152.out) | exact HB.out)⟩
                ·replace c49 := Bool.eq_false_iff.mpr c49
                 subst c49
                 rw [if_neg (show ¬ (false = true) by decide)] at H
                 obtain rfl := Option.some.inj H
                 have hcz51_0 : wc.cell? ⟨gb152, 0, none⟩ = some (.int .i64 a0_0) := (blk_cell BK152.out 0).trans rfl
                 have hcz51_1 : wc.cell? ⟨gb152, 1, none⟩ = some (.int .i64 a0_1) := (blk_cell BK152.out 1).trans rfl
                 have hcz51_2 : wc.cell? ⟨gb152, 2, none⟩ = some (.int .i64 a0_2) := (blk_cell BK152.out 2).trans rfl
                 have hcz51_3 : wc.cell? ⟨gb152, 3, none⟩ = some (.int .i64 a0_3) := (blk_cell BK152.out 3).trans rfl
                 have hcz51_4 : wc.cell? ⟨gb152, 4, none⟩ = some (.int .i64 a0_4) := (blk_cell BK152.out 4).trans rfl
                 have hcz51_5 : wc.cell? ⟨gb152, 5, none⟩ = some (.int .i64 a0_5) := (blk_cell BK152.out 5).trans rfl
                 have hcz51_6 : wc.cell? ⟨gb152, 6, none⟩ = some (.int .i64 a0_6) := (blk_cell BK152.out 6).trans rfl
                 have hcz51_7 : wc.cell? ⟨gb152, 7, none⟩ = some (.int .i64 a0_7) := (blk_cell BK152.out 7).trans rfl
                 have hcz51_8 : wc.cell? ⟨gb152, 8, none⟩ = some (.int .i64 a0_8) := (blk_cell BK152.out 8).trans rfl
                 have hcz51_9 : wc.cell? ⟨gb152, 9, none⟩ = some (.int .i64 a0_9) := (blk_cell BK152.out 9).trans rfl
                 have hcz51_10 : wc.cell? ⟨gb152, 10, none⟩ = some (.int .i64 a0_10) := (blk_cell BK152.out 10).trans rfl
                 have hfz51_0 := blk_frozen BK152.out 0
                 have hfz51_1 := blk_frozen BK152.out 1
                 have hfz51_2 := blk_frozen BK152.out 2
                 have hfz51_3 := blk_frozen BK152.out 3
                 have hfz51_4 := blk_frozen BK152.out 4
                 have hfz51_5 := blk_frozen BK152.out 5
                 have hfz51_6 := blk_frozen BK152.out 6
                 have hfz51_7 := blk_frozen BK152.out 7
                 have hfz51_8 := blk_frozen BK152.out 8
                 have hfz51_9 := blk_frozen BK152.out 9
                 have hfz51_10 := blk_frozen BK152.out 10
                 go_wp2_with (first | ((with_reducible refine gate_callee (f := 30) rfl ?_); refine goesL_ (some 87) rfl rfl Tryd.func30 (by kernel_rfl) rfl #[.int .i64 a0_6, .int .i64 0, .int .i64 2147483646] rfl (by (try simp only [List.map_toArray, List.map_cons, List.map_nil]); first | done | rfl | (simp only [List.length_drop, List.length_take]; rfl)) ?_; (with_reducible refine (storagebarterref15_in.calls a0_6 0 2147483646 true _ A44.out).mono ?_); rintro e w' ⟨rfl, ⟨nd, rfl⟩⟩; refine ⟨_, rfl, ?_⟩) | (go_at_call 30; (with_reducible refine (storagebarterref15_in.calls a0_7 0 2147483646 true _ A46.out).mono ?_); rintro e w' ⟨rfl, ⟨nd, rfl⟩⟩) | (go_at_call 30; (with_reducible refine (storagebarterref15_in.calls a0_8 0 256 false _ A48.out).mono ?_); rintro e w' ⟨rfl, ⟨nd, rfl⟩⟩))
                 go_ret
                 exact ⟨by first | rfl | (simp [errW_none, errW_some] <;> rfl) | (simp [*, errW_none, errW_some] <;> rfl), by repeat (first | (with_reducible first | exact HB.out | apply below_alloc | apply pw_below_drewN | apply below_drew1 | refine below_set ?_ GE152.out) | exact HB.out)⟩
               ·replace c47 := Bool.eq_false_iff.mpr c47
                subst c47
                rw [if_neg (show ¬ (false = true) by decide)] at H
                obtain rfl := Option.some.inj H
                have hcz52_0 : wc.cell? ⟨gb152, 0, none⟩ = some (.int .i64 a0_0) := (blk_cell BK152.out 0).trans rfl
                have hcz52_1 : wc.cell? ⟨gb152, 1, none⟩ = some (.int .i64 a0_1) := (blk_cell BK152.out 1).trans rfl
                have hcz52_2 : wc.cell? ⟨gb152, 2, none⟩ = some (.int .i64 a0_2) := (blk_cell BK152.out 2).trans rfl
                have hcz52_3 : wc.cell? ⟨gb152, 3, none⟩ = some (.int .i64 a0_3) := (blk_cell BK152.out 3).trans rfl
                have hcz52_4 : wc.cell? ⟨gb152, 4, none⟩ = some (.int .i64 a0_4) := (blk_cell BK152.out 4).trans rfl
                have hcz52_5 : wc.cell? ⟨gb152, 5, none⟩ = some (.int .i64 a0_5) := (blk_cell BK152.out 5).trans rfl
                have hcz52_6 : wc.cell? ⟨gb152, 6, none⟩ = some (.int .i64 a0_6) := (blk_cell BK152.out 6).trans rfl
                have hcz52_7 : wc.cell? ⟨gb152, 7, none⟩ = some (.int .i64 a0_7) := (blk_cell BK152.out 7).trans rfl
                have hcz52_8 : wc.cell? ⟨gb152, 8, none⟩ = some (.int .i64 a0_8) := (blk_cell BK152.out 8).trans rfl
                have hcz52_9 : wc.cell? ⟨gb152, 9, none⟩ = some (.int .i64 a0_9) := (blk_cell BK152.out 9).trans rfl
                have hcz52_10 : wc.cell? ⟨gb152, 10, none⟩ = some (.int .i64 a0_10) := (blk_cell BK152.out 10).trans rfl
                have hfz52_0 := blk_frozen BK152.out 0
                have hfz52_1 := blk_frozen BK152.out 1
                have hfz52_2 := blk_frozen BK152.out 2
                have hfz52_3 := blk_frozen BK152.out 3
                have hfz52_4 := blk_frozen BK152.out 4
                have hfz52_5 := blk_frozen BK152.out 5
                have hfz52_6 := blk_frozen BK152.out 6
                have hfz52_7 := blk_frozen BK152.out 7
                have hfz52_8 := blk_frozen BK152.out 8
                have hfz52_9 := blk_frozen BK152.out 9
                have hfz52_10 := blk_frozen BK152.out 10
                go_wp2_with (first | ((with_reducible refine gate_callee (f := 30) rfl ?_); refine goesL_ (some 87) rfl rfl Tryd.func30 (by kernel_rfl) rfl #[.int .i64 a0_6, .int .i64 0, .int .i64 2147483646] rfl (by (try simp only [List.map_toArray, List.map_cons, List.map_nil]); first | done | rfl | (simp only [List.length_drop, List.length_take]; rfl)) ?_; (with_reducible refine (storagebarterref15_in.calls a0_6 0 2147483646 true _ A44.out).mono ?_); rintro e w' ⟨rfl, ⟨nd, rfl⟩⟩; refine ⟨_, rfl, ?_⟩) | (go_at_call 30; (with_reducible refine (storagebarterref15_in.calls a0_7 0 2147483646 false _ A46.out).mono ?_); rintro e w' ⟨rfl, ⟨nd, rfl⟩⟩))
                go_ret
                exact ⟨by first | rfl | (simp [errW_none, errW_some] <;> rfl) | (simp [*, errW_none, errW_some] <;> rfl), by repeat (first | (with_reducible first | exact HB.out | apply below_alloc | apply pw_below_drewN | apply below_drew1 | refine below_set ?_ GE152.out) | exact HB.out)⟩
              ·replace c45 := Bool.eq_false_iff.mpr c45
               subst c45
               rw [if_neg (show ¬ (false = true) by decide)] at H
               obtain rfl := Option.some.inj H
               have hcz53_0 : wc.cell? ⟨gb152, 0, none⟩ = some (.int .i64 a0_0) := (blk_cell BK152.out 0).trans rfl
               have hcz53_1 : wc.cell? ⟨gb152, 1, none⟩ = some (.int .i64 a0_1) := (blk_cell BK152.out 1).trans rfl
               have hcz53_2 : wc.cell? ⟨gb152, 2, none⟩ = some (.int .i64 a0_2) := (blk_cell BK152.out 2).trans rfl
               have hcz53_3 : wc.cell? ⟨gb152, 3, none⟩ = some (.int .i64 a0_3) := (blk_cell BK152.out 3).trans rfl
               have hcz53_4 : wc.cell? ⟨gb152, 4, none⟩ = some (.int .i64 a0_4) := (blk_cell BK152.out 4).trans rfl
               have hcz53_5 : wc.cell? ⟨gb152, 5, none⟩ = some (.int .i64 a0_5) := (blk_cell BK152.out 5).trans rfl
               have hcz53_6 : wc.cell? ⟨gb152, 6, none⟩ = some (.int .i64 a0_6) := (blk_cell BK152.out 6).trans rfl
               have hcz53_7 : wc.cell? ⟨gb152, 7, none⟩ = some (.int .i64 a0_7) := (blk_cell BK152.out 7).trans rfl
               have hcz53_8 : wc.cell? ⟨gb152, 8, none⟩ = some (.int .i64 a0_8) := (blk_cell BK152.out 8).trans rfl
               have hcz53_9 : wc.cell? ⟨gb152, 9, none⟩ = some (.int .i64 a0_9) := (blk_cell BK152.out 9).trans rfl
               have hcz53_10 : wc.cell? ⟨gb152, 10, none⟩ = some (.int .i64 a0_10) := (blk_cell BK152.out 10).trans rfl
               have hfz53_0 := blk_frozen BK152.out 0
               have hfz53_1 := blk_frozen BK152.out 1
               have hfz53_2 := blk_frozen BK152.out 2
               have hfz53_3 := blk_frozen BK152.out 3
               have hfz53_4 := blk_frozen BK152.out 4
               have hfz53_5 := blk_frozen BK152.out 5
               have hfz53_6 := blk_frozen BK152.out 6
               have hfz53_7 := blk_frozen BK152.out 7
               have hfz53_8 := blk_frozen BK152.out 8
               have hfz53_9 := blk_frozen BK152.out 9
               have hfz53_10 := blk_frozen BK152.out 10
               go_wp2_with (first | ((with_reducible refine gate_callee (f := 30) rfl ?_); refine goesL_ (some 87) rfl rfl Tryd.func30 (by kernel_rfl) rfl #[.int .i64 a0_6, .int .i64 0, .int .i64 2147483646] rfl (by (try simp only [List.map_toArray, List.map_cons, List.map_nil]); first | done | rfl | (simp only [List.length_drop, List.length_take]; rfl)) ?_; (with_reducible refine (storagebarterref15_in.calls a0_6 0 2147483646 false _ A44.out).mono ?_); rintro e w' ⟨rfl, ⟨nd, rfl⟩⟩; refine ⟨_, rfl, ?_⟩))
               go_ret
               exact ⟨by first | rfl | (simp [errW_none, errW_some] <;> rfl) | (simp [*, errW_none, errW_some] <;> rfl), by repeat (first | (with_reducible first | exact HB.out | apply below_alloc | apply pw_below_drewN | apply below_drew1 | refine below_set ?_ GE152.out) | exact HB.out)⟩
             ·rw [if_neg c43] at H
              have c43b0 : (a0_5 == 6) = false := beq_eq_false_iff_ne.mpr c43
              have c43b1 : (a0_5 != 6) = true := bne_iff_ne.mpr c43
              by_cases c54 : a0_5 = 7
              ·rw [if_pos c54] at H
               have c54b0 : (a0_5 == 7) = true := beq_iff_eq.mpr c54
               have c54b1 : (a0_5 != 7) = false := bne_eq_false_iff_eq.mpr c54
               clear c54
               replace H := Option.bind_eq_some_iff.mp H
               obtain ⟨t160, A550, H⟩ := H
               try dsimp only at H
               have A55 := Aside0.mk A550
               clear A550
               by_cases c56 : t160 = true
               ·subst c56
                rw [if_pos rfl] at H
                by_cases c57 : x4_2 = true
                ·subst c57
                 rw [if_pos rfl] at H
                 replace H := Option.bind_eq_some_iff.mp H
                 obtain ⟨t161, A580, H⟩ := H
                 try dsimp only at H
                 have A58 := Aside0.mk A580
                 clear A580
                 obtain rfl := Option.some.inj H
                 have hcz59_0 : wc.cell? ⟨gb152, 0, none⟩ = some (.int .i64 a0_0) := (blk_cell BK152.out 0).trans rfl
                 have hcz59_1 : wc.cell? ⟨gb152, 1, none⟩ = some (.int .i64 a0_1) := (blk_cell BK152.out 1).trans rfl
                 have hcz59_2 : wc.cell? ⟨gb152, 2, none⟩ = some (.int .i64 a0_2) := (blk_cell BK152.out 2).trans rfl
                 have hcz59_3 : wc.cell? ⟨gb152, 3, none⟩ = some (.int .i64 a0_3) := (blk_cell BK152.out 3).trans rfl
                 have hcz59_4 : wc.cell? ⟨gb152, 4, none⟩ = some (.int .i64 a0_4) := (blk_cell BK152.out 4).trans rfl
                 have hcz59_5 : wc.cell? ⟨gb152, 5, none⟩ = some (.int .i64 a0_5) := (blk_cell BK152.out 5).trans rfl
                 have hcz59_6 : wc.cell? ⟨gb152, 6, none⟩ = some (.int .i64 a0_6) := (blk_cell BK152.out 6).trans rfl
                 have hcz59_7 : wc.cell? ⟨gb152, 7, none⟩ = some (.int .i64 a0_7) := (blk_cell BK152.out 7).trans rfl
                 have hcz59_8 : wc.cell? ⟨gb152, 8, none⟩ = some (.int .i64 a0_8) := (blk_cell BK152.out 8).trans rfl
                 have hcz59_9 : wc.cell? ⟨gb152, 9, none⟩ = some (.int .i64 a0_9) := (blk_cell BK152.out 9).trans rfl
                 have hcz59_10 : wc.cell? ⟨gb152, 10, none⟩ = some (.int .i64 a0_10) := (blk_cell BK152.out 10).trans rfl
                 have hfz59_0 := blk_frozen BK152.out 0
                 have hfz59_1 := blk_frozen BK152.out 1
                 have hfz59_2 := blk_frozen BK152.out 2
                 have hfz59_3 := blk_frozen BK152.out 3
                 have hfz59_4 := blk_frozen BK152.out 4
                 have hfz59_5 := blk_frozen BK152.out 5
                 have hfz59_6 := blk_frozen BK152.out 6
                 have hfz59_7 := blk_frozen BK152.out 7
                 have hfz59_8 := blk_frozen BK152.out 8
                 have hfz59_9 := blk_frozen BK152.out 9
                 have hfz59_10 := blk_frozen BK152.out 10
                 go_wp2_with (first | ((with_reducible refine gate_callee (f := 30) rfl ?_); refine goesL_ (some 107) rfl rfl Tryd.func30 (by kernel_rfl) rfl #[.int .i64 a0_6, .int .i64 0, .int .i64 2147483646] rfl (by (try simp only [List.map_toArray, List.map_cons, List.map_nil]); first | done | rfl | (simp only [List.length_drop, List.length_take]; rfl)) ?_; (with_reducible refine (storagebarterref15_in.calls a0_6 0 2147483646 true _ A55.out).mono ?_); rintro e w' ⟨rfl, ⟨nd, rfl⟩⟩; refine ⟨_, rfl, ?_⟩) | (go_at_call 54; (with_reducible refine (storagebarterref15_lock.calls a0_9 t161 _ A58.out).mono ?_); rintro e w' ⟨rfl, ⟨nd, rfl⟩⟩))
                 go_ret
                 exact ⟨by first | rfl | (simp [errW_none, errW_some] <;> rfl) | (simp [*, errW_none, errW_some] <;> rfl), by repeat (first | (with_reducible first | exact HB.out | apply below_alloc | apply pw_below_drewN | apply below_drew1 | refine below_set ?_ GE152.out) | exact HB.out)⟩
                ·replace c57 := Bool.eq_false_iff.mpr c57
                 subst c57
                 rw [if_neg (show ¬ (false = true) by decide)] at H
                 obtain rfl := Option.some.inj H
                 have hcz60_0 : wc.cell? ⟨gb152, 0, none⟩ = some (.int .i64 a0_0) := (blk_cell BK152.out 0).trans rfl
                 have hcz60_1 : wc.cell? ⟨gb152, 1, none⟩ = some (.int .i64 a0_1) := (blk_cell BK152.out 1).trans rfl
                 have hcz60_2 : wc.cell? ⟨gb152, 2, none⟩ = some (.int .i64 a0_2) := (blk_cell BK152.out 2).trans rfl
                 have hcz60_3 : wc.cell? ⟨gb152, 3, none⟩ = some (.int .i64 a0_3) := (blk_cell BK152.out 3).trans rfl
                 have hcz60_4 : wc.cell? ⟨gb152, 4, none⟩ = some (.int .i64 a0_4) := (blk_cell BK152.out 4).trans rfl
                 have hcz60_5 : wc.cell? ⟨gb152, 5, none⟩ = some (.int .i64 a0_5) := (blk_cell BK152.out 5).trans rfl
                 have hcz60_6 : wc.cell? ⟨gb152, 6, none⟩ = some (.int .i64 a0_6) := (blk_cell BK152.out 6).trans rfl
                 have hcz60_7 : wc.cell? ⟨gb152, 7, none⟩ = some (.int .i64 a0_7) := (blk_cell BK152.out 7).trans rfl
                 have hcz60_8 : wc.cell? ⟨gb152, 8, none⟩ = some (.int .i64 a0_8) := (blk_cell BK152.out 8).trans rfl
                 have hcz60_9 : wc.cell? ⟨gb152, 9, none⟩ = some (.int .i64 a0_9) := (blk_cell BK152.out 9).trans rfl
                 have hcz60_10 : wc.cell? ⟨gb152, 10, none⟩ = some (.int .i64 a0_10) := (blk_cell BK152.out 10).trans rfl
                 have hfz60_0 := blk_frozen BK152.out 0
                 have hfz60_1 := blk_frozen BK152.out 1
                 have hfz60_2 := blk_frozen BK152.out 2
                 have hfz60_3 := blk_frozen BK152.out 3
                 have hfz60_4 := blk_frozen BK152.out 4
                 have hfz60_5 := blk_frozen BK152.out 5
                 have hfz60_6 := blk_frozen BK152.out 6
                 have hfz60_7 := blk_frozen BK152.out 7
                 have hfz60_8 := blk_frozen BK152.out 8
                 have hfz60_9 := blk_frozen BK152.out 9
                 have hfz60_10 := blk_frozen BK152.out 10
                 go_wp2_with (first | ((with_reducible refine gate_callee (f := 30) rfl ?_); refine goesL_ (some 107) rfl rfl Tryd.func30 (by kernel_rfl) rfl #[.int .i64 a0_6, .int .i64 0, .int .i64 2147483646] rfl (by (try simp only [List.map_toArray, List.map_cons, List.map_nil]); first | done | rfl | (simp only [List.length_drop, List.length_take]; rfl)) ?_; (with_reducible refine (storagebarterref15_in.calls a0_6 0 2147483646 true _ A55.out).mono ?_); rintro e w' ⟨rfl, ⟨nd, rfl⟩⟩; refine ⟨_, rfl, ?_⟩))
                 go_ret
                 exact ⟨by first | rfl | (simp [errW_none, errW_some] <;> rfl) | (simp [*, errW_none, errW_some] <;> rfl), by repeat (first | (with_reducible first | exact HB.out | apply below_alloc | apply pw_below_drewN | apply below_drew1 | refine below_set ?_ GE152.out) | exact HB.out)⟩
               ·replace c56 := Bool.eq_false_iff.mpr c56
                subst c56
                rw [if_neg (show ¬ (false = true) by decide)] at H
                obtain rfl := Option.some.inj H
                have hcz61_0 : wc.cell? ⟨gb152, 0, none⟩ = some (.int .i64 a0_0) := (blk_cell BK152.out 0).trans rfl
                have hcz61_1 : wc.cell? ⟨gb152, 1, none⟩ = some (.int .i64 a0_1) := (blk_cell BK152.out 1).trans rfl
                have hcz61_2 : wc.cell? ⟨gb152, 2, none⟩ = some (.int .i64 a0_2) := (blk_cell BK152.out 2).trans rfl
                have hcz61_3 : wc.cell? ⟨gb152, 3, none⟩ = some (.int .i64 a0_3) := (blk_cell BK152.out 3).trans rfl
                have hcz61_4 : wc.cell? ⟨gb152, 4, none⟩ = some (.int .i64 a0_4) := (blk_cell BK152.out 4).trans rfl
                have hcz61_5 : wc.cell? ⟨gb152, 5, none⟩ = some (.int .i64 a0_5) := (blk_cell BK152.out 5).trans rfl
                have hcz61_6 : wc.cell? ⟨gb152, 6, none⟩ = some (.int .i64 a0_6) := (blk_cell BK152.out 6).trans rfl
                have hcz61_7 : wc.cell? ⟨gb152, 7, none⟩ = some (.int .i64 a0_7) := (blk_cell BK152.out 7).trans rfl
                have hcz61_8 : wc.cell? ⟨gb152, 8, none⟩ = some (.int .i64 a0_8) := (blk_cell BK152.out 8).trans rfl
                have hcz61_9 : wc.cell? ⟨gb152, 9, none⟩ = some (.int .i64 a0_9) := (blk_cell BK152.out 9).trans rfl
                have hcz61_10 : wc.cell? ⟨gb152, 10, none⟩ = some (.int .i64 a0_10) := (blk_cell BK152.out 10).trans rfl
                have hfz61_0 := blk_frozen BK152.out 0
                have hfz61_1 := blk_frozen BK152.out 1
                have hfz61_2 := blk_frozen BK152.out 2
                have hfz61_3 := blk_frozen BK152.out 3
                have hfz61_4 := blk_frozen BK152.out 4
                have hfz61_5 := blk_frozen BK152.out 5
                have hfz61_6 := blk_frozen BK152.out 6
                have hfz61_7 := blk_frozen BK152.out 7
                have hfz61_8 := blk_frozen BK152.out 8
                have hfz61_9 := blk_frozen BK152.out 9
                have hfz61_10 := blk_frozen BK152.out 10
                go_wp2_with (first | ((with_reducible refine gate_callee (f := 30) rfl ?_); refine goesL_ (some 107) rfl rfl Tryd.func30 (by kernel_rfl) rfl #[.int .i64 a0_6, .int .i64 0, .int .i64 2147483646] rfl (by (try simp only [List.map_toArray, List.map_cons, List.map_nil]); first | done | rfl | (simp only [List.length_drop, List.length_take]; rfl)) ?_; (with_reducible refine (storagebarterref15_in.calls a0_6 0 2147483646 false _ A55.out).mono ?_); rintro e w' ⟨rfl, ⟨nd, rfl⟩⟩; refine ⟨_, rfl, ?_⟩))
                go_ret
                exact ⟨by first | rfl | (simp [errW_none, errW_some] <;> rfl) | (simp [*, errW_none, errW_some] <;> rfl), by repeat (first | (with_reducible first | exact HB.out | apply below_alloc | apply pw_below_drewN | apply below_drew1 | refine below_set ?_ GE152.out) | exact HB.out)⟩
              ·rw [if_neg c54] at H
               have c54b0 : (a0_5 == 7) = false := beq_eq_false_iff_ne.mpr c54
               have c54b1 : (a0_5 != 7) = true := bne_iff_ne.mpr c54
               by_cases c62 : a0_5 = 8
               ·rw [if_pos c62] at H
                have c62b0 : (a0_5 == 8) = true := beq_iff_eq.mpr c62
                have c62b1 : (a0_5 != 8) = false := bne_eq_false_iff_eq.mpr c62
                clear c62
                replace H := Option.bind_eq_some_iff.mp H
                obtain ⟨t162, A630, H⟩ := H
                try dsimp only at H
                have A63 := Aside0.mk A630
                clear A630
                by_cases c64 : t162 = true
                ·subst c64
                 rw [if_pos rfl] at H
                 replace H := Option.bind_eq_some_iff.mp H
                 obtain ⟨t163, A650, H⟩ := H
                 try dsimp only at H
                 have A65 := Aside0.mk A650
                 clear A650
                 by_cases c66 : t163 = true
                 ·subst c66
                  rw [if_pos rfl] at H
                  by_cases c67 : a0_8 = 0
                  ·rw [if_pos c67] at H
                   have c67b0 : (a0_8 == 0) = true := beq_iff_eq.mpr c67
                   have c67b1 : (a0_8 != 0) = false := bne_eq_false_iff_eq.mpr c67
                   clear c67
                   obtain rfl := Option.some.inj H
                   have hcz68_0 : wc.cell? ⟨gb152, 0, none⟩ = some (.int .i64 a0_0) := (blk_cell BK152.out 0).trans rfl
                   have hcz68_1 : wc.cell? ⟨gb152, 1, none⟩ = some (.int .i64 a0_1) := (blk_cell BK152.out 1).trans rfl
                   have hcz68_2 : wc.cell? ⟨gb152, 2, none⟩ = some (.int .i64 a0_2) := (blk_cell BK152.out 2).trans rfl
                   have hcz68_3 : wc.cell? ⟨gb152, 3, none⟩ = some (.int .i64 a0_3) := (blk_cell BK152.out 3).trans rfl
                   have hcz68_4 : wc.cell? ⟨gb152, 4, none⟩ = some (.int .i64 a0_4) := (blk_cell BK152.out 4).trans rfl
                   have hcz68_5 : wc.cell? ⟨gb152, 5, none⟩ = some (.int .i64 a0_5) := (blk_cell BK152.out 5).trans rfl
                   have hcz68_6 : wc.cell? ⟨gb152, 6, none⟩ = some (.int .i64 a0_6) := (blk_cell BK152.out 6).trans rfl
                   have hcz68_7 : wc.cell? ⟨gb152, 7, none⟩ = some (.int .i64 a0_7) := (blk_cell BK152.out 7).trans rfl
                   have hcz68_8 : wc.cell? ⟨gb152, 8, none⟩ = some (.int .i64 a0_8) := (blk_cell BK152.out 8).trans rfl
                   have hcz68_9 : wc.cell? ⟨gb152, 9, none⟩ = some (.int .i64 a0_9) := (blk_cell BK152.out 9).trans rfl
                   have hcz68_10 : wc.cell? ⟨gb152, 10, none⟩ = some (.int .i64 a0_10) := (blk_cell BK152.out 10).trans rfl
                   have hfz68_0 := blk_frozen BK152.out 0
                   have hfz68_1 := blk_frozen BK152.out 1
                   have hfz68_2 := blk_frozen BK152.out 2
                   have hfz68_3 := blk_frozen BK152.out 3
                   have hfz68_4 := blk_frozen BK152.out 4
                   have hfz68_5 := blk_frozen BK152.out 5
                   have hfz68_6 := blk_frozen BK152.out 6
                   have hfz68_7 := blk_frozen BK152.out 7
                   have hfz68_8 := blk_frozen BK152.out 8
                   have hfz68_9 := blk_frozen BK152.out 9
                   have hfz68_10 := blk_frozen BK152.out 10
                   go_wp2_with (first | ((with_reducible refine gate_callee (f := 30) rfl ?_); refine goesL_ (some 120) rfl rfl Tryd.func30 (by kernel_rfl) rfl #[.int .i64 a0_6, .int .i64 0, .int .i64 2147483646] rfl (by (try simp only [List.map_toArray, List.map_cons, List.map_nil]); first | done | rfl | (simp only [List.length_drop, List.length_take]; rfl)) ?_; (with_reducible refine (storagebarterref15_in.calls a0_6 0 2147483646 true _ A63.out).mono ?_); rintro e w' ⟨rfl, ⟨nd, rfl⟩⟩; refine ⟨_, rfl, ?_⟩) | (go_at_call 30; (with_reducible refine (storagebarterref15_in.calls a0_7 0 4294967293 true _ A65.out).mono ?_); rintro e w' ⟨rfl, ⟨nd, rfl⟩⟩))
                   go_ret
                   exact ⟨by first | rfl | (simp [errW_none, errW_some] <;> rfl) | (simp [*, errW_none, errW_some] <;> rfl), by repeat (first | (with_reducible first | exact HB.out | apply below_alloc | apply pw_below_drewN | apply below_drew1 | refine below_set ?_ GE152.out) | exact HB.out)⟩
                  ·rw [if_neg c67] at H
                   have c67b0 : (a0_8 == 0) = false := beq_eq_false_iff_ne.mpr c67
                   have c67b1 : (a0_8 != 0) = true := bne_iff_ne.mpr c67
                   obtain rfl := Option.some.inj H
                   have hcz69_0 : wc.cell? ⟨gb152, 0, none⟩ = some (.int .i64 a0_0) := (blk_cell BK152.out 0).trans rfl
                   have hcz69_1 : wc.cell? ⟨gb152, 1, none⟩ = some (.int .i64 a0_1) := (blk_cell BK152.out 1).trans rfl
                   have hcz69_2 : wc.cell? ⟨gb152, 2, none⟩ = some (.int .i64 a0_2) := (blk_cell BK152.out 2).trans rfl
                   have hcz69_3 : wc.cell? ⟨gb152, 3, none⟩ = some (.int .i64 a0_3) := (blk_cell BK152.out 3).trans rfl
                   have hcz69_4 : wc.cell? ⟨gb152, 4, none⟩ = some (.int .i64 a0_4) := (blk_cell BK152.out 4).trans rfl
                   have hcz69_5 : wc.cell? ⟨gb152, 5, none⟩ = some (.int .i64 a0_5) := (blk_cell BK152.out 5).trans rfl
                   have hcz69_6 : wc.cell? ⟨gb152, 6, none⟩ = some (.int .i64 a0_6) := (blk_cell BK152.out 6).trans rfl
                   have hcz69_7 : wc.cell? ⟨gb152, 7, none⟩ = some (.int .i64 a0_7) := (blk_cell BK152.out 7).trans rfl
                   have hcz69_8 : wc.cell? ⟨gb152, 8, none⟩ = some (.int .i64 a0_8) := (blk_cell BK152.out 8).trans rfl
                   have hcz69_9 : wc.cell? ⟨gb152, 9, none⟩ = some (.int .i64 a0_9) := (blk_cell BK152.out 9).trans rfl
                   have hcz69_10 : wc.cell? ⟨gb152, 10, none⟩ = some (.int .i64 a0_10) := (blk_cell BK152.out 10).trans rfl
                   have hfz69_0 := blk_frozen BK152.out 0
                   have hfz69_1 := blk_frozen BK152.out 1
                   have hfz69_2 := blk_frozen BK152.out 2
                   have hfz69_3 := blk_frozen BK152.out 3
                   have hfz69_4 := blk_frozen BK152.out 4
                   have hfz69_5 := blk_frozen BK152.out 5
                   have hfz69_6 := blk_frozen BK152.out 6
                   have hfz69_7 := blk_frozen BK152.out 7
                   have hfz69_8 := blk_frozen BK152.out 8
                   have hfz69_9 := blk_frozen BK152.out 9
                   have hfz69_10 := blk_frozen BK152.out 10
                   go_wp2_with (first | ((with_reducible refine gate_callee (f := 30) rfl ?_); refine goesL_ (some 120) rfl rfl Tryd.func30 (by kernel_rfl) rfl #[.int .i64 a0_6, .int .i64 0, .int .i64 2147483646] rfl (by (try simp only [List.map_toArray, List.map_cons, List.map_nil]); first | done | rfl | (simp only [List.length_drop, List.length_take]; rfl)) ?_; (with_reducible refine (storagebarterref15_in.calls a0_6 0 2147483646 true _ A63.out).mono ?_); rintro e w' ⟨rfl, ⟨nd, rfl⟩⟩; refine ⟨_, rfl, ?_⟩) | (go_at_call 30; (with_reducible refine (storagebarterref15_in.calls a0_7 0 4294967293 true _ A65.out).mono ?_); rintro e w' ⟨rfl, ⟨nd, rfl⟩⟩))
                   go_ret
                   exact ⟨by first | rfl | (simp [errW_none, errW_some] <;> rfl) | (simp [*, errW_none, errW_some] <;> rfl), by repeat (first | (with_reducible first | exact HB.out | apply below_alloc | apply pw_below_drewN | apply below_drew1 | refine below_set ?_ GE152.out) | exact HB.out)⟩
                 ·replace c66 := Bool.eq_false_iff.mpr c66
                  subst c66
                  rw [if_neg (show ¬ (false = true) by decide)] at H
                  obtain rfl := Option.some.inj H
                  have hcz70_0 : wc.cell? ⟨gb152, 0, none⟩ = some (.int .i64 a0_0) := (blk_cell BK152.out 0).trans rfl
                  have hcz70_1 : wc.cell? ⟨gb152, 1, none⟩ = some (.int .i64 a0_1) := (blk_cell BK152.out 1).trans rfl
                  have hcz70_2 : wc.cell? ⟨gb152, 2, none⟩ = some (.int .i64 a0_2) := (blk_cell BK152.out 2).trans rfl
                  have hcz70_3 : wc.cell? ⟨gb152, 3, none⟩ = some (.int .i64 a0_3) := (blk_cell BK152.out 3).trans rfl
                  have hcz70_4 : wc.cell? ⟨gb152, 4, none⟩ = some (.int .i64 a0_4) := (blk_cell BK152.out 4).trans rfl
                  have hcz70_5 : wc.cell? ⟨gb152, 5, none⟩ = some (.int .i64 a0_5) := (blk_cell BK152.out 5).trans rfl
                  have hcz70_6 : wc.cell? ⟨gb152, 6, none⟩ = some (.int .i64 a0_6) := (blk_cell BK152.out 6).trans rfl
                  have hcz70_7 : wc.cell? ⟨gb152, 7, none⟩ = some (.int .i64 a0_7) := (blk_cell BK152.out 7).trans rfl
                  have hcz70_8 : wc.cell? ⟨gb152, 8, none⟩ = some (.int .i64 a0_8) := (blk_cell BK152.out 8).trans rfl
                  have hcz70_9 : wc.cell? ⟨gb152, 9, none⟩ = some (.int .i64 a0_9) := (blk_cell BK152.out 9).trans rfl
                  have hcz70_10 : wc.cell? ⟨gb152, 10, none⟩ = some (.int .i64 a0_10) := (blk_cell BK152.out 10).trans rfl
                  have hfz70_0 := blk_frozen BK152.out 0
                  have hfz70_1 := blk_frozen BK152.out 1
                  have hfz70_2 := blk_frozen BK152.out 2
                  have hfz70_3 := blk_frozen BK152.out 3
                  have hfz70_4 := blk_frozen BK152.out 4
                  have hfz70_5 := blk_frozen BK152.out 5
                  have hfz70_6 := blk_frozen BK152.out 6
                  have hfz70_7 := blk_frozen BK152.out 7
                  have hfz70_8 := blk_frozen BK152.out 8
                  have hfz70_9 := blk_frozen BK152.out 9
                  have hfz70_10 := blk_frozen BK152.out 10
                  go_wp2_with (first | ((with_reducible refine gate_callee (f := 30) rfl ?_); refine goesL_ (some 120) rfl rfl Tryd.func30 (by kernel_rfl) rfl #[.int .i64 a0_6, .int .i64 0, .int .i64 2147483646] rfl (by (try simp only [List.map_toArray, List.map_cons, List.map_nil]); first | done | rfl | (simp only [List.length_drop, List.length_take]; rfl)) ?_; (with_reducible refine (storagebarterref15_in.calls a0_6 0 2147483646 true _ A63.out).mono ?_); rintro e w' ⟨rfl, ⟨nd, rfl⟩⟩; refine ⟨_, rfl, ?_⟩) | (go_at_call 30; (with_reducible refine (storagebarterref15_in.calls a0_7 0 4294967293 false _ A65.out).mono ?_); rintro e w' ⟨rfl, ⟨nd, rfl⟩⟩))
                  go_ret
                  exact ⟨by first | rfl | (simp [errW_none, errW_some] <;> rfl) | (simp [*, errW_none, errW_some] <;> rfl), by repeat (first | (with_reducible first | exact HB.out | apply below_alloc | apply pw_below_drewN | apply below_drew1 | refine below_set ?_ GE152.out) | exact HB.out)⟩
                ·replace c64 := Bool.eq_false_iff.mpr c64
                 subst c64
                 rw [if_neg (show ¬ (false = true) by decide)] at H
                 obtain rfl := Option.some.inj H
                 have hcz71_0 : wc.cell? ⟨gb152, 0, none⟩ = some (.int .i64 a0_0) := (blk_cell BK152.out 0).trans rfl
                 have hcz71_1 : wc.cell? ⟨gb152, 1, none⟩ = some (.int .i64 a0_1) := (blk_cell BK152.out 1).trans rfl
                 have hcz71_2 : wc.cell? ⟨gb152, 2, none⟩ = some (.int .i64 a0_2) := (blk_cell BK152.out 2).trans rfl
                 have hcz71_3 : wc.cell? ⟨gb152, 3, none⟩ = some (.int .i64 a0_3) := (blk_cell BK152.out 3).trans rfl
                 have hcz71_4 : wc.cell? ⟨gb152, 4, none⟩ = some (.int .i64 a0_4) := (blk_cell BK152.out 4).trans rfl
                 have hcz71_5 : wc.cell? ⟨gb152, 5, none⟩ = some (.int .i64 a0_5) := (blk_cell BK152.out 5).trans rfl
                 have hcz71_6 : wc.cell? ⟨gb152, 6, none⟩ = some (.int .i64 a0_6) := (blk_cell BK152.out 6).trans rfl
                 have hcz71_7 : wc.cell? ⟨gb152, 7, none⟩ = some (.int .i64 a0_7) := (blk_cell BK152.out 7).trans rfl
                 have hcz71_8 : wc.cell? ⟨gb152, 8, none⟩ = some (.int .i64 a0_8) := (blk_cell BK152.out 8).trans rfl
                 have hcz71_9 : wc.cell? ⟨gb152, 9, none⟩ = some (.int .i64 a0_9) := (blk_cell BK152.out 9).trans rfl
                 have hcz71_10 : wc.cell? ⟨gb152, 10, none⟩ = some (.int .i64 a0_10) := (blk_cell BK152.out 10).trans rfl
                 have hfz71_0 := blk_frozen BK152.out 0
                 have hfz71_1 := blk_frozen BK152.out 1
                 have hfz71_2 := blk_frozen BK152.out 2
                 have hfz71_3 := blk_frozen BK152.out 3
                 have hfz71_4 := blk_frozen BK152.out 4
                 have hfz71_5 := blk_frozen BK152.out 5
                 have hfz71_6 := blk_frozen BK152.out 6
                 have hfz71_7 := blk_frozen BK152.out 7
                 have hfz71_8 := blk_frozen BK152.out 8
                 have hfz71_9 := blk_frozen BK152.out 9
                 have hfz71_10 := blk_frozen BK152.out 10
                 go_wp2_with (first | ((with_reducible refine gate_callee (f := 30) rfl ?_); refine goesL_ (some 120) rfl rfl Tryd.func30 (by kernel_rfl) rfl #[.int .i64 a0_6, .int .i64 0, .int .i64 2147483646] rfl (by (try simp only [List.map_toArray, List.map_cons, List.map_nil]); first | done | rfl | (simp only [List.length_drop, List.length_take]; rfl)) ?_; (with_reducible refine (storagebarterref15_in.calls a0_6 0 2147483646 false _ A63.out).mono ?_); rintro e w' ⟨rfl, ⟨nd, rfl⟩⟩; refine ⟨_, rfl, ?_⟩))
                 go_ret
                 exact ⟨by first | rfl | (simp [errW_none, errW_some] <;> rfl) | (simp [*, errW_none, errW_some] <;> rfl), by repeat (first | (with_reducible first | exact HB.out | apply below_alloc | apply pw_below_drewN | apply below_drew1 | refine below_set ?_ GE152.out) | exact HB.out)⟩
               ·rw [if_neg c62] at H
                have c62b0 : (a0_5 == 8) = false := beq_eq_false_iff_ne.mpr c62
                have c62b1 : (a0_5 != 8) = true := bne_iff_ne.mpr c62
                obtain rfl := Option.some.inj H
                go_wp2
                go_ret
                exact ⟨by first | rfl | (simp [errW_none, errW_some] <;> rfl) | (simp [*, errW_none, errW_some] <;> rfl), by repeat (first | (with_reducible first | exact HB.out | apply below_alloc | apply pw_below_drewN | apply below_drew1 | refine below_set ?_ GE152.out) | exact HB.out)⟩
end Go.Proofs.YtcalkhlchjjalaaDoor.Q

namespace Go.Proofs.YtcalkhlchjjalaaDoor.Q
open Go.RowKit Go.Proofs.YtcalkhlchjjalaaDoorW.PrintWords Go.Proofs.YtcalkhlchjjalaaDoorW.PrintLast Go.Proofs.YtcalkhlchjjalaaDoorW.PrintMore Go.Proofs.YtcalkhlchjjalaaDoor.Gput
attribute [local go_sem] max2_int min2_int max_two min_two max_three min_three max_four min_four   -- for this text's walks alone
set_option linter.unusedVariables false
set_option linter.unusedSimpArgs false
def storagebarterref15_Valid.f (k : Nat) (a0_0 : Int) (a0_1 : Int) (a0_2 : Int) (a0_3 : Int) (a0_4 : Int) (a0_5 : Int) (a0_6 : Int) (a0_7 : Int) (a0_8 : Int) (a0_9 : Int) (a0_10 : Int) : Option (Bool) := (storagebarterref15_in.f a0_0 1 2147483646).bind fun t165 => (if t165 = true then ((storagebarterref15_in.f a0_1 1 2147483646).bind fun t166 => (if t166 = true then (if a0_0 = a0_1 then (some false) else ((storagebarterref15_in.f a0_2 1 256).bind fun t167 => (if t167 = true then ((storagebarterref15_in.f a0_3 0 2147483646).bind fun t168 => (if t168 = true then (if a0_2 > 1 then ((storagebarterref15_in.f a0_4 0 1048576).bind fun t169 => (if t169 = true then ((storagebarterref15_in.f a0_10 0 2147483646).bind fun t170 => (if t170 = true then ((storagebarterref15_parts.f k a0_0 a0_1 a0_2 a0_3 a0_4 a0_5 a0_6 a0_7 a0_8 a0_9 a0_10).bind fun t171 => (some t171)) else (some false))) else (some false))) else (if a0_3 = 0 then ((storagebarterref15_in.f a0_4 0 1048576).bind fun t172 => (if t172 = true then ((storagebarterref15_in.f a0_10 0 2147483646).bind fun t173 => (if t173 = true then ((storagebarterref15_parts.f k a0_0 a0_1 a0_2 a0_3 a0_4 a0_5 a0_6 a0_7 a0_8 a0_9 a0_10).bind fun t174 => (some t174)) else (some false))) else (some false))) else (some false))) else (some false))) else (some false)))) else (some false))) else (some false))
theorem storagebarterref15_Valid.mono : ∀ a0 a1 a2 a3 a4 a5 a6 a7 a8 a9 a10 k, LeO (storagebarterref15_Valid.f k a0 a1 a2 a3 a4 a5 a6 a7 a8 a9 a10) (storagebarterref15_Valid.f (k + 1) a0 a1 a2 a3 a4 a5 a6 a7 a8 a9 a10) := by
 intro a0 a1 a2 a3 a4 a5 a6 a7 a8 a9 a10 k
 unfold storagebarterref15_Valid.f
 repeat' first
  | (with_reducible exact storagebarterref15_parts.mono _ _ _ _ _ _ _ _ _ _ _ _)
  | (with_reducible exact LeO.refl _)
  | (with_reducible exact LeO.none _)
  | (with_reducible refine LeO.ite ?_ ?_)
  | (with_reducible refine LeO.bind ?_ (fun _ => ?_))
  | exact storagebarterref15_parts.mono _ _ _ _ _ _ _ _ _ _ _ _
  | exact LeO.none _
  | refine LeO.ite ?_ ?_
  | refine LeO.bind ?_ (fun _ => ?_)
set_option maxHeartbeats 8000000 in
set_option maxRecDepth 100000 in
theorem storagebarterref15_Valid.calls (k : Nat) (a0_0 : Int) (a0_1 : Int) (a0_2 : Int) (a0_3 : Int) (a0_4 : Int) (a0_5 : Int) (a0_6 : Int) (a0_7 : Int) (a0_8 : Int) (a0_9 : Int) (a0_10 : Int) (r : Bool) (w : World) (h : storagebarterref15_Valid.f k a0_0 a0_1 a0_2 a0_3 a0_4 a0_5 a0_6 a0_7 a0_8 a0_9 a0_10 = some r) :
 Calls Tryd.prog 34 #[.agg #[.int .i64 a0_0, .int .i64 a0_1, .int .i64 a0_2, .int .i64 a0_3, .int .i64 a0_4, .int .i64 a0_5, .int .i64 a0_6, .int .i64 a0_7, .int .i64 a0_8, .int .i64 a0_9, .int .i64 a0_10]] w fun e w' => e = .returned (.bool r) ∧ Below w.heap.size w w' := by
 have hu39 := Tryd.underlying39
 have HB := Aside0.mk (Below.refl w.heap.size w)
 have H : ((storagebarterref15_in.f a0_0 1 2147483646).bind fun t165 => (if t165 = true then ((storagebarterref15_in.f a0_1 1 2147483646).bind fun t166 => (if t166 = true then (if a0_0 = a0_1 then (some false) else ((storagebarterref15_in.f a0_2 1 256).bind fun t167 => (if t167 = true then ((storagebarterref15_in.f a0_3 0 2147483646).bind fun t168 => (if t168 = true then (if a0_2 > 1 then ((storagebarterref15_in.f a0_4 0 1048576).bind fun t169 => (if t169 = true then ((storagebarterref15_in.f a0_10 0 2147483646).bind fun t170 => (if t170 = true then ((storagebarterref15_parts.f k a0_0 a0_1 a0_2 a0_3 a0_4 a0_5 a0_6 a0_7 a0_8 a0_9 a0_10).bind fun t171 => (some t171)) else (some false))) else (some false))) else (if a0_3 = 0 then ((storagebarterref15_in.f a0_4 0 1048576).bind fun t172 => (if t172 = true then ((storagebarterref15_in.f a0_10 0 2147483646).bind fun t173 => (if t173 = true then ((storagebarterref15_parts.f k a0_0 a0_1 a0_2 a0_3 a0_4 a0_5 a0_6 a0_7 a0_8 a0_9 a0_10).bind fun t174 => (some t174)) else (some false))) else (some false))) else (some false))) else (some false))) else (some false)))) else (some false))) else (some false))) = some r := h
 clear h
 replace H := Option.bind_eq_some_iff.mp H
 obtain ⟨t165, A20, H⟩ := H
 replace H : (if t165 = true then ((storagebarterref15_in.f a0_1 1 2147483646).bind fun t166 => (if t166 = true then (if a0_0 = a0_1 then (some false) else ((storagebarterref15_in.f a0_2 1 256).bind fun t167 => (if t167 = true then ((storagebarterref15_in.f a0_3 0 2147483646).bind fun t168 => (if t168 = true then (if a0_2 > 1 then ((storagebarterref15_in.f a0_4 0 1048576).bind fun t169 => (if t169 = true then ((storagebarterref15_in.f a0_10 0 2147483646).bind fun t170 => (if t170 = true then ((storagebarterref15_parts.f k a0_0 a0_1 a0_2 a0_3 a0_4 a0_5 a0_6 a0_7 a0_8 a0_9 a0_10).bind fun t171 => (some t171)) else (some false))) else (some false))) else (if a0_3 = 0 then ((storagebarterref15_in.f a0_4 0 1048576).bind fun t172 => (if t172 = true then ((storagebarterref15_in.f a0_10 0 2147483646).bind fun t173 => (if t173 = true then ((storagebarterref15_parts.f k a0_0 a0_1 a0_2 a0_3 a0_4 a0_5 a0_6 a0_7 a0_8 a0_9 a0_10).bind fun t174 => (some t174)) else (some false))) else (some false))) else (some false))) else (some false))) else (some false)))) else (some false))) else (some false)) = some r := H
 have A2 := Aside0.mk A20
 clear A20
 by_cases c3 : t165 = true
 ·subst c3
  have H1 : ((storagebarterref15_in.f a0_1 1 2147483646).bind fun t166 => (if t166 = true then (if a0_0 = a0_1 then (some false) else ((storagebarterref15_in.f a0_2 1 256).bind fun t167 => (if t167 = true then ((storagebarterref15_in.f a0_3 0 2147483646).bind fun t168 => (if t168 = true then (if a0_2 > 1 then ((storagebarterref15_in.f a0_4 0 1048576).bind fun t169 => (if t169 = true then ((storagebarterref15_in.f a0_10 0 2147483646).bind fun t170 => (if t170 = true then ((storagebarterref15_parts.f k a0_0 a0_1 a0_2 a0_3 a0_4 a0_5 a0_6 a0_7 a0_8 a0_9 a0_10).bind fun t171 => (some t171)) else (some false))) else (some false))) else (if a0_3 = 0 then ((storagebarterref15_in.f a0_4 0 1048576).bind fun t172 => (if t172 = true then ((storagebarterref15_in.f a0_10 0 2147483646).bind fun t173 => (if t173 = true then ((storagebarterref15_parts.f k a0_0 a0_1 a0_2 a0_3 a0_4 a0_5 a0_6 a0_7 a0_8 a0_9 a0_10).bind fun t174 => (some t174)) else (some false))) else (some false))) else (some false))) else (some false))) else (some false)))) else (some false))) = some r := by rw [if_pos rfl] at H; exact H
  clear H
  have H := H1
  clear H1
  replace H := Option.bind_eq_some_iff.mp H
  obtain ⟨t166, A40, H⟩ := H
  replace H : (if t166 = true then (if a0_0 = a0_1 then (some false) else ((storagebarterref15_in.f a0_2 1 256).bind fun t167 => (if t167 = true then ((storagebarterref15_in.f a0_3 0 2147483646).bind fun t168 => (if t168 = true then (if a0_2 > 1 then ((storagebarterref15_in.f a0_4 0 1048576).bind fun t169 => (if t169 = true then ((storagebarterref15_in.f a0_10 0 2147483646).bind fun t170 => (if t170 = true then ((storagebarterref15_parts.f k a0_0 a0_1 a0_2 a0_3 a0_4 a0_5 a0_6 a0_7 a0_8 a0_9 a0_10).bind fun t171 => (some t171)) else (some false))) else (some false))) else (if a0_3 = 0 then ((storagebarterref15_in.f a0_4 0 1048576).bind fun t172 => (if t172 = true then ((storagebarterref15_in.f a0_10 0 2147483646).bind fun t173 => (if t173 = true then ((storagebarterref15_parts.f k a0_0 a0_1 a0_2 a0_3 a0_4 a0_5 a0_6 a0_7 a0_8 a0_9 a0_10).bind fun t174 => (some t174)) else (some false))) else (some false))) else (some false))) else (some false))) else (some false)))) else (some false)) = some r := H
  have A4 := Aside0.mk A40
  clear A40
  by_cases c5 : t166 = true
  ·subst c5
   have H1 : (if a0_0 = a0_1 then (some false) else ((storagebarterref15_in.f a0_2 1 256).bind fun t167 => (if t167 = true then ((storagebarterref15_in.f a0_3 0 2147483646).bind fun t168 => (if t168 = true then (if a0_2 > 1 then ((storagebarterref15_in.f a0_4 0 1048576).bind fun t169 => (if t169 = true then ((storagebarterref15_in.f a0_10 0 2147483646).bind fun t170 => (if t170 = true then ((storagebarterref15_parts.f k a0_0 a0_1 a0_2 a0_3 a0_4 a0_5 a0_6 a0_7 a0_8 a0_9 a0_10).bind fun t171 => (some t171)) else (some false))) else (some false))) else (if a0_3 = 0 then ((storagebarterref15_in.f a0_4 0 1048576).bind fun t172 => (if t172 = true then ((storagebarterref15_in.f a0_10 0 2147483646).bind fun t173 => (if t173 = true then ((storagebarterref15_parts.f k a0_0 a0_1 a0_2 a0_3 a0_4 a0_5 a0_6 a0_7 a0_8 a0_9 a0_10).bind fun t174 => (some t174)) else (some false))) else (some false))) else (some false))) else (some false))) else (some false)))) = some r := by rw [if_pos rfl] at H; exact H
   clear H
   have H := H1
   clear H1
   by_cases c6 : a0_0 = a0_1
   ·rw [if_pos c6] at H
    have c6b0 : (a0_0 == a0_1) = true := beq_iff_eq.mpr c6
    have c6b1 : (a0_0 != a0_1) = false := bne_eq_false_iff_eq.mpr c6
    clear c6
    obtain rfl := Option.some.inj H
    go_enter Tryd.func34, Tryd.ntmps34
    go_wp2_with (first | ((with_reducible refine gate_dst (N := 1) rfl ?_); refine box_event ?hg (N := 1) ?hd (cs := #[.int .i64 a0_0, .int .i64 a0_1, .int .i64 a0_2, .int .i64 a0_3, .int .i64 a0_4, .int .i64 a0_5, .int .i64 a0_6, .int .i64 a0_7, .int .i64 a0_8, .int .i64 a0_9, .int .i64 a0_10]) (t := 39) ?hr ?_; (case hd => rfl); (case hg => rfl); (case hr => first | (go_simp; done) | (go_simp; rfl)); intro gb164 hg w7 hbox hb; have n0_ := Aside0.mk (below_step (by repeat (first | (with_reducible first | exact HB.out | apply below_alloc | apply pw_below_drewN | apply below_drew1) | exact HB.out)) hb); have n1_ := Aside0.mk (hbox); have n2_ := Aside0.mk ((by rw [hg]; exact (below_size (by repeat (first | (with_reducible first | exact HB.out | apply below_alloc | apply pw_below_drewN | apply below_drew1) | exact HB.out))) : w.heap.size ≤ gb164)); have n3_ := Aside0.mk ((by rw [hg]; exact (below_size (by repeat (first | (with_reducible first | exact HB.out | apply below_alloc | apply pw_below_drewN | apply below_drew1) | exact HB.out))) : w.heap.size ≤ gb164)); clear HB; have HB := n0_; have BK164 := n1_; have GW164 := n2_; have GE164 := n3_; clear n0_ n1_ n2_ n3_; clear hb hbox hg; have hcz8_0 : w7.cell? ⟨gb164, 0, none⟩ = some (.int .i64 a0_0) := (blk_cell BK164.out 0).trans rfl; have hcz8_1 : w7.cell? ⟨gb164, 1, none⟩ = some (.int .i64 a0_1) := (blk_cell BK164.out 1).trans rfl; have hcz8_2 : w7.cell? ⟨gb164, 2, none⟩ = some (.int .i64 a0_2) := (blk_cell BK164.out 2).trans rfl; have hcz8_3 : w7.cell? ⟨gb164, 3, none⟩ = some (.int .i64 a0_3) := (blk_cell BK164.out 3).trans rfl; have hcz8_4 : w7.cell? ⟨gb164, 4, none⟩ = some (.int .i64 a0_4) := (blk_cell BK164.out 4).trans rfl; have hcz8_5 : w7.cell? ⟨gb164, 5, none⟩ = some (.int .i64 a0_5) := (blk_cell BK164.out 5).trans rfl; have hcz8_6 : w7.cell? ⟨gb164, 6, none⟩ = some (.int .i64 a0_6) := (blk_cell BK164.out 6).trans rfl; have hcz8_7 : w7.cell? ⟨gb164, 7, none⟩ = some (.int .i64 a0_7) := (blk_cell BK164.out 7).trans rfl; have hcz8_8 : w7.cell? ⟨gb164, 8, none⟩ = some (.int .i64 a0_8) := (blk_cell BK164.out 8).trans rfl; have hcz8_9 : w7.cell? ⟨gb164, 9, none⟩ = some (.int .i64 a0_9) := (blk_cell BK164.out 9).trans rfl; have hcz8_10 : w7.cell? ⟨gb164, 10, none⟩ = some (.int .i64 a0_10) := (blk_cell BK164.out 10).trans rfl; have hfz8_0 := blk_frozen BK164.out 0; have hfz8_1 := blk_frozen BK164.out 1; have hfz8_2 := blk_frozen BK164.out 2; have hfz8_3 := blk_frozen BK164.out 3; have hfz8_4 := blk_frozen BK164.out 4; have hfz8_5 := blk_frozen BK164.out 5; have hfz8_6 := blk_frozen BK164.out 6; have hfz8_7 := blk_frozen BK164.out 7; have hfz8_8 := blk_frozen BK164.out 8; have hfz8_9 := blk_frozen BK164.out 9; have hfz8_10 := blk_frozen BK164.out 10) | ((with_reducible refine gate_callee (f := 30) rfl ?_); refine goesL_ (some 5) rfl rfl Tryd.func30 (by kernel_rfl) rfl #[.int .i64 a0_0, .int .i64 1, .int .i64 2147483646] rfl (by (try simp only [List.map_toArray, List.map_cons, List.map_nil]); first | done | rfl | (simp only [List.length_drop, List.length_take]; rfl)) ?_; (with_reducible refine (storagebarterref15_in.calls a0_0 1 2147483646 true _ A2.out).mono ?_); rintro e w' ⟨rfl, ⟨nd, rfl⟩⟩; refine ⟨_, rfl, ?_⟩) | (go_at_call 30; (with_reducible refine (storagebarterref15_in.calls a0_1 1 2147483646 true _ A4.out).mono ?_); rintro e w' ⟨rfl, ⟨nd, rfl⟩⟩))
    go_ret
    exact ⟨by first | rfl | (simp [errW_none, errW_some] <;> rfl) | (simp [*, errW_none, errW_some] <;> rfl), by repeat (first | (with_reducible first | exact HB.out | apply below_alloc | apply pw_below_drewN | apply below_drew1 | refine below_set ?_ GE164.out) | exact HB.out)⟩
   ·rw [if_neg c6] at H
    have c6b0 : (a0_0 == a0_1) = false := beq_eq_false_iff_ne.mpr c6
    have c6b1 : (a0_0 != a0_1) = true := bne_iff_ne.mpr c6
    replace H := Option.bind_eq_some_iff.mp H
    obtain ⟨t167, A90, H⟩ := H
    replace H : (if t167 = true then ((storagebarterref15_in.f a0_3 0 2147483646).bind fun t168 => (if t168 = true then (if a0_2 > 1 then ((storagebarterref15_in.f a0_4 0 1048576).bind fun t169 => (if t169 = true then ((storagebarterref15_in.f a0_10 0 2147483646).bind fun t170 => (if t170 = true then ((storagebarterref15_parts.f k a0_0 a0_1 a0_2 a0_3 a0_4 a0_5 a0_6 a0_7 a0_8 a0_9 a0_10).bind fun t171 => (some t171)) else (some false))) else (some false))) else (if a0_3 = 0 then ((storagebarterref15_in.f a0_4 0 1048576).bind fun t172 => (if t172 = true then ((storagebarterref15_in.f a0_10 0 2147483646).bind fun t173 => (if t173 = true then ((storagebarterref15_parts.f k a0_0 a0_1 a0_2 a0_3 a0_4 a0_5 a0_6 a0_7 a0_8 a0_9 a0_10).bind fun t174 => (some t174)) else (some false))) else (some false))) else (some false))) else (some false))) else (some false)) = some r := H
    have A9 := Aside0.mk A90
    clear A90
    by_cases c10 : t167 = true
    ·subst c10
     have H1 : ((storagebarterref15_in.f a0_3 0 2147483646).bind fun t168 => (if t168 = true then (if a0_2 > 1 then ((storagebarterref15_in.f a0_4 0 1048576).bind fun t169 => (if t169 = true then ((storagebarterref15_in.f a0_10 0 2147483646).bind fun t170 => (if t170 = true then ((storagebarterref15_parts.f k a0_0 a0_1 a0_2 a0_3 a0_4 a0_5 a0_6 a0_7 a0_8 a0_9 a0_10).bind fun t171 => (some t171)) else (some false))) else (some false))) else (if a0_3 = 0 then ((storagebarterref15_in.f a0_4 0 1048576).bind fun t172 => (if t172 = true then ((storagebarterref15_in.f a0_10 0 2147483646).bind fun t173 => (if t173 = true then ((storagebarterref15_parts.f k a0_0 a0_1 a0_2 a0_3 a0_4 a0_5 a0_6 a0_7 a0_8 a0_9 a0_10).bind fun t174 => (some t174)) else (some false))) else (some false))) else (some false))) else (some false))) = some r := by rw [if_pos rfl] at H; exact H
     clear H
     have H := H1
     clear H1
     replace H := Option.bind_eq_some_iff.mp H
     obtain ⟨t168, A110, H⟩ := H
     replace H : (if t168 = true then (if a0_2 > 1 then ((storagebarterref15_in.f a0_4 0 1048576).bind fun t169 => (if t169 = true then ((storagebarterref15_in.f a0_10 0 2147483646).bind fun t170 => (if t170 = true then ((storagebarterref15_parts.f k a0_0 a0_1 a0_2 a0_3 a0_4 a0_5 a0_6 a0_7 a0_8 a0_9 a0_10).bind fun t171 => (some t171)) else (some false))) else (some false))) else (if a0_3 = 0 then ((storagebarterref15_in.f a0_4 0 1048576).bind fun t172 => (if t172 = true then ((storagebarterref15_in.f a0_10 0 2147483646).bind fun t173 => (if t173 = true then ((storagebarterref15_parts.f k a0_0 a0_1 a0_2 a0_3 a0_4 a0_5 a0_6 a0_7 a0_8 a0_9 a0_10).bind fun t174 => (some t174)) else (some false))) else (some false))) else (some false))) else (some false)) = some r := H
     have A11 := Aside0.mk A110
     clear A110
     by_cases c12 : t168 = true
     ·subst c12
      have H1 : (if a0_2 > 1 then ((storagebarterref15_in.f a0_4 0 1048576).bind fun t169 => (if t169 = true then ((storagebarterref15_in.f a0_10 0 2147483646).bind fun t170 => (if t170 = true then ((storagebarterref15_parts.f k a0_0 a0_1 a0_2 a0_3 a0_4 a0_5 a0_6 a0_7 a0_8 a0_9 a0_10).bind fun t171 => (some t171)) else (some false))) else (some false))) else (if a0_3 = 0 then ((storagebarterref15_in.f a0_4 0 1048576).bind fun t172 => (if t172 = true then ((storagebarterref15_in.f a0_10 0 2147483646).bind fun t173 => (if t173 = true then ((storagebarterref15_parts.f k a0_0 a0_1 a0_2 a0_3 a0_4 a0_5 a0_6 a0_7 a0_8 a0_9 a0_10).bind fun t174 => (some t174)) else (some false))) else (some false))) else (some false))) = some r := by rw [if_pos rfl] at H; exact H
      clear H
      have H := H1
      clear H1
      by_cases c13 : a0_2 > 1
      ·rw [if_pos c13] at H
       have c13b0 : decide (1 < a0_2) = true := decide_eq_true c13
       clear c13
       replace H := Option.bind_eq_some_iff.mp H
       obtain ⟨t169, A140, H⟩ := H
       replace H : (if t169 = true then ((storagebarterref15_in.f a0_10 0 2147483646).bind fun t170 => (if t170 = true then ((storagebarterref15_parts.f k a0_0 a0_1 a0_2 a0_3 a0_4 a0_5 a0_6 a0_7 a0_8 a0_9 a0_10).bind fun t171 => (some t171)) else (some false))) else (some false)) = some r := H
       have A14 := Aside0.mk A140
       clear A140
       by_cases c15 : t169 = true
       ·subst c15
        have H1 : ((storagebarterref15_in.f a0_10 0 2147483646).bind fun t170 => (if t170 = true then ((storagebarterref15_parts.f k a0_0 a0_1 a0_2 a0_3 a0_4 a0_5 a0_6 a0_7 a0_8 a0_9 a0_10).bind fun t171 => (some t171)) else (some false))) = some r := by rw [if_pos rfl] at H; exact H
        clear H
        have H := H1
        clear H1
        replace H := Option.bind_eq_some_iff.mp H
        obtain ⟨t170, A160, H⟩ := H
        replace H : (if t170 = true then ((storagebarterref15_parts.f k a0_0 a0_1 a0_2 a0_3 a0_4 a0_5 a0_6 a0_7 a0_8 a0_9 a0_10).bind fun t171 => (some t171)) else (some false)) = some r := H
        have A16 := Aside0.mk A160
        clear A160
        by_cases c17 : t170 = true
        ·subst c17
         have H1 : ((storagebarterref15_parts.f k a0_0 a0_1 a0_2 a0_3 a0_4 a0_5 a0_6 a0_7 a0_8 a0_9 a0_10).bind fun t171 => (some t171)) = some r := by rw [if_pos rfl] at H; exact H
         clear H
         have H := H1
         clear H1
         replace H := Option.bind_eq_some_iff.mp H
         obtain ⟨t171, A180, H⟩ := H
         replace H : (some t171) = some r := H
         have A18 := Aside0.mk A180
         clear A180
         obtain rfl := Option.some.inj H
         go_enter Tryd.func34, Tryd.ntmps34
         go_wp2_with (first | ((with_reducible refine gate_dst (N := 1) rfl ?_); refine box_event ?hg (N := 1) ?hd (cs := #[.int .i64 a0_0, .int .i64 a0_1, .int .i64 a0_2, .int .i64 a0_3, .int .i64 a0_4, .int .i64 a0_5, .int .i64 a0_6, .int .i64 a0_7, .int .i64 a0_8, .int .i64 a0_9, .int .i64 a0_10]) (t := 39) ?hr ?_; (case hd => rfl); (case hg => rfl); (case hr => first | (go_simp; done) | (go_simp; rfl)); intro gb164 hg w19 hbox hb; have n0_ := Aside0.mk (below_step (by repeat (first | (with_reducible first | exact HB.out | apply below_alloc | apply pw_below_drewN | apply below_drew1) | exact HB.out)) hb); have n1_ := Aside0.mk (hbox); have n2_ := Aside0.mk ((by rw [hg]; exact (below_size (by repeat (first | (with_reducible first | exact HB.out | apply below_alloc | apply pw_below_drewN | apply below_drew1) | exact HB.out))) : w.heap.size ≤ gb164)); have n3_ := Aside0.mk ((by rw [hg]; exact (below_size (by repeat (first | (with_reducible first | exact HB.out | apply below_alloc | apply pw_below_drewN | apply below_drew1) | exact HB.out))) : w.heap.size ≤ gb164)); clear HB; have HB := n0_; have BK164 := n1_; have GW164 := n2_; have GE164 := n3_; clear n0_ n1_ n2_ n3_; clear hb hbox hg; have hcz20_0 : w19.cell? ⟨gb164, 0, none⟩ = some (.int .i64 a0_0) := (blk_cell BK164.out 0).trans rfl; have hcz20_1 : w19.cell? ⟨gb164, 1, none⟩ = some (.int .i64 a0_1) := (blk_cell BK164.out 1).trans rfl; have hcz20_2 : w19.cell? ⟨gb164, 2, none⟩ = some (.int .i64 a0_2) := (blk_cell BK164.out 2).trans rfl; have hcz20_3 : w19.cell? ⟨gb164, 3, none⟩ = some (.int .i64 a0_3) := (blk_cell BK164.out 3).trans rfl; have hcz20_4 : w19.cell? ⟨gb164, 4, none⟩ = some (.int .i64 a0_4) := (blk_cell BK164.out 4).trans rfl; have hcz20_5 : w19.cell? ⟨gb164, 5, none⟩ = some (.int .i64 a0_5) := (blk_cell BK164.out 5).trans rfl; have hcz20_6 : w19.cell? ⟨gb164, 6, none⟩ = some (.int .i64 a0_6) := (blk_cell BK164.out 6).trans rfl; have hcz20_7 : w19.cell? ⟨gb164, 7, none⟩ = some (.int .i64 a0_7) := (blk_cell BK164.out 7).trans rfl; have hcz20_8 : w19.cell? ⟨gb164, 8, none⟩ = some (.int .i64 a0_8) := (blk_cell BK164.out 8).trans rfl; have hcz20_9 : w19.cell? ⟨gb164, 9, none⟩ = some (.int .i64 a0_9) := (blk_cell BK164.out 9).trans rfl; have hcz20_10 : w19.cell? ⟨gb164, 10, none⟩ = some (.int .i64 a0_10) := (blk_cell BK164.out 10).trans rfl; have hfz20_0 := blk_frozen BK164.out 0; have hfz20_1 := blk_frozen BK164.out 1; have hfz20_2 := blk_frozen BK164.out 2; have hfz20_3 := blk_frozen BK164.out 3; have hfz20_4 := blk_frozen BK164.out 4; have hfz20_5 := blk_frozen BK164.out 5; have hfz20_6 := blk_frozen BK164.out 6; have hfz20_7 := blk_frozen BK164.out 7; have hfz20_8 := blk_frozen BK164.out 8; have hfz20_9 := blk_frozen BK164.out 9; have hfz20_10 := blk_frozen BK164.out 10) | ((with_reducible refine gate_callee (f := 30) rfl ?_); refine goesL_ (some 5) rfl rfl Tryd.func30 (by kernel_rfl) rfl #[.int .i64 a0_0, .int .i64 1, .int .i64 2147483646] rfl (by (try simp only [List.map_toArray, List.map_cons, List.map_nil]); first | done | rfl | (simp only [List.length_drop, List.length_take]; rfl)) ?_; (with_reducible refine (storagebarterref15_in.calls a0_0 1 2147483646 true _ A2.out).mono ?_); rintro e w' ⟨rfl, ⟨nd, rfl⟩⟩; refine ⟨_, rfl, ?_⟩) | (go_at_call 30; (with_reducible refine (storagebarterref15_in.calls a0_1 1 2147483646 true _ A4.out).mono ?_); rintro e w' ⟨rfl, ⟨nd, rfl⟩⟩) | (go_at_call 30; (with_reducible refine (storagebarterref15_in.calls a0_2 1 256 true _ A9.out).mono ?_); rintro e w' ⟨rfl, ⟨nd, rfl⟩⟩) | (go_at_call 30; (with_reducible refine (storagebarterref15_in.calls a0_3 0 2147483646 true _ A11.out).mono ?_); rintro e w' ⟨rfl, ⟨nd, rfl⟩⟩) | (go_at_call 30; (with_reducible refine (storagebarterref15_in.calls a0_4 0 1048576 true _ A14.out).mono ?_); rintro e w' ⟨rfl, ⟨nd, rfl⟩⟩) | (go_at_call 30; (with_reducible refine (storagebarterref15_in.calls a0_10 0 2147483646 true _ A16.out).mono ?_); rintro e w' ⟨rfl, ⟨nd, rfl⟩⟩) | (go_at_call 47; (with_reducible refine (storagebarterref15_parts.calls k a0_0 a0_1 a0_2 a0_3 a0_4 a0_5 a0_6 a0_7 a0_8 a0_9 a0_10 t171 _ A18.out).mono ?_); rintro e w21 ⟨rfl, hb⟩; have n0_ := Aside0.mk (blk_below (g := gb164) (o := .cells #[.int .i64 a0_0, .int .i64 a0_1, .int .i64 a0_2, .int .i64 a0_3, .int .i64 a0_4, .int .i64 a0_5, .int .i64 a0_6, .int .i64 a0_7, .int .i64 a0_8, .int .i64 a0_9, .int .i64 a0_10] 39 (0, 0)) (by (with_reducible repeat (first | refine blk_drewN ?_ _ | refine blk_drew ?_ | refine blk_alloc ?_ _)); exact BK164.out) hb); have n1_ := Aside0.mk (below_step (by repeat (first | (with_reducible first | exact HB.out | apply below_alloc | apply pw_below_drewN | apply below_drew1 | refine below_set ?_ GE164.out) | exact HB.out)) hb); clear BK164; clear HB; have BK164 := n0_; have HB := n1_; clear n0_ n1_; (try clear hb); (try clear hb2); (try clear hk); (try clear hi)))
         go_ret
         exact ⟨by first | rfl | (simp [errW_none, errW_some] <;> rfl) | (simp [*, errW_none, errW_some] <;> rfl), by repeat (first | (with_reducible first | exact HB.out | apply below_alloc | apply pw_below_drewN | apply below_drew1 | refine below_set ?_ GE164.out) | exact HB.out)⟩
        ·replace c17 := Bool.eq_false_iff.mpr c17
         subst c17
         have H1 : (some false) = some r := by rw [if_neg (show ¬ (false = true) by decide)] at H; exact H
         clear H
         have H := H1
         clear H1
         obtain rfl := Option.some.inj H
         go_enter Tryd.func34, Tryd.ntmps34
         go_wp2_with (first | ((with_reducible refine gate_dst (N := 1) rfl ?_); refine box_event ?hg (N := 1) ?hd (cs := #[.int .i64 a0_0, .int .i64 a0_1, .int .i64 a0_2, .int .i64 a0_3, .int .i64 a0_4, .int .i64 a0_5, .int .i64 a0_6, .int .i64 a0_7, .int .i64 a0_8, .int .i64 a0_9, .int .i64 a0_10]) (t := 39) ?hr ?_; (case hd => rfl); (case hg => rfl); (case hr => first | (go_simp; done) | (go_simp; rfl)); intro gb164 hg w22 hbox hb; have n0_ := Aside0.mk (below_step (by repeat (first | (with_reducible first | exact HB.out | apply below_alloc | apply pw_below_drewN | apply below_drew1) | exact HB.out)) hb); have n1_ := Aside0.mk (hbox); have n2_ := Aside0.mk ((by rw [hg]; exact (below_size (by repeat (first | (with_reducible first | exact HB.out | apply below_alloc | apply pw_below_drewN | apply below_drew1) | exact HB.out))) : w.heap.size ≤ gb164)); have n3_ := Aside0.mk ((by rw [hg]; exact (below_size (by repeat (first | (with_reducible first | exact HB.out | apply below_alloc | apply pw_below_drewN | apply below_drew1) | exact HB.out))) : w.heap.size ≤ gb164)); clear HB; have HB := n0_; have BK164 := n1_; have GW164 := n2_; have GE164 := n3_; clear n0_ n1_ n2_ n3_; clear hb hbox hg; have hcz23_0 : w22.cell? ⟨gb164, 0, none⟩ = some (.int .i64 a0_0) := (blk_cell BK164.out 0).trans rfl; have hcz23_1 : w22.cell? ⟨gb164, 1, none⟩ = some (.int .i64 a0_1) := (blk_cell BK164.out 1).trans rfl; have hcz23_2 : w22.cell? ⟨gb164, 2, none⟩ = some (.int .i64 a0_2) := (blk_cell BK164.out 2).trans rfl; have hcz23_3 : w22.cell? ⟨gb164, 3, none⟩ = some (.int .i64 a0_3) := (blk_cell BK164.out 3).trans rfl; have hcz23_4 : w22.cell? ⟨gb164, 4, none⟩ = some (.int .i64 a0_4) := (blk_cell BK164.out 4).trans rfl; have hcz23_5 : w22.cell? ⟨gb164, 5, none⟩ = some (.int .i64 a0_5) := (blk_cell BK164.out 5).trans rfl; have hcz23_6 : w22.cell? ⟨gb164, 6, none⟩ = some (.int .i64 a0_6) := (blk_cell BK164.out 6).trans rfl; have hcz23_7 : w22.cell? ⟨gb164, 7, none⟩ = some (.int .i64 a0_7) := (blk_cell BK164.out 7).trans rfl; have hcz23_8 : w22.cell? ⟨gb164, 8, none⟩ = some (.int .i64 a0_8) := (blk_cell BK164.out 8).trans rfl; have hcz23_9 : w22.cell? ⟨gb164, 9, none⟩ = some (.int .i64 a0_9) := (blk_cell BK164.out 9).trans rfl; have hcz23_10 : w22.cell? ⟨gb164, 10, none⟩ = some (.int .i64 a0_10) := (blk_cell BK164.out 10).trans rfl; have hfz23_0 := blk_frozen BK164.out 0; have hfz23_1 := blk_frozen BK164.out 1; have hfz23_2 := blk_frozen BK164.out 2; have hfz23_3 := blk_frozen BK164.out 3; have hfz23_4 := blk_frozen BK164.out 4; have hfz23_5 := blk_frozen BK164.out 5; have hfz23_6 := blk_frozen BK164.out 6; have hfz23_7 := blk_frozen BK164.out 7; have hfz23_8 := blk_frozen BK164.out 8; have hfz23_9 := blk_frozen BK164.out 9; have hfz23_10 := blk_frozen BK164.out 10) | ((with_reducible refine gate_callee (f := 30) rfl ?_); refine goesL_ (some 5) rfl rfl Tryd.func30 (by kernel_rfl) rfl #[.int .i64 a0_0, .int .i64 1, .int .i64 2147483646] rfl (by (try simp only [List.map_toArray, List.map_cons, List.map_nil]); first | done | rfl | (simp only [List.length_drop, List.length_take]; rfl)) ?_; (with_reducible refine (storagebarterref15_in.calls a0_0 1 2147483646 true _ A2.out).mono ?_); rintro e w' ⟨rfl, ⟨nd, rfl⟩⟩; refine ⟨_, rfl, ?_⟩) | (go_at_call 30; (with_reducible refine (storagebarterref15_in.calls a0_1 1 2147483646 true _ A4.out).mono ?_); rintro e w' ⟨rfl, ⟨nd, rfl⟩⟩) | (go_at_call 30; (with_reducible refine (storagebarterref15_in.calls a0_2 1 256 true _ A9.out).mono ?_); rintro e w' ⟨rfl, ⟨nd, rfl⟩⟩) | (go_at_call 30; (with_reducible refine (storagebarterref15_in.calls a0_3 0 2147483646 true _ A11.out).mono ?_); rintro e w' ⟨rfl, ⟨nd, rfl⟩⟩) | (go_at_call 30; (with_reducible refine (storagebarterref15_in.calls a0_4 0 1048576 true _ A14.out).mono ?_); rintro e w' ⟨rfl, ⟨nd, rfl⟩⟩) | (go_at_call 30; (with_reducible refine (storagebarterref15_in.calls a0_10 0 2147483646 false _ A16.out).mono ?_); rintro e w' ⟨rfl, ⟨nd, rfl⟩⟩))
         go_ret
         exact ⟨by first | rfl | (simp [errW_none, errW_some] <;> rfl) | (simp [*, errW_none, errW_some] <;> rfl), by repeat (first | (with_reducible first | exact HB.out | apply below_alloc | apply pw_below_drewN | apply below_drew1 | refine below_set ?_ GE164.out) | exact HB.out)⟩
       ·replace c15 := Bool.eq_false_iff.mpr c15
        subst c15
        have H1 : (some false) = some r := by rw [if_neg (show ¬ (false = true) by decide)] at H; exact H
        clear H
        have H := H1
        clear H1
        obtain rfl := Option.some.inj H
        go_enter Tryd.func34, Tryd.ntmps34
        go_wp2_with (first | ((with_reducible refine gate_dst (N := 1) rfl ?_); refine box_event ?hg (N := 1) ?hd (cs := #[.int .i64 a0_0, .int .i64 a0_1, .int .i64 a0_2, .int .i64 a0_3, .int .i64 a0_4, .int .i64 a0_5, .int .i64 a0_6, .int .i64 a0_7, .int .i64 a0_8, .int .i64 a0_9, .int .i64 a0_10]) (t := 39) ?hr ?_; (case hd => rfl); (case hg => rfl); (case hr => first | (go_simp; done) | (go_simp; rfl)); intro gb164 hg w24 hbox hb; have n0_ := Aside0.mk (below_step (by repeat (first | (with_reducible first | exact HB.out | apply below_alloc | apply pw_below_drewN | apply below_drew1) | exact HB.out)) hb); have n1_ := Aside0.mk (hbox); have n2_ := Aside0.mk ((by rw [hg]; exact (below_size (by repeat (first | (with_reducible first | exact HB.out | apply below_alloc | apply pw_below_drewN | apply below_drew1) | exact HB.out))) : w.heap.size ≤ gb164)); have n3_ := Aside0.mk ((by rw [hg]; exact (below_size (by repeat (first | (with_reducible first | exact HB.out | apply below_alloc | apply pw_below_drewN | apply below_drew1) | exact HB.out))) : w.heap.size ≤ gb164)); clear HB; have HB := n0_; have BK164 := n1_; have GW164 := n2_; have GE164 := n3_; clear n0_ n1_ n2_ n3_; clear hb hbox hg; have hcz25_0 : w24.cell? ⟨gb164, 0, none⟩ = some (.int .i64 a0_0) := (blk_cell BK164.out 0).trans rfl; have hcz25_1 : w24.cell? ⟨gb164, 1, none⟩ = some (.int .i64 a0_1) := (blk_cell BK164.out 1).trans rfl; have hcz25_2 : w24.cell? ⟨gb164, 2, none⟩ = some (.int .i64 a0_2) := (blk_cell BK164.out 2).trans rfl; have hcz25_3 : w24.cell? ⟨gb164, 3, none⟩ = some (.int .i64 a0_3) := (blk_cell BK164.out 3).trans rfl; have hcz25_4 : w24.cell? ⟨gb164, 4, none⟩ = some (.int .i64 a0_4) := (blk_cell BK164.out 4).trans rfl; have hcz25_5 : w24.cell? ⟨gb164, 5, none⟩ = some (.int .i64 a0_5) := (blk_cell BK164.out 5).trans rfl; have hcz25_6 : w24.cell? ⟨gb164, 6, none⟩ = some (.int .i64 a0_6) := (blk_cell BK164.out 6).trans rfl; have hcz25_7 : w24.cell? ⟨gb164, 7, none⟩ = some (.int .i64 a0_7) := (blk_cell BK164.out 7).trans rfl; have hcz25_8 : w24.cell? ⟨gb164, 8, none⟩ = some (.int .i64 a0_8) := (blk_cell BK164.out 8).trans rfl; have hcz25_9 : w24.cell? ⟨gb164, 9, none⟩ = some (.int .i64 a0_9) := (blk_cell BK164.out 9).trans rfl; have hcz25_10 : w24.cell? ⟨gb164, 10, none⟩ = some (.int .i64 a0_10) := (blk_cell BK164.out 10).trans rfl; have hfz25_0 := blk_frozen BK164.out 0; have hfz25_1 := blk_frozen BK164.out 1; have hfz25_2 := blk_frozen BK164.out 2; have hfz25_3 := blk_frozen BK164.out 3; have hfz25_4 := blk_frozen BK164.out 4; have hfz25_5 := blk_frozen BK164.out 5; have hfz25_6 := blk_frozen BK164.out 6; have hfz25_7 := blk_frozen BK164.out 7; have hfz25_8 := blk_frozen BK164.out 8; have hfz25_9 := blk_frozen BK164.out 9; have hfz25_10 := blk_frozen BK164.out 10) | ((with_reducible refine gate_callee (f := 30) rfl ?_); refine goesL_ (some 5) rfl rfl Tryd.func30 (by kernel_rfl) rfl #[.int .i64 a0_0, .int .i64 1, .int .i64 2147483646] rfl (by (try simp only [List.map_toArray, List.map_cons, List.map_nil]); first | done | rfl | (simp only [List.length_drop, List.length_take]; rfl)) ?_; (with_reducible refine (storagebarterref15_in.calls a0_0 1 2147483646 true _ A2.out).mono ?_); rintro e w' ⟨rfl, ⟨nd, rfl⟩⟩; refine ⟨_, rfl, ?_⟩) | (go_at_call 30; (with_reducible refine (storagebarterref15_in.calls a0_1 1 2147483646 true _ A4.out).mono ?_); rintro e w' ⟨rfl, ⟨nd, rfl⟩⟩) | (go_at_call 30; (with_reducible refine (storagebarterref15_in.calls a0_2 1 256 true _ A9.out).mono ?_); rintro e w' ⟨rfl, ⟨nd, rfl⟩⟩) | (go_at_call 30; (with_reducible refine (storagebarterref15_in.calls a0_3 0 2147483646 true _ A11.out).mono ?_); rintro e w' ⟨rfl, ⟨nd, rfl⟩⟩) | (go_at_call 30; (with_reducible refine (storagebarterref15_in.calls a0_4 0 1048576 false _ A14.out).mono ?_); rintro e w' ⟨rfl, ⟨nd, rfl⟩⟩))
        go_ret
        exact ⟨by first | rfl | (simp [errW_none, errW_some] <;> rfl) | (simp [*, errW_none, errW_some] <;> rfl), by repeat (first | (with_reducible first | exact HB.out | apply below_alloc | apply pw_below_drewN | apply below_drew1 | refine below_set ?_ GE164.out) | exact HB.out)⟩
      ·rw [if_neg c13] at H
       have c13b0 : decide (1 < a0_2) = false := decide_eq_false c13
       clear c13
       by_cases c26 : a0_3 = 0
       ·rw [if_pos c26] at H
        have c26b0 : (a0_3 == 0) = true := beq_iff_eq.mpr c26
        have c26b1 : (a0_3 != 0) = false := bne_eq_false_iff_eq.mpr c26
        clear c26
        replace H := Option.bind_eq_some_iff.mp H
        obtain ⟨t172, A270, H⟩ := H
        replace H : (if t172 = true then ((storagebarterref15_in.f a0_10 0 2147483646).bind fun t173 => (if t173 = true then ((storagebarterref15_parts.f k a0_0 a0_1 a0_2 a0_3 a0_4 a0_5 a0_6 a0_7 a0_8 a0_9 a0_10).bind fun t174 => (some t174)) else (some false))) else (some false)) = some r := H
        have A27 := Aside0.mk A270
        clear A270
        by_cases c28 : t172 = true
        ·subst c28
         have H1 : ((storagebarterref15_in.f a0_10 0 2147483646).bind fun t173 => (if t173 = true then ((storagebarterref15_parts.f k a0_0 a0_1 a0_2 a0_3 a0_4 a0_5 a0_6 a0_7 a0_8 a0_9 a0_10).bind fun t174 => (some t174)) else (some false))) = some r := by rw [if_pos rfl] at H; exact H
         clear H
         have H := H1
         clear H1
         replace H := Option.bind_eq_some_iff.mp H
         obtain ⟨t173, A290, H⟩ := H
         replace H : (if t173 = true then ((storagebarterref15_parts.f k a0_0 a0_1 a0_2 a0_3 a0_4 a0_5 a0_6 a0_7 a0_8 a0_9 a0_10).bind fun t174 => (some t174)) else (some false)) = some r := H
         have A29 := Aside0.mk A290
         clear A290
         by_cases c30 : t173 = true
         ·subst c30
          have H1 : ((storagebarterref15_parts.f k a0_0 a0_1 a0_2 a0_3 a0_4 a0_5 a0_6 a0_7 a0_8 a0_9 a0_10).bind fun t174 => (some t174)) = some r := by rw [if_pos rfl] at H; exact H
          clear H
          have H := H1
          clear H1
          replace H := Option.bind_eq_some_iff.mp H
          obtain ⟨t174, A310, H⟩ := H
          replace H : (some t174) = some r := H
          have A31 := Aside0.mk A310
          clear A310
          obtain rfl := Option.some.inj H
          go_enter Tryd.func34, Tryd.ntmps34
          go_wp2_with (first | ((with_reducible refine gate_dst (N := 1) rfl ?_); refine box_event ?hg (N := 1) ?hd (cs := #[.int .i64 a0_0, .int .i64 a0_1, .int .i64 a0_2, .int .i64 a0_3, .int .i64 a0_4, .int .i64 a0_5, .int .i64 a0_6, .int .i64 a0_7, .int .i64 a0_8, .int .i64 a0_9, .int .i64 a0_10]) (t := 39) ?hr ?_; (case hd => rfl); (case hg => rfl); (case hr => first | (go_simp; done) | (go_simp; rfl)); intro gb164 hg w32 hbox hb; have n0_ := Aside0.mk (below_step (by repeat (first | (with_reducible first | exact HB.out | apply below_alloc | apply pw_below_drewN | apply below_drew1) | exact HB.out)) hb); have n1_ := Aside0.mk (hbox); have n2_ := Aside0.mk ((by rw [hg]; exact (below_size (by repeat (first | (with_reducible first | exact HB.out | apply below_alloc | apply pw_below_drewN | apply below_drew1) | exact HB.out))) : w.heap.size ≤ gb164)); have n3_ := Aside0.mk ((by rw [hg]; exact (below_size (by repeat (first | (with_reducible first | exact HB.out | apply below_alloc | apply pw_below_drewN | apply below_drew1) | exact HB.out))) : w.heap.size ≤ gb164)); clear HB; have HB := n0_; have BK164 := n1_; have GW164 := n2_; have GE164 := n3_; clear n0_ n1_ n2_ n3_; clear hb hbox hg; have hcz33_0 : w32.cell? ⟨gb164, 0, none⟩ = some (.int .i64 a0_0) := (blk_cell BK164.out 0).trans rfl; have hcz33_1 : w32.cell? ⟨gb164, 1, none⟩ = some (.int .i64 a0_1) := (blk_cell BK164.out 1).trans rfl; have hcz33_2 : w32.cell? ⟨gb164, 2, none⟩ = some (.int .i64 a0_2) := (blk_cell BK164.out 2).trans rfl; have hcz33_3 : w32.cell? ⟨gb164, 3, none⟩ = some (.int .i64 a0_3) := (blk_cell BK164.out 3).trans rfl; have hcz33_4 : w32.cell? ⟨gb164, 4, none⟩ = some (.int .i64 a0_4) := (blk_cell BK164.out 4).trans rfl; have hcz33_5 : w32.cell? ⟨gb164, 5, none⟩ = some (.int .i64 a0_5) := (blk_cell BK164.out 5).trans rfl; have hcz33_6 : w32.cell? ⟨gb164, 6, none⟩ = some (.int .i64 a0_6) := (blk_cell BK164.out 6).trans rfl; have hcz33_7 : w32.cell? ⟨gb164, 7, none⟩ = some (.int .i64 a0_7) := (blk_cell BK164.out 7).trans rfl; have hcz33_8 : w32.cell? ⟨gb164, 8, none⟩ = some (.int .i64 a0_8) := (blk_cell BK164.out 8).trans rfl; have hcz33_9 : w32.cell? ⟨gb164, 9, none⟩ = some (.int .i64 a0_9) := (blk_cell BK164.out 9).trans rfl; have hcz33_10 : w32.cell? ⟨gb164, 10, none⟩ = some (.int .i64 a0_10) := (blk_cell BK164.out 10).trans rfl; have hfz33_0 := blk_frozen BK164.out 0; have hfz33_1 := blk_frozen BK164.out 1; have hfz33_2 := blk_frozen BK164.out 2; have hfz33_3 := blk_frozen BK164.out 3; have hfz33_4 := blk_frozen BK164.out 4; have hfz33_5 := blk_frozen BK164.out 5; have hfz33_6 := blk_frozen BK164.out 6; have hfz33_7 := blk_frozen BK164.out 7; have hfz33_8 := blk_frozen BK164.out 8; have hfz33_9 := blk_frozen BK164.out 9; have hfz33_10 := blk_frozen BK164.out 10) | ((with_reducible refine gate_callee (f := 30) rfl ?_); refine goesL_ (some 5) rfl rfl Tryd.func30 (by kernel_rfl) rfl #[.int .i64 a0_0, .int .i64 1, .int .i64 2147483646] rfl (by (try simp only [List.map_toArray, List.map_cons, List.map_nil]); first | done | rfl | (simp only [List.length_drop, List.length_take]; rfl)) ?_; (with_reducible refine (storagebarterref15_in.calls a0_0 1 2147483646 true _ A2.out).mono ?_); rintro e w' ⟨rfl, ⟨nd, rfl⟩⟩; refine ⟨_, rfl, ?_⟩) | (go_at_call 30; (with_reducible refine (storagebarterref15_in.calls a0_1 1 2147483646 true _ A4.out).mono ?_); rintro e w' ⟨rfl, ⟨nd, rfl⟩⟩) | (go_at_call 30; (with_reducible refine (storagebarterref15_in.calls a0_2 1 256 true _ A9.out).mono ?_); rintro e w' ⟨rfl, ⟨nd, rfl⟩⟩) | (go_at_call 30; (with_reducible refine (storagebarterref15_in.calls a0_3 0 2147483646 true _ A11.out).mono ?_); rintro e w' ⟨rfl, ⟨nd, rfl⟩⟩) | (go_at_call 30; (with_reducible refine (storagebarterref15_in.calls a0_4 0 1048576 true _ A27.out).mono ?_); rintro e w' ⟨rfl, ⟨nd, rfl⟩⟩) | (go_at_call 30; (with_reducible refine (storagebarterref15_in.calls a0_10 0 2147483646 true _ A29.out).mono ?_); rintro e w' ⟨rfl, ⟨nd, rfl⟩⟩) | (go_at_call 47; (with_reducible refine (storagebarterref15_parts.calls k a0_0 a0_1 a0_2 a0_3 a0_4 a0_5 a0_6 a0_7 a0_8 a0_9 a0_10 t174 _ A31.out).mono ?_); rintro e w34 ⟨rfl, hb⟩; have n0_ := Aside0.mk (blk_below (g := gb164) (o := .cells #[.int .i64 a0_0, .int .i64 a0_1, .int .i64 a0_2, .int .i64 a0_3, .int .i64 a0_4, .int .i64 a0_5, .int .i64 a0_6, .int .i64 a0_7, .int .i64 a0_8, .int .i64 a0_9, .int .i64 a0_10] 39 (0, 0)) (by (with_reducible repeat (first | refine blk_drewN ?_ _ | refine blk_drew ?_ | refine blk_alloc ?_ _)); exact BK164.out) hb); have n1_ := Aside0.mk (below_step (by repeat (first | (with_reducible first | exact HB.out | apply below_alloc | apply pw_below_drewN | apply below_drew1 | refine below_set ?_ GE164.out) | exact HB.out)) hb); clear BK164; clear HB; have BK164 := n0_; have HB := n1_; clear n0_ n1_; (try clear hb); (try clear hb2); (try clear hk); (try clear hi)))
          go_ret
          exact ⟨by first | rfl | (simp [errW_none, errW_some] <;> rfl) | (simp [*, errW_none, errW_some] <;> rfl), by repeat (first | (with_reducible first | exact HB.out | apply below_alloc | apply pw_below_drewN | apply below_drew1 | refine below_set ?_ GE164.out) | exact HB.out)⟩
         ·replace c30 := Bool.eq_false_iff.mpr c30
          subst c30
          have H1 : (some false) = some r := by rw [if_neg (show ¬ (false = true) by decide)] at H; exact H
          clear H
          have H := H1
          clear H1
          obtain rfl := Option.some.inj H
          go_enter Tryd.func34, Tryd.ntmps34
          go_wp2_with (first | ((with_reducible refine gate_dst (N := 1) rfl ?_); refine box_event ?hg (N := 1) ?hd (cs := #[.int .i64 a0_0, .int .i64 a0_1, .int .i64 a0_2, .int .i64 a0_3, .int .i64 a0_4, .int .i64 a0_5, .int .i64 a0_6, .int .i64 a0_7, .int .i64 a0_8, .int .i64 a0_9, .int .i64 a0_10]) (t := 39) ?hr ?_; (case hd => rfl); (case hg => rfl); (case hr => first | (go_simp; done) | (go_simp; rfl)); intro gb164 hg w35 hbox hb; have n0_ := Aside0.mk (below_step (by repeat (first | (with_reducible first | exact HB.out | apply below_alloc | apply pw_below_drewN | apply below_drew1) | exact HB.out)) hb); have n1_ := Aside0.mk (hbox); have n2_ := Aside0.mk ((by rw [hg]; exact (below_size (by repeat (first | (with_reducible first | exact HB.out | apply below_alloc | apply pw_below_drewN | apply below_drew1) | exact HB.out))) : w.heap.size ≤ gb164)); have n3_ := Aside0.mk ((by rw [hg]; exact (below_size (by repeat (first | (with_reducible first | exact HB.out | apply below_alloc | apply pw_below_drewN | apply below_drew1) | exact HB.out))) : w.heap.size ≤ gb164)); clear HB; have HB := n0_; have BK164 := n1_; have GW164 := n2_; have GE164 := n3_; clear n0_ n1_ n2_ n3_; clear hb hbox hg; have hcz36_0 : w35.cell? ⟨gb164, 0, none⟩ = some (.int .i64 a0_0) := (blk_cell BK164.out 0).trans rfl; have hcz36_1 : w35.cell? ⟨gb164, 1, none⟩ = some (.int .i64 a0_1) := (blk_cell BK164.out 1).trans rfl; have hcz36_2 : w35.cell? ⟨gb164, 2, none⟩ = some (.int .i64 a0_2) := (blk_cell BK164.out 2).trans rfl; have hcz36_3 : w35.cell? ⟨gb164, 3, none⟩ = some (.int .i64 a0_3) := (blk_cell BK164.out 3).trans rfl; have hcz36_4 : w35.cell? ⟨gb164, 4, none⟩ = some (.int .i64 a0_4) := (blk_cell BK164.out 4).trans rfl; have hcz36_5 : w35.cell? ⟨gb164, 5, none⟩ = some (.int .i64 a0_5) := (blk_cell BK164.out 5).trans rfl; have hcz36_6 : w35.cell? ⟨gb164, 6, none⟩ = some (.int .i64 a0_6) := (blk_cell BK164.out 6).trans rfl; have hcz36_7 : w35.cell? ⟨gb164, 7, none⟩ = some (.int .i64 a0_7) := (blk_cell BK164.out 7).trans rfl; have hcz36_8 : w35.cell? ⟨gb164, 8, none⟩ = some (.int .i64 a0_8) := (blk_cell BK164.out 8).trans rfl; have hcz36_9 : w35.cell? ⟨gb164, 9, none⟩ = some (.int .i64 a0_9) := (blk_cell BK164.out 9).trans rfl; have hcz36_10 : w35.cell? ⟨gb164, 10, none⟩ = some (.int .i64 a0_10) := (blk_cell BK164.out 10).trans rfl; have hfz36_0 := blk_frozen BK164.out 0; have hfz36_1 := blk_frozen BK164.out 1; have hfz36_2 := blk_frozen BK164.out 2; have hfz36_3 := blk_frozen BK164.out 3; have hfz36_4 := blk_frozen BK164.out 4; have hfz36_5 := blk_frozen BK164.out 5; have hfz36_6 := blk_frozen BK164.out 6; have hfz36_7 := blk_frozen BK164.out 7; have hfz36_8 := blk_frozen BK164.out 8; have hfz36_9 := blk_frozen BK164.out 9; have hfz36_10 := blk_frozen BK164.out 10) | ((with_reducible refine gate_callee (f := 30) rfl ?_); refine goesL_ (some 5) rfl rfl Tryd.func30 (by kernel_rfl) rfl #[.int .i64 a0_0, .int .i64 1, .int .i64 2147483646] rfl (by (try simp only [List.map_toArray, List.map_cons, List.map_nil]); first | done | rfl | (simp only [List.length_drop, List.length_take]; rfl)) ?_; (with_reducible refine (storagebarterref15_in.calls a0_0 1 2147483646 true _ A2.out).mono ?_); rintro e w' ⟨rfl, ⟨nd, rfl⟩⟩; refine ⟨_, rfl, ?_⟩) | (go_at_call 30; (with_reducible refine (storagebarterref15_in.calls a0_1 1 2147483646 true _ A4.out).mono ?_); rintro e w' ⟨rfl, ⟨nd, rfl⟩⟩) | (go_at_call 30; (with_reducible refine (storagebarterref15_in.calls a0_2 1 256 true _ A9.out).mono ?_); rintro e w' ⟨rfl, ⟨nd, rfl⟩⟩) | (go_at_call 30; (with_reducible refine (storagebarterref15_in.calls a0_3 0 2147483646 true _ A11.out).mono ?_); rintro e w' ⟨rfl, ⟨nd, rfl⟩⟩) | (go_at_call 30; (with_reducible refine (storagebarterref15_in.calls a0_4 0 1048576 true _ A27.out).mono ?_); rintro e w' ⟨rfl, ⟨nd, rfl⟩⟩) | (go_at_call 30; (with_reducible refine (storagebarterref15_in.calls a0_10 0 2147483646 false _ A29.out).mono ?_); rintro e w' ⟨rfl, ⟨nd, rfl⟩⟩))
          go_ret
          exact ⟨by first | rfl | (simp [errW_none, errW_some] <;> rfl) | (simp [*, errW_none, errW_some] <;> rfl), by repeat (first | (with_reducible first | exact HB.out | apply below_alloc | apply pw_below_drewN | apply below_drew1 | refine below_set ?_ GE164.out) | exact HB.out)⟩
        ·replace c28 := Bool.eq_false_iff.mpr c28
         subst c28
         have H1 : (some false) = some r := by rw [if_neg (show ¬ (false = true) by decide)] at H; exact H
         clear H
         have H := H1
         clear H1
         obtain rfl := Option.some.inj H
         go_enter Tryd.func34, Tryd.ntmps34
         go_wp2_with (first | ((with_reducible refine gate_dst (N := 1) rfl ?_); refine box_event ?hg (N := 1) ?hd (cs := #[.int .i64 a0_0, .int .i64 a0_1, .int .i64 a0_2, .int .i64 a0_3, .int .i64 a0_4, .int .i64 a0_5, .int .i64 a0_6, .int .i64 a0_7, .int .i64 a0_8, .int .i64 a0_9, .int .i64 a0_10]) (t := 39) ?hr ?_; (case hd => rfl); (case hg => rfl); (case hr => first | (go_simp; done) | (go_simp; rfl)); intro gb164 hg w37 hbox hb; have n0_ := Aside0.mk (below_step (by repeat (first | (with_reducible first | exact HB.out | apply below_alloc | apply pw_below_drewN | apply below_drew1) | exact HB.out)) hb); have n1_ := Aside0.mk (hbox); have n2_ := Aside0.mk ((by rw [hg]; exact (below_size (by repeat (first | (with_reducible first | exact HB.out | apply below_alloc | apply pw_below_drewN | apply below_drew1) | exact HB.out))) : w.heap.size ≤ gb164)); have n3_ := Aside0.mk ((by rw [hg]; exact (below_size (by repeat (first | (with_reducible first | exact HB.out | apply below_alloc | apply pw_below_drewN | apply below_drew1) | exact HB.out))) : w.heap.size ≤ gb164)); clear HB; have HB := n0_; have BK164 := n1_; have GW164 := n2_; have GE164 := n3_; clear n0_ n1_ n2_ n3_; clear hb hbox hg; have hcz38_0 : w37.cell? ⟨gb164, 0, none⟩ = some (.int .i64 a0_0) := (blk_cell BK164.out 0).trans rfl; have hcz38_1 : w37.cell? ⟨gb164, 1, none⟩ = some (.int .i64 a0_1) := (blk_cell BK164.out 1).trans rfl; have hcz38_2 : w37.cell? ⟨gb164, 2, none⟩ = some (.int .i64 a0_2) := (blk_cell BK164.out 2).trans rfl; have hcz38_3 : w37.cell? ⟨gb164, 3, none⟩ = some (.int .i64 a0_3) := (blk_cell BK164.out 3).trans rfl; have hcz38_4 : w37.cell? ⟨gb164, 4, none⟩ = some (.int .i64 a0_4) := (blk_cell BK164.out 4).trans rfl; have hcz38_5 : w37.cell? ⟨gb164, 5, none⟩ = some (.int .i64 a0_5) := (blk_cell BK164.out 5).trans rfl; have hcz38_6 : w37.cell? ⟨gb164, 6, none⟩ = some (.int .i64 a0_6) := (blk_cell BK164.out 6).trans rfl; have hcz38_7 : w37.cell? ⟨gb164, 7, none⟩ = some (.int .i64 a0_7) := (blk_cell BK164.out 7).trans rfl; have hcz38_8 : w37.cell? ⟨gb164, 8, none⟩ = some (.int .i64 a0_8) := (blk_cell BK164.out 8).trans rfl; have hcz38_9 : w37.cell? ⟨gb164, 9, none⟩ = some (.int .i64 a0_9) := (blk_cell BK164.out 9).trans rfl; have hcz38_10 : w37.cell? ⟨gb164, 10, none⟩ = some (.int .i64 a0_10) := (blk_cell BK164.out 10).trans rfl; have hfz38_0 := blk_frozen BK164.out 0; have hfz38_1 := blk_frozen BK164.out 1; have hfz38_2 := blk_frozen BK164.out 2; have hfz38_3 := blk_frozen BK164.out 3; have hfz38_4 := blk_frozen BK164.out 4; have hfz38_5 := blk_frozen BK164.out 5; have hfz38_6 := blk_frozen BK164.out 6; have hfz38_7 := blk_frozen BK164.out 7; have hfz38_8 := blk_frozen BK164.out 8; have hfz38_9 := blk_frozen BK164.out 9; have hfz38_10 := blk_frozen BK164.out 10) | ((with_reducible refine gate_callee (f := 30) rfl ?_); refine goesL_ (some 5) rfl rfl Tryd.func30 (by kernel_rfl) rfl #[.int .i64 a0_0, .int .i64 1, .int .i64 2147483646] rfl (by (try simp only [List.map_toArray, List.map_cons, List.map_nil]); first | done | rfl | (simp only [List.length_drop, List.length_take]; rfl)) ?_; (with_reducible refine (storagebarterref15_in.calls a0_0 1 2147483646 true _ A2.out).mono ?_); rintro e w' ⟨rfl, ⟨nd, rfl⟩⟩; refine ⟨_, rfl, ?_⟩) | (go_at_call 30; (with_reducible refine (storagebarterref15_in.calls a0_1 1 2147483646 true _ A4.out).mono ?_); rintro e w' ⟨rfl, ⟨nd, rfl⟩⟩) | (go_at_call 30; (with_reducible refine (storagebarterref15_in.calls a0_2 1 256 true _ A9.out).mono ?_); rintro e w' ⟨rfl, ⟨nd, rfl⟩⟩) | (go_at_call 30; (with_reducible refine (storagebarterref15_in.calls a0_3 0 2147483646 true _ A11.out).mono ?_); rintro e w' ⟨rfl, ⟨nd, rfl⟩⟩) | (go_at_call 30; (with_reducible refine (storagebarterref15_in.calls a0_4 0 1048576 false _ A27.out).mono ?_); rintro e w' ⟨rfl, ⟨nd, rfl⟩⟩))
         go_ret
         exact ⟨by first | rfl | (simp [errW_none, errW_some] <;> rfl) | (simp [*, errW_none, errW_some] <;> rfl), by repeat (first | (with_reducible first | exact HB.out | apply below_alloc | apply pw_below_drewN | apply below_drew1 | refine below_set ?_ GE164.out) | exact HB.out)⟩
       ·rw [if_neg c26] at H
        have c26b0 : (a0_3 == 0) = false := beq_eq_false_iff_ne.mpr c26
        have c26b1 : (a0_3 != 0) = true := bne_iff_ne.mpr c26
        obtain rfl := Option.some.inj H
        go_enter Tryd.func34, Tryd.ntmps34
        go_wp2_with (first | ((with_reducible refine gate_dst (N := 1) rfl ?_); refine box_event ?hg (N := 1) ?hd (cs := #[.int .i64 a0_0, .int .i64 a0_1, .int .i64 a0_2, .int .i64 a0_3, .int .i64 a0_4, .int .i64 a0_5, .int .i64 a0_6, .int .i64 a0_7, .int .i64 a0_8, .int .i64 a0_9, .int .i64 a0_10]) (t := 39) ?hr ?_; (case hd => rfl); (case hg => rfl); (case hr => first | (go_simp; done) | (go_simp; rfl)); intro gb164 hg w39 hbox hb; have n0_ := Aside0.mk (below_step (by repeat (first | (with_reducible first | exact HB.out | apply below_alloc | apply pw_below_drewN | apply below_drew1) | exact HB.out)) hb); have n1_ := Aside0.mk (hbox); have n2_ := Aside0.mk ((by rw [hg]; exact (below_size (by repeat (first | (with_reducible first | exact HB.out | apply below_alloc | apply pw_below_drewN | apply below_drew1) | exact HB.out))) : w.heap.size ≤ gb164)); have n3_ := Aside0.mk ((by rw [hg]; exact (below_size (by repeat (first | (with_reducible first | exact HB.out | apply below_alloc | apply pw_below_drewN | apply below_drew1) | exact HB.out))) : w.heap.size ≤ gb164)); clear HB; have HB := n0_; have BK164 := n1_; have GW164 := n2_; have GE164 := n3_; clear n0_ n1_ n2_ n3_; clear hb hbox hg; have hcz40_0 : w39.cell? ⟨gb164, 0, none⟩ = some (.int .i64 a0_0) := (blk_cell BK164.out 0).trans rfl; have hcz40_1 : w39.cell? ⟨gb164, 1, none⟩ = some (.int .i64 a0_1) := (blk_cell BK164.out 1).trans rfl; have hcz40_2 : w39.cell? ⟨gb164, 2, none⟩ = some (.int .i64 a0_2) := (blk_cell BK164.out 2).trans rfl; have hcz40_3 : w39.cell? ⟨gb164, 3, none⟩ = some (.int .i64 a0_3) := (blk_cell BK164.out 3).trans rfl; have hcz40_4 : w39.cell? ⟨gb164, 4, none⟩ = some (.int .i64 a0_4) := (blk_cell BK164.out 4).trans rfl; have hcz40_5 : w39.cell? ⟨gb164, 5, none⟩ = some (.int .i64 a0_5) := (blk_cell BK164.out 5).trans rfl; have hcz40_6 : w39.cell? ⟨gb164, 6, none⟩ = some (.int .i64 a0_6) := (blk_cell BK164.out 6).trans rfl; have hcz40_7 : w39.cell? ⟨gb164, 7, none⟩ = some (.int .i64 a0_7) := (blk_cell BK164.out 7).trans rfl; have hcz40_8 : w39.cell? ⟨gb164, 8, none⟩ = some (.int .i64 a0_8) := (blk_cell BK164.out 8).trans rfl; have hcz40_9 : w39.cell? ⟨gb164, 9, none⟩ = some (.int .i64 a0_9) := (blk_cell BK164.out 9).trans rfl; have hcz40_10 : w39.cell? ⟨gb164, 10, none⟩ = some (.int .i64 a0_10) := (blk_cell BK164.out 10).trans rfl; have hfz40_0 := blk_frozen BK164.out 0; have hfz40_1 := blk_frozen BK164.out 1; have hfz40_2 := blk_frozen BK164.out 2; have hfz40_3 := blk_frozen BK164.out 3; have hfz40_4 := blk_frozen BK164.out 4; have hfz40_5 := blk_frozen BK164.out 5; have hfz40_6 := blk_frozen BK164.out 6; have hfz40_7 := blk_frozen BK164.out 7; have hfz40_8 := blk_frozen BK164.out 8; have hfz40_9 := blk_frozen BK164.out 9; have hfz40_10 := blk_frozen BK164.out 10) | ((with_reducible refine gate_callee (f := 30) rfl ?_); refine goesL_ (some 5) rfl rfl Tryd.func30 (by kernel_rfl) rfl #[.int .i64 a0_0, .int .i64 1, .int .i64 2147483646] rfl (by (try simp only [List.map_toArray, List.map_cons, List.map_nil]); first | done | rfl | (simp only [List.length_drop, List.length_take]; rfl)) ?_; (with_reducible refine (storagebarterref15_in.calls a0_0 1 2147483646 true _ A2.out).mono ?_); rintro e w' ⟨rfl, ⟨nd, rfl⟩⟩; refine ⟨_, rfl, ?_⟩) | (go_at_call 30; (with_reducible refine (storagebarterref15_in.calls a0_1 1 2147483646 true _ A4.out).mono ?_); rintro e w' ⟨rfl, ⟨nd, rfl⟩⟩) | (go_at_call 30; (with_reducible refine (storagebarterref15_in.calls a0_2 1 256 true _ A9.out).mono ?_); rintro e w' ⟨rfl, ⟨nd, rfl⟩⟩) | (go_at_call 30; (with_reducible refine (storagebarterref15_in.calls a0_3 0 2147483646 true _ A11.out).mono ?_); rintro e w' ⟨rfl, ⟨nd, rfl⟩⟩))
        go_ret
        exact ⟨by first | rfl | (simp [errW_none, errW_some] <;> rfl) | (simp [*, errW_none, errW_some] <;> rfl), by repeat (first | (with_reducible first | exact HB.out | apply below_alloc | apply pw_below_drewN | apply below_drew1 | refine below_set ?_ GE164.out) | exact HB.out)⟩
     ·replace c12 := Bool.eq_false_iff.mpr c12
      subst c12
      have H1 : (some false) = some r := by rw [if_neg (show ¬ (false = true) by decide)] at H; exact H
      clear H
      have H := H1
      clear H1
      obtain rfl := Option.some.inj H
      go_enter Tryd.func34, Tryd.ntmps34
      go_wp2_with (first | ((with_reducible refine gate_dst (N := 1) rfl ?_); refine box_event ?hg (N := 1) ?hd (cs := #[.int .i64 a0_0, .int .i64 a0_1, .int .i64 a0_2, .int .i64 a0_3, .int .i64 a0_4, .int .i64 a0_5, .int .i64 a0_6, .int .i64 a0_7, .int .i64 a0_8, .int .i64 a0_9, .int .i64 a0_10]) (t := 39) ?hr ?_; (case hd => rfl); (case hg => rfl); (case hr => first | (go_simp; done) | (go_simp; rfl)); intro gb164 hg w41 hbox hb; have n0_ := Aside0.mk (below_step (by repeat (first | (with_reducible first | exact HB.out | apply below_alloc | apply pw_below_drewN | apply below_drew1) | exact HB.out)) hb); have n1_ := Aside0.mk (hbox); have n2_ := Aside0.mk ((by rw [hg]; exact (below_size (by repeat (first | (with_reducible first | exact HB.out | apply below_alloc | apply pw_below_drewN | apply below_drew1) | exact HB.out))) : w.heap.size ≤ gb164)); have n3_ := Aside0.mk ((by rw [hg]; exact (below_size (by repeat (first | (with_reducible first | exact HB.out | apply below_alloc | apply pw_below_drewN | apply below_drew1) | exact HB.out))) : w.heap.size ≤ gb164)); clear HB; have HB := n0_; have BK164 := n1_; have GW164 := n2_; have GE164 := n3_; clear n0_ n1_ n2_ n3_; clear hb hbox hg; have hcz42_0 : w41.cell? ⟨gb164, 0, none⟩ = some (.int .i64 a0_0) := (blk_cell BK164.out 0).trans rfl; have hcz42_1 : w41.cell? ⟨gb164, 1, none⟩ = some (.int .i64 a0_1) := (blk_cell BK164.out 1).trans rfl; have hcz42_2 : w41.cell? ⟨gb164, 2, none⟩ = some (.int .i64 a0_2) := (blk_cell BK164.out 2).trans rfl; have hcz42_3 : w41.cell? ⟨gb164, 3, none⟩ = some (.int .i64 a0_3) := (blk_cell BK164.out 3).trans rfl; have hcz42_4 : w41.cell? ⟨gb164, 4, none⟩ = some (.int .i64 a0_4) := (blk_cell BK164.out 4).trans rfl; have hcz42_5 : w41.cell? ⟨gb164, 5, none⟩ = some (.int .i64 a0_5) := (blk_cell BK164.out 5).trans rfl; have hcz42_6 : w41.cell? ⟨gb164, 6, none⟩ = some (.int .i64 a0_6) := (blk_cell BK164.out 6).trans rfl; have hcz42_7 : w41.cell? ⟨gb164, 7, none⟩ = some (.int .i64 a0_7) := (blk_cell BK164.out 7).trans rfl; have hcz42_8 : w41.cell? ⟨gb164, 8, none⟩ = some (.int .i64 a0_8) := (blk_cell BK164.out 8).trans rfl; have hcz42_9 : w41.cell? ⟨gb164, 9, none⟩ = some (.int .i64 a0_9) := (blk_cell BK164.out 9).trans rfl; have hcz42_10 : w41.cell? ⟨gb164, 10, none⟩ = some (.int .i64 a0_10) := (blk_cell BK164.out 10).trans rfl; have hfz42_0 := blk_frozen BK164.out 0; have hfz42_1 := blk_frozen BK164.out 1; have hfz42_2 := blk_frozen BK164.out 2; have hfz42_3 := blk_frozen BK164.out 3; have hfz42_4 := blk_frozen BK164.out 4; have hfz42_5 := blk_frozen BK164.out 5; have hfz42_6 := blk_frozen BK164.out 6; have hfz42_7 := blk_frozen BK164.out 7; have hfz42_8 := blk_frozen BK164.out 8; have hfz42_9 := blk_frozen BK164.out 9; have hfz42_10 := blk_frozen BK164.out 10) | ((with_reducible refine gate_callee (f := 30) rfl ?_); refine goesL_ (some 5) rfl rfl Tryd.func30 (by kernel_rfl) rfl #[.int .i64 a0_0, .int .i64 1, .int .i64 2147483646] rfl (by (try simp only [List.map_toArray, List.map_cons, List.map_nil]); first | done | rfl | (simp only [List.length_drop, List.length_take]; rfl)) ?_; (with_reducible refine (storagebarterref15_in.calls a0_0 1 2147483646 true _ A2.out).mono ?_); rintro e w' ⟨rfl, ⟨nd, rfl⟩⟩; refine ⟨_, rfl, ?_⟩) | (go_at_call 30; (with_reducible refine (storagebarterref15_in.calls a0_1 1 2147483646 true _ A4.out).mono ?_); rintro e w' ⟨rfl, ⟨nd, rfl⟩⟩) | (go_at_call 30; (with_reducible refine (storagebarterref15_in.calls a0_2 1 256 true _ A9.out).mono ?_); rintro e w' ⟨rfl, ⟨nd, rfl⟩⟩) | (go_at_call 30; (with_reducible refine (storagebarterref15_in.calls a0_3 0 2147483646 false _ A11.out).mono ?_); rintro e w' ⟨rfl, ⟨nd, rfl⟩⟩))
      go_ret
      exact ⟨by first | rfl | (simp [errW_none, errW_some] <;> rfl) | (simp [*, errW_none, errW_some] <;> rfl), by repeat (first | (with_reducible first | exact HB.out | apply below_alloc | apply pw_below_drewN | apply below_drew1 | refine below_set ?_ GE164.out) | exact HB.out)⟩
    ·replace c10 := Bool.eq_false_iff.mpr c10
     subst c10
     have H1 : (some false) = some r := by rw [if_neg (show ¬ (false = true) by decide)] at H; exact H
     clear H
     have H := H1
     clear H1
     obtain rfl := Option.some.inj H
     go_enter Tryd.func34, Tryd.ntmps34
     go_wp2_with (first | ((with_reducible refine gate_dst (N := 1) rfl ?_); refine box_event ?hg (N := 1) ?hd (cs := #[.int .i64 a0_0, .int .i64 a0_1, .int .i64 a0_2, .int .i64 a0_3, .int .i64 a0_4, .int .i64 a0_5, .int .i64 a0_6, .int .i64 a0_7, .int .i64 a0_8, .int .i64 a0_9, .int .i64 a0_10]) (t := 39) ?hr ?_; (case hd => rfl); (case hg => rfl); (case hr => first | (go_simp; done) | (go_simp; rfl)); intro gb164 hg w43 hbox hb; have n0_ := Aside0.mk (below_step (by repeat (first | (with_reducible first | exact HB.out | apply below_alloc | apply pw_below_drewN | apply below_drew1) | exact HB.out)) hb); have n1_ := Aside0.mk (hbox); have n2_ := Aside0.mk ((by rw [hg]; exact (below_size (by repeat (first | (with_reducible first | exact HB.out | apply below_alloc | apply pw_below_drewN | apply below_drew1) | exact HB.out))) : w.heap.size ≤ gb164)); have n3_ := Aside0.mk ((by rw [hg]; exact (below_size (by repeat (first | (with_reducible first | exact HB.out | apply below_alloc | apply pw_below_drewN | apply below_drew1) | exact HB.out))) : w.heap.size ≤ gb164)); clear HB; have HB := n0_; have BK164 := n1_; have GW164 := n2_; have GE164 := n3_; clear n0_ n1_ n2_ n3_; clear hb hbox hg; have hcz44_0 : w43.cell? ⟨gb164, 0, none⟩ = some (.int .i64 a0_0) := (blk_cell BK164.out 0).trans rfl; have hcz44_1 : w43.cell? ⟨gb164, 1, none⟩ = some (.int .i64 a0_1) := (blk_cell BK164.out 1).trans rfl; have hcz44_2 : w43.cell? ⟨gb164, 2, none⟩ = some (.int .i64 a0_2) := (blk_cell BK164.out 2).trans rfl; have hcz44_3 : w43.cell? ⟨gb164, 3, none⟩ = some (.int .i64 a0_3) := (blk_cell BK164.out 3).trans rfl; have hcz44_4 : w43.cell? ⟨gb164, 4, none⟩ = some (.int .i64 a0_4) := (blk_cell BK164.out 4).trans rfl; have hcz44_5 : w43.cell? ⟨gb164, 5, none⟩ = some (.int .i64 a0_5) := (blk_cell BK164.out 5).trans rfl; have hcz44_6 : w43.cell? ⟨gb164, 6, none⟩ = some (.int .i64 a0_6) := (blk_cell BK164.out 6).trans rfl; have hcz44_7 : w43.cell? ⟨gb164, 7, none⟩ = some (.int .i64 a0_7) := (blk_cell BK164.out 7).trans rfl; have hcz44_8 : w43.cell? ⟨gb164, 8, none⟩ = some (.int .i64 a0_8) := (blk_cell BK164.out 8).trans rfl; have hcz44_9 : w43.cell? ⟨gb164, 9, none⟩ = some (.int .i64 a0_9) := (blk_cell BK164.out 9).trans rfl; have hcz44_10 : w43.cell? ⟨gb164, 10, none⟩ = some (.int .i64 a0_10) := (blk_cell BK164.out 10).trans rfl; have hfz44_0 := blk_frozen BK164.out 0; have hfz44_1 := blk_frozen BK164.out 1; have hfz44_2 := blk_frozen BK164.out 2; have hfz44_3 := blk_frozen BK164.out 3; have hfz44_4 := blk_frozen BK164.out 4; have hfz44_5 := blk_frozen BK164.out 5; have hfz44_6 := blk_frozen BK164.out 6; have hfz44_7 := blk_frozen BK164.out 7; have hfz44_8 := blk_frozen BK164.out 8; have hfz44_9 := blk_frozen BK164.out 9; have hfz44_10 := blk_frozen BK164.out 10) | ((with_reducible refine gate_callee (f := 30) rfl ?_); refine goesL_ (some 5) rfl rfl Tryd.func30 (by kernel_rfl) rfl #[.int .i64 a0_0, .int .i64 1, .int .i64 2147483646] rfl (by (try simp only [List.map_toArray, List.map_cons, List.map_nil]); first | done | rfl | (simp only [List.length_drop, List.length_take]; rfl)) ?_; (with_reducible refine (storagebarterref15_in.calls a0_0 1 2147483646 true _ A2.out).mono ?_); rintro e w' ⟨rfl, ⟨nd, rfl⟩⟩; refine ⟨_, rfl, ?_⟩) | (go_at_call 30; (with_reducible refine (storagebarterref15_in.calls a0_1 1 2147483646 true _ A4.out).mono ?_); rintro e w' ⟨rfl, ⟨nd, rfl⟩⟩) | (go_at_call 30; (with_reducible refine (storagebarterref15_in.calls a0_2 1 256 false _ A9.out).mono ?_); rintro e w' ⟨rfl, ⟨nd, rfl⟩⟩))
     go_ret
     exact ⟨by first | rfl | (simp [errW_none, errW_some] <;> rfl) | (simp [*, errW_none, errW_some] <;> rfl), by repeat (first | (with_reducible first | exact HB.out | apply below_alloc | apply pw_below_drewN | apply below_drew1 | refine below_set ?_ GE164.out) | exact HB.out)⟩
  ·replace c5 := Bool.eq_false_iff.mpr c5
   subst c5
   have H1 : (some false) = some r := by rw [if_neg (show ¬ (false = true) by decide)] at H; exact H
   clear H
   have H := H1
   clear H1
   obtain rfl := Option.some.inj H
   go_enter Tryd.func34, Tryd.ntmps34
   go_wp2_with (first | ((with_reducible refine gate_dst (N := 1) rfl ?_); refine box_event ?hg (N := 1) ?hd (cs := #[.int .i64 a0_0, .int .i64 a0_1, .int .i64 a0_2, .int .i64 a0_3, .int .i64 a0_4, .int .i64 a0_5, .int .i64 a0_6, .int .i64 a0_7, .int .i64 a0_8, .int .i64 a0_9, .int .i64 a0_10]) (t := 39) ?hr ?_; (case hd => rfl); (case hg => rfl); (case hr => first | (go_simp; done) | (go_simp; rfl)); intro gb164 hg w45 hbox hb; have n0_ := Aside0.mk (below_step (by repeat (first | (with_reducible first | exact HB.out | apply below_alloc | apply pw_below_drewN | apply below_drew1) | exact HB.out)) hb); have n1_ := Aside0.mk (hbox); have n2_ := Aside0.mk ((by rw [hg]; exact (below_size (by repeat (first | (with_reducible first | exact HB.out | apply below_alloc | apply pw_below_drewN | apply below_drew1) | exact HB.out))) : w.heap.size ≤ gb164)); have n3_ := Aside0.mk ((by rw [hg]; exact (below_size (by repeat (first | (with_reducible first | exact HB.out | apply below_alloc | apply pw_below_drewN | apply below_drew1) | exact HB.out))) : w.heap.size ≤ gb164)); clear HB; have HB := n0_; have BK164 := n1_; have GW164 := n2_; have GE164 := n3_; clear n0_ n1_ n2_ n3_; clear hb hbox hg; have hcz46_0 : w45.cell? ⟨gb164, 0, none⟩ = some (.int .i64 a0_0) := (blk_cell BK164.out 0).trans rfl; have hcz46_1 : w45.cell? ⟨gb164, 1, none⟩ = some (.int .i64 a0_1) := (blk_cell BK164.out 1).trans rfl; have hcz46_2 : w45.cell? ⟨gb164, 2, none⟩ = some (.int .i64 a0_2) := (blk_cell BK164.out 2).trans rfl; have hcz46_3 : w45.cell? ⟨gb164, 3, none⟩ = some (.int .i64 a0_3) := (blk_cell BK164.out 3).trans rfl; have hcz46_4 : w45.cell? ⟨gb164, 4, none⟩ = some (.int .i64 a0_4) := (blk_cell BK164.out 4).trans rfl; have hcz46_5 : w45.cell? ⟨gb164, 5, none⟩ = some (.int .i64 a0_5) := (blk_cell BK164.out 5).trans rfl; have hcz46_6 : w45.cell? ⟨gb164, 6, none⟩ = some (.int .i64 a0_6) := (blk_cell BK164.out 6).trans rfl; have hcz46_7 : w45.cell? ⟨gb164, 7, none⟩ = some (.int .i64 a0_7) := (blk_cell BK164.out 7).trans rfl; have hcz46_8 : w45.cell? ⟨gb164, 8, none⟩ = some (.int .i64 a0_8) := (blk_cell BK164.out 8).trans rfl; have hcz46_9 : w45.cell? ⟨gb164, 9, none⟩ = some (.int .i64 a0_9) := (blk_cell BK164.out 9).trans rfl; have hcz46_10 : w45.cell? ⟨gb164, 10, none⟩ = some (.int .i64 a0_10) := (blk_cell BK164.out 10).trans rfl; have hfz46_0 := blk_frozen BK164.out 0; have hfz46_1 := blk_frozen BK164.out 1; have hfz46_2 := blk_frozen BK164.out 2; have hfz46_3 := blk_frozen BK164.out 3; have hfz46_4 := blk_frozen BK164.out 4; have hfz46_5 := blk_frozen BK164.out 5; have hfz46_6 := blk_frozen BK164.out 6; have hfz46_7 := blk_frozen BK164.out 7; have hfz46_8 := blk_frozen BK164.out 8; have hfz46_9 := blk_frozen BK164.out 9; have hfz46_10 := blk_frozen BK164.out 10) | ((with_reducible refine gate_callee (f := 30) rfl ?_); refine goesL_ (some 5) rfl rfl Tryd.func30 (by kernel_rfl) rfl #[.int .i64 a0_0, .int .i64 1, .int .i64 2147483646] rfl (by (try simp only [List.map_toArray, List.map_cons, List.map_nil]); first | done | rfl | (simp only [List.length_drop, List.length_take]; rfl)) ?_; (with_reducible refine (storagebarterref15_in.calls a0_0 1 2147483646 true _ A2.out).mono ?_); rintro e w' ⟨rfl, ⟨nd, rfl⟩⟩; refine ⟨_, rfl, ?_⟩) | (go_at_call 30; (with_reducible refine (storagebarterref15_in.calls a0_1 1 2147483646 false _ A4.out).mono ?_); rintro e w' ⟨rfl, ⟨nd, rfl⟩⟩))
   go_ret
   exact ⟨by first | rfl | (simp [errW_none, errW_some] <;> rfl) | (simp [*, errW_none, errW_some] <;> rfl), by repeat (first | (with_reducible first | exact HB.out | apply below_alloc | apply pw_below_drewN | apply below_drew1 | refine below_set ?_ GE164.out) | exact HB.out)⟩
 ·replace c3 := Bool.eq_false_iff.mpr c3
  subst c3
  have H1 : (some false) = some r := by rw [if_neg (show ¬ (false = true) by decide)] at H; exact H
  clear H
  have H := H1
  clear H1
  obtain rfl := Option.some.inj H
  go_enter Tryd.func34, Tryd.ntmps34
  go_wp2_with (first | ((with_reducible refine gate_dst (N := 1) rfl ?_); refine box_event ?hg (N := 1) ?hd (cs := #[.int .i64 a0_0, .int .i64 a0_1, .int .i64 a0_2, .int .i64 a0_3, .int .i64 a0_4, .int .i64 a0_5, .int .i64 a0_6, .int .i64 a0_7, .int .i64 a0_8, .int .i64 a0_9, .int .i64 a0_10]) (t := 39) ?hr ?_; (case hd => rfl); (case hg => rfl); (case hr => first | (go_simp; done) | (go_simp; rfl)); intro gb164 hg w47 hbox hb; have n0_ := Aside0.mk (below_step (by repeat (first | (with_reducible first | exact HB.out | apply below_alloc | apply pw_below_drewN | apply below_drew1) | exact HB.out)) hb); have n1_ := Aside0.mk (hbox); have n2_ := Aside0.mk ((by rw [hg]; exact (below_size (by repeat (first | (with_reducible first | exact HB.out | apply below_alloc | apply pw_below_drewN | apply below_drew1) | exact HB.out))) : w.heap.size ≤ gb164)); have n3_ := Aside0.mk ((by rw [hg]; exact (below_size (by repeat (first | (with_reducible first | exact HB.out | apply below_alloc | apply pw_below_drewN | apply below_drew1) | exact HB.out))) : w.heap.size ≤ gb164)); clear HB; have HB := n0_; have BK164 := n1_; have GW164 := n2_; have GE164 := n3_; clear n0_ n1_ n2_ n3_; clear hb hbox hg; have hcz48_0 : w47.cell? ⟨gb164, 0, none⟩ = some (.int .i64 a0_0) := (blk_cell BK164.out 0).trans rfl; have hcz48_1 : w47.cell? ⟨gb164, 1, none⟩ = some (.int .i64 a0_1) := (blk_cell BK164.out 1).trans rfl; have hcz48_2 : w47.cell? ⟨gb164, 2, none⟩ = some (.int .i64 a0_2) := (blk_cell BK164.out 2).trans rfl; have hcz48_3 : w47.cell? ⟨gb164, 3, none⟩ = some (.int .i64 a0_3) := (blk_cell BK164.out 3).trans rfl; have hcz48_4 : w47.cell? ⟨gb164, 4, none⟩ = some (.int .i64 a0_4) := (blk_cell BK164.out 4).trans rfl; have hcz48_5 : w47.cell? ⟨gb164, 5, none⟩ = some (.int .i64 a0_5) := (blk_cell BK164.out 5).trans rfl; have hcz48_6 : w47.cell? ⟨gb164, 6, none⟩ = some (.int .i64 a0_6) := (blk_cell BK164.out 6).trans rfl; have hcz48_7 : w47.cell? ⟨gb164, 7, none⟩ = some (.int .i64 a0_7) := (blk_cell BK164.out 7).trans rfl; have hcz48_8 : w47.cell? ⟨gb164, 8, none⟩ = some (.int .i64 a0_8) := (blk_cell BK164.out 8).trans rfl; have hcz48_9 : w47.cell? ⟨gb164, 9, none⟩ = some (.int .i64 a0_9) := (blk_cell BK164.out 9).trans rfl; have hcz48_10 : w47.cell? ⟨gb164, 10, none⟩ = some (.int .i64 a0_10) := (blk_cell BK164.out 10).trans rfl; have hfz48_0 := blk_frozen BK164.out 0; have hfz48_1 := blk_frozen BK164.out 1; have hfz48_2 := blk_frozen BK164.out 2; have hfz48_3 := blk_frozen BK164.out 3; have hfz48_4 := blk_frozen BK164.out 4; have hfz48_5 := blk_frozen BK164.out 5; have hfz48_6 := blk_frozen BK164.out 6; have hfz48_7 := blk_frozen BK164.out 7; have hfz48_8 := blk_frozen BK164.out 8; have hfz48_9 := blk_frozen BK164.out 9; have hfz48_10 := blk_frozen BK164.out 10) | ((with_reducible refine gate_callee (f := 30) rfl ?_); refine goesL_ (some 5) rfl rfl Tryd.func30 (by kernel_rfl) rfl #[.int .i64 a0_0, .int .i64 1, .int .i64 2147483646] rfl (by (try simp only [List.map_toArray, List.map_cons, List.map_nil]); first | done | rfl | (simp only [List.length_drop, List.length_take]; rfl)) ?_; (with_reducible refine (storagebarterref15_in.calls a0_0 1 2147483646 false _ A2.out).mono ?_); rintro e w' ⟨rfl, ⟨nd, rfl⟩⟩; refine ⟨_, rfl, ?_⟩))
  go_ret
  exact ⟨by first | rfl | (simp [errW_none, errW_some] <;> rfl) | (simp [*, errW_none, errW_some] <;> rfl), by repeat (first | (with_reducible first | exact HB.out | apply below_alloc | apply pw_below_drewN | apply below_drew1 | refine below_set ?_ GE164.out) | exact HB.out)⟩
end Go.Proofs.YtcalkhlchjjalaaDoor.Q
