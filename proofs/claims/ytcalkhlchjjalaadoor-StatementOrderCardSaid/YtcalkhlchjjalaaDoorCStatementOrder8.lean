/- StatementOrderCardSaid -/
import Derived.Test.YtcalkhlchjjalaaDoorCStatementOrder7
namespace Go.Proofs.YtcalkhlchjjalaaDoor.Gmy
open Go Go.RowKit Go.Proofs Go.Proofs.YtcalkhlchjjalaaDoor.Gm Go.Proofs.YtcalkhlchjjalaaDoor.Gdm Go.Proofs.YtcalkhlchjjalaaDoor.Gmr Go.Proofs.YtcalkhlchjjalaaDoor.Gpp Go.Proofs.YtcalkhlchjjalaaDoor.Gsy Go.Proofs.YtcalkhlchjjalaaDoor.Gnx Go.Proofs.YtcalkhlchjjalaaDoor.Ggd Go.Proofs.YtcalkhlchjjalaaDoor.Gcw Go.Proofs.YtcalkhlchjjalaaDoor.Grn Go.Proofs.YtcalkhlchjjalaaDoor.Glz Go.Proofs.YtcalkhlchjjalaaDoor.Gat Go.Proofs.YtcalkhlchjjalaaDoor.Gfr Go.Proofs.YtcalkhlchjjalaaDoor.Q Go.Proofs.YtcalkhlchjjalaaDoorW.PrintWords Go.Proofs.YtcalkhlchjjalaaDoorW.PrintLast Go.Proofs.YtcalkhlchjjalaaDoorW.PrintMore
set_option linter.unusedVariables false
set_option maxRecDepth 100000 in
set_option maxHeartbeats 60000000 in
theorem say_mk3 (w w1 W : World) (gd : Nat) (L : List Int) (gl : Nat) (A9 : Option Addr) (c9 : Nat) (ch : List S39) (ok : Nat → Prop) (p1 tick : Int) (h : QW w w1 W gd L gl (.slice A9 ch.length c9) ch ok) (hL : L.length ≤ 1000000) (hG : Gd 1 p1 2 ch) (hl : ch.length ≤ 200) (ht : I64 tick)
 (at0 at1 at2 t3 t8 : Int) (h1 : 0 ≤ at1) (h2 : 0 ≤ at2) (hd0 : IsS57 w W gd L at0) (e3 : storagebartermake_Deck_Next.f L at0 3 = some (t3, at1)) (e8 : storagebartermake_Deck_Next.f L at1 8 = some (t8, at2)) (ht3 : 0 ≤ t3) (ht3' : t3 < 3) (hk : t8 = 3) :
 Calls Tryd.prog 43 #[.pointer (some ⟨gd, 0, none⟩), .slice A9 ch.length c9, .slice (some ⟨gl, 0, none⟩) 1 1, .agg #[.int .i64 1, .int .i64 p1], .int .i64 2, .int .i64 tick] W (SayMk w w1 gd L gl (.slice A9 ch.length c9) ch ok p1) := by
 have mixed : (Tryd.prog).follows .mixedOrders = true := by kernel_rfl
 have hu39 := Tryd.underlying39
 have hu25 := Tryd.underlying25
 have hu82 := Tryd.underlying82
 have HD := Aside0.mk h
 have HG := Aside0.mk hG
 have HT := Aside0.mk ht
 have HX1 : Aside0 (XW w w1 ((W.alloc (.cells #[.int .i64 1, .int .i64 p1] 25)).alloc (.cells #[.int .i64 0, .int .i64 0, .int .i64 0, .int .i64 0, .int .i64 0, .int .i64 0, .int .i64 0, .int .i64 0, .int .i64 0, .int .i64 0, .int .i64 0] 39)) gd L gl (.slice A9 ch.length c9) ch ok p1 W.heap.size (W.heap.size + 1)) := ⟨⟨(h.alloc _).alloc _, blk_alloc (heap_alloc_new W _) _, two_new W _ _ _ _, Nat.le_succ_of_le h.kp.1, Kd.R_ne_new h.cr 1⟩⟩
 have HD1 : Aside0 (IsS57 w ((W.alloc (.cells #[.int .i64 1, .int .i64 p1] 25)).alloc (.cells #[.int .i64 0, .int .i64 0, .int .i64 0, .int .i64 0, .int .i64 0, .int .i64 0, .int .i64 0, .int .i64 0, .int .i64 0, .int .i64 0, .int .i64 0] 39)) gd L at0) := ⟨hd0.below (below_alloc (below_alloc (Below.refl _ _) _) _)⟩
 have E3 := Lib.hid e3
 have E8 := Lib.hid e8
 clear h hG ht HD hd0 e3 e8
 go_enter Tryd.func43, Tryd.ntmps43
 go_upto_region 5 with (first | (go_at_call 16; with_reducible refine (XW.turnAt HX1.out HD1.out E3.out h1).mono ?_; rintro e w2 ⟨rfl, hx, hd⟩; have HX := Aside0.mk hx; clear hx HX1 HD1; have HD1 := Aside0.mk hd; clear hd) | (go_at_call 51; with_reducible refine (at_x A9 c9 ch t3 tick _ (Kd.R_reads' HX.out.q.cr).2.2 (Kd.R_reads' HX.out.q.cr).2.1 (by omega) HG.out.w64).mono ?_; rintro e w3 ⟨⟨x0, x1, x2, x3, x4, x5, x6, x7⟩, okl, rfl, hli, hb⟩; have n_ := Aside0.mk (XW.below HX.out hb); have nd_ := Aside0.mk (HD1.out.below hb); clear HX HD1 hb; have HX := n_; have HD1 := nd_; clear n_ nd_; have HLI := Aside0.mk hli; clear hli; (try dsimp only)))
 obtain ⟨g12, hg12⟩ : ∃ g12, W.heap.size + 1 = g12 := ⟨_, rfl⟩
 rw [hg12] at HX ⊢
 clear hg12
 obtain ⟨g9, hg9⟩ : ∃ g9, W.heap.size = g9 := ⟨_, rfl⟩
 rw [hg9] at HX ⊢
 clear hg9
 have HD2 : Aside0 (IsS57 w ((w3.alloc (.cells #[.int .i64 x0, .int .i64 x1, .int .i64 x2, .int .i64 x3, .int .i64 x4, .int .i64 x5, .int .i64 x6, .bool x7] 82)).alloc (.cells #[.int .i64 0, .int .i64 0, .int .i64 0, .int .i64 0, .int .i64 0, .int .i64 0, .int .i64 0, .int .i64 0, .int .i64 0, .int .i64 0, .int .i64 0] 39)) gd L at1) := ⟨HD1.out.below (below_alloc (below_alloc (Below.refl _ _) _) _)⟩
 have HY : Aside0 (YW w w1 ((w3.alloc (.cells #[.int .i64 x0, .int .i64 x1, .int .i64 x2, .int .i64 x3, .int .i64 x4, .int .i64 x5, .int .i64 x6, .bool x7] 82)).alloc (.cells #[.int .i64 0, .int .i64 0, .int .i64 0, .int .i64 0, .int .i64 0, .int .i64 0, .int .i64 0, .int .i64 0, .int .i64 0, .int .i64 0, .int .i64 0] 39)) gd L gl (.slice A9 ch.length c9) ch ok p1 g9 g12 w3.heap.size (w3.heap.size + 1) #[.int .i64 x0, .int .i64 x1, .int .i64 x2, .int .i64 x3, .int .i64 x4, .int .i64 x5, .int .i64 x6, .bool x7] #[.int .i64 0, .int .i64 0, .int .i64 0, .int .i64 0, .int .i64 0, .int .i64 0, .int .i64 0, .int .i64 0, .int .i64 0, .int .i64 0, .int .i64 0]) :=
  ⟨⟨HX.out.below (below_alloc (below_alloc (Below.refl _ _) _) _), blk_alloc (heap_alloc_new w3 _) _, two_new w3 _ _ _ _, Nat.le_succ_of_le HX.out.q.kp.1, Kd.R_ne_new HX.out.q.cr 1, by have := blk_lt HX.out.rb; omega⟩⟩
 obtain ⟨W4, hW4⟩ : ∃ W4, W4 = (w3.alloc (.cells #[.int .i64 x0, .int .i64 x1, .int .i64 x2, .int .i64 x3, .int .i64 x4, .int .i64 x5, .int .i64 x6, .bool x7] 82)).alloc (.cells #[.int .i64 0, .int .i64 0, .int .i64 0, .int .i64 0, .int .i64 0, .int .i64 0, .int .i64 0, .int .i64 0, .int .i64 0, .int .i64 0, .int .i64 0] 39) := ⟨_, rfl⟩
 rw [← hW4] at HY HD2 ⊢
 clear hW4 HX HD1
 obtain ⟨g17, hg17⟩ : ∃ g17, w3.heap.size + 1 = g17 := ⟨_, rfl⟩
 rw [hg17] at HY ⊢
 clear hg17
 obtain ⟨g15, hg15⟩ : ∃ g15, w3.heap.size = g15 := ⟨_, rfl⟩
 rw [hg15] at HY ⊢
 clear hg15
 have hx3i : I64 x3 := HLI.out.h3
 have hx4i : I64 x4 := HLI.out.h4
 have hch : (0 : Int) ≤ ch.length ∧ (ch.length : Int) ≤ 200 := by omega
 go_upto_block 0 with (first | (go_at_call 16; with_reducible refine (YW.turnAt HY.out HD2.out E8.out h2).mono ?_; rintro e w5 ⟨rfl, hy⟩; clear HY HD2; have HY := Aside0.mk hy; clear hy))
 have hcw := HY.out
 have hp0_ : w5.cell? ⟨g9, 0, none⟩ = some (.int .i64 1) := (blk_cell HY.out.x.pb 0).trans rfl
 have hp1_ : w5.cell? ⟨g9, 1, none⟩ = some (.int .i64 p1) := (blk_cell HY.out.x.pb 1).trans rfl
 have hl6_ : w5.cell? ⟨g15, 6, none⟩ = some (.int .i64 x6) := (blk_cell HY.out.lb 6).trans rfl
 have hl3_ : w5.cell? ⟨g15, 3, none⟩ = some (.int .i64 x3) := (blk_cell HY.out.lb 3).trans rfl
 have hl4_ : w5.cell? ⟨g15, 4, none⟩ = some (.int .i64 x4) := (blk_cell HY.out.lb 4).trans rfl
 go_cut [18] (fun s18 wx => ∃ z0 z1 z2 z3 z4 z5 z6 z7 z8 z9 z10 r : Int, s18 = .int .i64 r ∧ Aside0 (r = 0 → Gd 1 p1 2 (ch ++ [⟨z0, z1, z2, z3, z4, z5, z6, z7, z8, z9, z10⟩])) ∧ Aside0 (YW w w1 wx gd L gl (.slice A9 ch.length c9) ch ok p1 g9 g12 g15 g17 #[.int .i64 x0, .int .i64 x1, .int .i64 x2, .int .i64 x3, .int .i64 x4, .int .i64 x5, .int .i64 x6, .bool x7] #[.int .i64 z0, .int .i64 z1, .int .i64 z2, .int .i64 z3, .int .i64 z4, .int .i64 z5, .int .i64 z6, .int .i64 z7, .int .i64 z8, .int .i64 z9, .int .i64 z10]))
 case first =>
  have NOSAY : Aside0 (∀ s : S39, (2 : Int) = 0 → Gd 1 p1 2 (ch ++ [s])) := ⟨fun s h => absurd h (by decide)⟩
  subst hk
  cases okl
  ·go_wp2
   go_meet
   exact ⟨0, 0, 0, 0, 0, 0, 0, 0, 0, 0, 0, 2, rfl, ⟨NOSAY.out _⟩, HY⟩
  ·by_cases hm : x6 < tick
   ·have dm : decide (x6 < tick) = true := decide_eq_true hm
    go_upto_region 17 with fail
    go_region_with (first | (go_at_call 16; with_reducible refine (YW.turn (YW.drew hcw) hL 6 (by decide)).mono ?_; rintro e w' ⟨ta, rfl, hta, hta', hcw⟩; have hp0_ : w'.cell? ⟨g9, 0, none⟩ = some (.int .i64 1) := (blk_cell hcw.x.pb 0).trans rfl; have hp1_ : w'.cell? ⟨g9, 1, none⟩ = some (.int .i64 p1) := (blk_cell hcw.x.pb 1).trans rfl; have hl6_ : w'.cell? ⟨g15, 6, none⟩ = some (.int .i64 x6) := (blk_cell hcw.lb 6).trans rfl) | (go_at_call 16; with_reducible refine (YW.turn hcw hL 6 (by decide)).mono ?_; rintro e w' ⟨ta, rfl, hta, hta', hcw⟩; have hp0_ : w'.cell? ⟨g9, 0, none⟩ = some (.int .i64 1) := (blk_cell hcw.x.pb 0).trans rfl; have hp1_ : w'.cell? ⟨g9, 1, none⟩ = some (.int .i64 p1) := (blk_cell hcw.x.pb 1).trans rfl; have hl6_ : w'.cell? ⟨g15, 6, none⟩ = some (.int .i64 x6) := (blk_cell hcw.lb 6).trans rfl) | (go_at_call 15; (try go_split_ands); go_loud (with_reducible refine (YW.rn hcw HG.out HT.out (by first | (with_reducible exact I64w _) | (with_reducible assumption) | (unfold I64; omega)) (by first | (with_reducible exact I64w _) | (with_reducible assumption) | (unfold I64; omega)) (by first | (with_reducible exact I64w _) | (with_reducible assumption) | (unfold I64; omega)) (by first | (with_reducible exact I64w _) | (with_reducible assumption) | (unfold I64; omega)) (by first | (with_reducible exact I64w _) | (with_reducible assumption) | (unfold I64; omega))).mono ?_); rintro e w' ⟨s, r1, hs, rfl, hcn⟩; have HSN := Aside0.mk hs; have HCN := Aside0.mk hcn; clear hs hcn; have hz0_ : w'.cell? ⟨g17, 0, none⟩ = some (.int .i64 0) := (blk_cell HCN.out.sb 0).trans rfl; have hf0_ := blk_frozen HCN.out.sb 0; have hz1_ : w'.cell? ⟨g17, 1, none⟩ = some (.int .i64 0) := (blk_cell HCN.out.sb 1).trans rfl; have hf1_ := blk_frozen HCN.out.sb 1; have hz2_ : w'.cell? ⟨g17, 2, none⟩ = some (.int .i64 0) := (blk_cell HCN.out.sb 2).trans rfl; have hf2_ := blk_frozen HCN.out.sb 2; have hz3_ : w'.cell? ⟨g17, 3, none⟩ = some (.int .i64 0) := (blk_cell HCN.out.sb 3).trans rfl; have hf3_ := blk_frozen HCN.out.sb 3; have hz4_ : w'.cell? ⟨g17, 4, none⟩ = some (.int .i64 0) := (blk_cell HCN.out.sb 4).trans rfl; have hf4_ := blk_frozen HCN.out.sb 4; have hz5_ : w'.cell? ⟨g17, 5, none⟩ = some (.int .i64 0) := (blk_cell HCN.out.sb 5).trans rfl; have hf5_ := blk_frozen HCN.out.sb 5; have hz6_ : w'.cell? ⟨g17, 6, none⟩ = some (.int .i64 0) := (blk_cell HCN.out.sb 6).trans rfl; have hf6_ := blk_frozen HCN.out.sb 6; have hz7_ : w'.cell? ⟨g17, 7, none⟩ = some (.int .i64 0) := (blk_cell HCN.out.sb 7).trans rfl; have hf7_ := blk_frozen HCN.out.sb 7; have hz8_ : w'.cell? ⟨g17, 8, none⟩ = some (.int .i64 0) := (blk_cell HCN.out.sb 8).trans rfl; have hf8_ := blk_frozen HCN.out.sb 8; have hz9_ : w'.cell? ⟨g17, 9, none⟩ = some (.int .i64 0) := (blk_cell HCN.out.sb 9).trans rfl; have hf9_ := blk_frozen HCN.out.sb 9; have hz10_ : w'.cell? ⟨g17, 10, none⟩ = some (.int .i64 0) := (blk_cell HCN.out.sb 10).trans rfl; have hf10_ := blk_frozen HCN.out.sb 10; have hzl_ := blk_lt HCN.out.sb; obtain ⟨s0, s1, s2, s3, s4, s5, s6, s7, s8, s9, s10⟩ := s; (try dsimp only)))
    all_goals (go_wp2_with fail)
    all_goals go_meet
    all_goals (with_reducible exact ⟨s0, s1, s2, s3, s4, s5, s6, s7, s8, s9, s10, r1, rfl, HSN, ⟨YW.put11 HCN.out _ _ _ _ _ _ _ _ _ _ _⟩⟩)
   ·have dm : decide (x6 < tick) = false := decide_eq_false hm
    go_upto_region 17 with fail
    go_region_with (first | (go_at_call 16; with_reducible refine (YW.turn (YW.drew hcw) hL 6 (by decide)).mono ?_; rintro e w' ⟨ta, rfl, hta, hta', hcw⟩; have hp0_ : w'.cell? ⟨g9, 0, none⟩ = some (.int .i64 1) := (blk_cell hcw.x.pb 0).trans rfl; have hp1_ : w'.cell? ⟨g9, 1, none⟩ = some (.int .i64 p1) := (blk_cell hcw.x.pb 1).trans rfl; have hl6_ : w'.cell? ⟨g15, 6, none⟩ = some (.int .i64 x6) := (blk_cell hcw.lb 6).trans rfl) | (go_at_call 16; with_reducible refine (YW.turn hcw hL 6 (by decide)).mono ?_; rintro e w' ⟨ta, rfl, hta, hta', hcw⟩; have hp0_ : w'.cell? ⟨g9, 0, none⟩ = some (.int .i64 1) := (blk_cell hcw.x.pb 0).trans rfl; have hp1_ : w'.cell? ⟨g9, 1, none⟩ = some (.int .i64 p1) := (blk_cell hcw.x.pb 1).trans rfl; have hl6_ : w'.cell? ⟨g15, 6, none⟩ = some (.int .i64 x6) := (blk_cell hcw.lb 6).trans rfl) | (go_at_call 15; (try go_split_ands); go_loud (with_reducible refine (YW.rn hcw HG.out HT.out (by first | (with_reducible exact I64w _) | (with_reducible assumption) | (unfold I64; omega)) (by first | (with_reducible exact I64w _) | (with_reducible assumption) | (unfold I64; omega)) (by first | (with_reducible exact I64w _) | (with_reducible assumption) | (unfold I64; omega)) (by first | (with_reducible exact I64w _) | (with_reducible assumption) | (unfold I64; omega)) (by first | (with_reducible exact I64w _) | (with_reducible assumption) | (unfold I64; omega))).mono ?_); rintro e w' ⟨s, r1, hs, rfl, hcn⟩; have HSN := Aside0.mk hs; have HCN := Aside0.mk hcn; clear hs hcn; have hz0_ : w'.cell? ⟨g17, 0, none⟩ = some (.int .i64 0) := (blk_cell HCN.out.sb 0).trans rfl; have hf0_ := blk_frozen HCN.out.sb 0; have hz1_ : w'.cell? ⟨g17, 1, none⟩ = some (.int .i64 0) := (blk_cell HCN.out.sb 1).trans rfl; have hf1_ := blk_frozen HCN.out.sb 1; have hz2_ : w'.cell? ⟨g17, 2, none⟩ = some (.int .i64 0) := (blk_cell HCN.out.sb 2).trans rfl; have hf2_ := blk_frozen HCN.out.sb 2; have hz3_ : w'.cell? ⟨g17, 3, none⟩ = some (.int .i64 0) := (blk_cell HCN.out.sb 3).trans rfl; have hf3_ := blk_frozen HCN.out.sb 3; have hz4_ : w'.cell? ⟨g17, 4, none⟩ = some (.int .i64 0) := (blk_cell HCN.out.sb 4).trans rfl; have hf4_ := blk_frozen HCN.out.sb 4; have hz5_ : w'.cell? ⟨g17, 5, none⟩ = some (.int .i64 0) := (blk_cell HCN.out.sb 5).trans rfl; have hf5_ := blk_frozen HCN.out.sb 5; have hz6_ : w'.cell? ⟨g17, 6, none⟩ = some (.int .i64 0) := (blk_cell HCN.out.sb 6).trans rfl; have hf6_ := blk_frozen HCN.out.sb 6; have hz7_ : w'.cell? ⟨g17, 7, none⟩ = some (.int .i64 0) := (blk_cell HCN.out.sb 7).trans rfl; have hf7_ := blk_frozen HCN.out.sb 7; have hz8_ : w'.cell? ⟨g17, 8, none⟩ = some (.int .i64 0) := (blk_cell HCN.out.sb 8).trans rfl; have hf8_ := blk_frozen HCN.out.sb 8; have hz9_ : w'.cell? ⟨g17, 9, none⟩ = some (.int .i64 0) := (blk_cell HCN.out.sb 9).trans rfl; have hf9_ := blk_frozen HCN.out.sb 9; have hz10_ : w'.cell? ⟨g17, 10, none⟩ = some (.int .i64 0) := (blk_cell HCN.out.sb 10).trans rfl; have hf10_ := blk_frozen HCN.out.sb 10; have hzl_ := blk_lt HCN.out.sb; obtain ⟨s0, s1, s2, s3, s4, s5, s6, s7, s8, s9, s10⟩ := s; (try dsimp only)))
    all_goals (go_wp2_with fail)
    all_goals go_meet
    all_goals (with_reducible exact ⟨s0, s1, s2, s3, s4, s5, s6, s7, s8, s9, s10, r1, rfl, HSN, ⟨YW.put11 HCN.out _ _ _ _ _ _ _ _ _ _ _⟩⟩)
 case rest =>
  clear hcw HY hp0_ hp1_ hl6_ hl3_ hl4_
  obtain ⟨z0, z1, z2, z3, z4, z5, z6, z7, z8, z9, z10, r, rfl, HSN, HY⟩ := hcut
  have hq0_ : wc.cell? ⟨g12, 0, none⟩ = some (.int .i64 0) := (blk_cell HY.out.x.rb 0).trans rfl
  have hf0_ := blk_frozen HY.out.x.rb 0
  have hz0_ : wc.cell? ⟨g17, 0, none⟩ = some (.int .i64 z0) := (blk_cell HY.out.sb 0).trans rfl
  have hq1_ : wc.cell? ⟨g12, 1, none⟩ = some (.int .i64 0) := (blk_cell HY.out.x.rb 1).trans rfl
  have hf1_ := blk_frozen HY.out.x.rb 1
  have hz1_ : wc.cell? ⟨g17, 1, none⟩ = some (.int .i64 z1) := (blk_cell HY.out.sb 1).trans rfl
  have hq2_ : wc.cell? ⟨g12, 2, none⟩ = some (.int .i64 0) := (blk_cell HY.out.x.rb 2).trans rfl
  have hf2_ := blk_frozen HY.out.x.rb 2
  have hz2_ : wc.cell? ⟨g17, 2, none⟩ = some (.int .i64 z2) := (blk_cell HY.out.sb 2).trans rfl
  have hq3_ : wc.cell? ⟨g12, 3, none⟩ = some (.int .i64 0) := (blk_cell HY.out.x.rb 3).trans rfl
  have hf3_ := blk_frozen HY.out.x.rb 3
  have hz3_ : wc.cell? ⟨g17, 3, none⟩ = some (.int .i64 z3) := (blk_cell HY.out.sb 3).trans rfl
  have hq4_ : wc.cell? ⟨g12, 4, none⟩ = some (.int .i64 0) := (blk_cell HY.out.x.rb 4).trans rfl
  have hf4_ := blk_frozen HY.out.x.rb 4
  have hz4_ : wc.cell? ⟨g17, 4, none⟩ = some (.int .i64 z4) := (blk_cell HY.out.sb 4).trans rfl
  have hq5_ : wc.cell? ⟨g12, 5, none⟩ = some (.int .i64 0) := (blk_cell HY.out.x.rb 5).trans rfl
  have hf5_ := blk_frozen HY.out.x.rb 5
  have hz5_ : wc.cell? ⟨g17, 5, none⟩ = some (.int .i64 z5) := (blk_cell HY.out.sb 5).trans rfl
  have hq6_ : wc.cell? ⟨g12, 6, none⟩ = some (.int .i64 0) := (blk_cell HY.out.x.rb 6).trans rfl
  have hf6_ := blk_frozen HY.out.x.rb 6
  have hz6_ : wc.cell? ⟨g17, 6, none⟩ = some (.int .i64 z6) := (blk_cell HY.out.sb 6).trans rfl
  have hq7_ : wc.cell? ⟨g12, 7, none⟩ = some (.int .i64 0) := (blk_cell HY.out.x.rb 7).trans rfl
  have hf7_ := blk_frozen HY.out.x.rb 7
  have hz7_ : wc.cell? ⟨g17, 7, none⟩ = some (.int .i64 z7) := (blk_cell HY.out.sb 7).trans rfl
  have hq8_ : wc.cell? ⟨g12, 8, none⟩ = some (.int .i64 0) := (blk_cell HY.out.x.rb 8).trans rfl
  have hf8_ := blk_frozen HY.out.x.rb 8
  have hz8_ : wc.cell? ⟨g17, 8, none⟩ = some (.int .i64 z8) := (blk_cell HY.out.sb 8).trans rfl
  have hq9_ : wc.cell? ⟨g12, 9, none⟩ = some (.int .i64 0) := (blk_cell HY.out.x.rb 9).trans rfl
  have hf9_ := blk_frozen HY.out.x.rb 9
  have hz9_ : wc.cell? ⟨g17, 9, none⟩ = some (.int .i64 z9) := (blk_cell HY.out.sb 9).trans rfl
  have hq10_ : wc.cell? ⟨g12, 10, none⟩ = some (.int .i64 0) := (blk_cell HY.out.x.rb 10).trans rfl
  have hf10_ := blk_frozen HY.out.x.rb 10
  have hz10_ : wc.cell? ⟨g17, 10, none⟩ = some (.int .i64 z10) := (blk_cell HY.out.sb 10).trans rfl
  have hgl12_ := blk_lt HY.out.x.rb
  go_wp2
  refine bodyPost_ret (results_ct rfl _ _ g12 39 #[.int .i64 z0, .int .i64 z1, .int .i64 z2, .int .i64 z3, .int .i64 z4, .int .i64 z5, .int .i64 z6, .int .i64 z7, .int .i64 z8, .int .i64 z9, .int .i64 z10] (0, 0) _ rfl (by (with_reducible exact Gnx.put11 _ _ _ _ _ _ _ _ _ _ _ _ _ _ _ _ _ _ _ _ _ _ HY.out.x.rb)) Tryd.underlying39 rfl (by kernel_rfl)) rfl ?_
  refine ⟨⟨⟨z0, z1, z2, z3, z4, z5, z6, z7, z8, z9, z10⟩, (r == 0), rfl, fun hb => HSN.out (by simpa using hb), ?_⟩⟩
  with_reducible exact XW.out11 HY.out.x _ _ _ _ _ _ _ _ _ _ _
theorem say_mk (w w1 W : World) (gd : Nat) (L : List Int) (gl : Nat) (A9 : Option Addr) (c9 : Nat) (ch : List S39) (ok : Nat → Prop) (p1 tick : Int) (h : QW w w1 W gd L gl (.slice A9 ch.length c9) ch ok) (hL : L.length ≤ 1000000) (hG : Gd 1 p1 2 ch) (hl : ch.length ≤ 200) (ht : I64 tick) :
 Calls Tryd.prog 43 #[.pointer (some ⟨gd, 0, none⟩), .slice A9 ch.length c9, .slice (some ⟨gl, 0, none⟩) 1 1, .agg #[.int .i64 1, .int .i64 p1], .int .i64 2, .int .i64 tick] W (SayMk w w1 gd L gl (.slice A9 ch.length c9) ch ok p1) := by
 obtain ⟨at0, h0, hd⟩ := h.dk
 obtain ⟨t3, at1, e3, p3, q3, h1⟩ := next_ok L at0 3 (by omega) (by omega) h0 hL
 obtain ⟨t8, at2, e8, p8, q8, h2⟩ := next_ok L at1 8 (by omega) (by omega) h1 hL
 obtain hk | hk | hk | hk | hk | hk | hk : t8 = 0 ∨ t8 = 1 ∨ t8 = 2 ∨ t8 = 3 ∨ t8 = 4 ∨ t8 = 5 ∨ (t8 = 6 ∨ t8 = 7) := by omega
 ·exact say_mk0 w w1 W gd L gl A9 c9 ch ok p1 tick h hL hG hl ht at0 at1 at2 t3 t8 h1 h2 hd e3 e8 p3 q3 hk
 ·exact say_mk1 w w1 W gd L gl A9 c9 ch ok p1 tick h hL hG hl ht at0 at1 at2 t3 t8 h1 h2 hd e3 e8 p3 q3 hk
 ·exact say_mk2 w w1 W gd L gl A9 c9 ch ok p1 tick h hL hG hl ht at0 at1 at2 t3 t8 h1 h2 hd e3 e8 p3 q3 hk
 ·exact say_mk3 w w1 W gd L gl A9 c9 ch ok p1 tick h hL hG hl ht at0 at1 at2 t3 t8 h1 h2 hd e3 e8 p3 q3 hk
 ·exact say_mk4 w w1 W gd L gl A9 c9 ch ok p1 tick h hL hG hl ht at0 at1 at2 t3 t8 h1 h2 hd e3 e8 p3 q3 hk
 ·exact say_mk5 w w1 W gd L gl A9 c9 ch ok p1 tick h hL hG hl ht at0 at1 at2 t3 t8 h1 h2 hd e3 e8 p3 q3 hk
 ·exact say_mk6 w w1 W gd L gl A9 c9 ch ok p1 tick h hL hG hl ht at0 at1 at2 t3 t8 h1 h2 hd e3 e8 p3 q3 hk
end Go.Proofs.YtcalkhlchjjalaaDoor.Gmy
