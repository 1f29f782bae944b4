/- StatementOrderCardSaid -/
import Derived.Test.YtcalkhlchjjalaaDoorCStatementOrder8
import Derived.Deep.RegionLaw
import Derived.Test.YtcalkhlchjjalaaDoorCStatementOrder4
import Derived.Test.YtcalkhlchjjalaaDoorCStatementOrder3
import Derived.Maps.AppendAt
import Derived.Deep.RegionHeld
import Derived.BigRegion
import Derived.Test.YtcalkhlchjjalaaDoorRows
import Derived.Test.YtcalkhlchjjalaaDoorCards
import Derived.Test.YtcalkhlchjjalaaDoorTie
import Derived.WalkKit
import Derived.ProofKit
import Derived.OpenShut
import Derived.ChangeOld
import Derived.Below
import Derived.SizedLaws
import Derived.LaidMore
import Derived.Lay
import Derived.SevenTiedAt
import Derived.Stop.Joined
import Derived.Test.YtcalkhlchjjalaaDoorCStatementOrder1
namespace Go.Proofs.YtcalkhlchjjalaaDoor.Gca
open Go Go.RowKit Go.Proofs Go.Proofs.YtcalkhlchjjalaaDoor.Gm Go.Proofs.YtcalkhlchjjalaaDoor.Gdm Go.Proofs.YtcalkhlchjjalaaDoor.Gmr Go.Proofs.YtcalkhlchjjalaaDoor.Gpp Go.Proofs.YtcalkhlchjjalaaDoor.Gsy Go.Proofs.YtcalkhlchjjalaaDoor.Gnx Go.Proofs.YtcalkhlchjjalaaDoor.Ggd Go.Proofs.YtcalkhlchjjalaaDoor.Gcw Go.Proofs.YtcalkhlchjjalaaDoor.Gmy Go.Proofs.YtcalkhlchjjalaaDoor.Q Go.Proofs.YtcalkhlchjjalaaDoorW.PrintWords Go.Proofs.YtcalkhlchjjalaaDoorW.PrintLast Go.Proofs.YtcalkhlchjjalaaDoorW.PrintMore
set_option linter.unusedVariables false
structure CC (w w1 W : World) (gd : Nat) (L : List Int) (gl g5 : Nat) (v9 : Value) (ch : List S39) (p1 : Int) : Prop where
  q : QW w w1 W gd L gl v9 ch (fun k => w1.heap.size ≤ k)
  pb : W.heap[g5]? = some (.cells #[.int .i64 1, .int .i64 p1] 25 (0, 0))
  l : w1.heap.size ≤ gl
section
variable {w w1 W W' : World} {gd gl g5 : Nat} {L : List Int} {v9 : Value} {ch : List S39} {p1 : Int}
theorem CC.below (h : CC w w1 W gd L gl g5 v9 ch p1) (hb : Below W.heap.size W W') : CC w w1 W' gd L gl g5 v9 ch p1 := ⟨h.q.below hb, blk_below h.pb hb, h.l⟩
theorem CC.drew (h : CC w w1 W gd L gl g5 v9 ch p1) : CC w w1 W.drew gd L gl g5 v9 ch p1 := h.below (below_drew1 (Below.refl _ _))
theorem CC.alloc (h : CC w w1 W gd L gl g5 v9 ch p1) (o : Obj) : CC w w1 (W.alloc o) gd L gl g5 v9 ch p1 := h.below (below_alloc (Below.refl _ _) o)
theorem CC.turn (h : CC w w1 W gd L gl g5 v9 ch p1) (hL : L.length ≤ 1000000) (n : Int) (hn : 1 ≤ n ∧ n ≤ 100000) : Calls Tryd.prog 16 #[.pointer (some ⟨gd, 0, none⟩), .int .i64 n] W fun e w' => ∃ t : Int, e = .returned (.int .i64 t) ∧ 0 ≤ t ∧ t < n ∧ CC w w1 w' gd L gl g5 v9 ch p1 := by
  obtain ⟨at_, h0, hd⟩ := h.q.dk
  obtain ⟨t, a1, e, p, q, h1⟩ := next_ok L at_ n hn.1 (by omega) h0 hL
  refine (storagebartermake_Deck_Next.calls gd L at_ n t a1 w W hd h.q.hb e).mono fun e' w' y => ?_
  obtain ⟨rfl, z1, z2, z3⟩ := y
  exact ⟨t, rfl, p, q, h.q.next h1 z1 z2 z3, z3.blk h.pb (h.q.ne h.pb (by decide)) (by simp), h.l⟩
theorem CC.say {A9 : Option Addr} {c9 : Nat} (h : CC w w1 W gd L gl g5 (.slice A9 ch.length c9) ch p1) (hL : L.length ≤ 1000000) (hG : Gd 1 p1 2 ch) (hl : ch.length ≤ 200) {tick : Int} (ht : I64 tick) :
    Calls Tryd.prog 43 #[.pointer (some ⟨gd, 0, none⟩), .slice A9 ch.length c9, .slice (some ⟨gl, 0, none⟩) 1 1, .agg #[.int .i64 1, .int .i64 p1], .int .i64 2, .int .i64 tick] W fun e w' =>
      ∃ (s : S39) (b : Bool), (b = true → Gd 1 p1 2 (ch ++ [s])) ∧ e = .returned (.tuple #[.agg #[.int .i64 s.f0, .int .i64 s.f1, .int .i64 s.f2, .int .i64 s.f3, .int .i64 s.f4, .int .i64 s.f5, .int .i64 s.f6, .int .i64 s.f7, .int .i64 s.f8, .int .i64 s.f9, .int .i64 s.f10], .bool b]) ∧ CC w w1 w' gd L gl g5 (.slice A9 ch.length c9) ch p1 ∧ KeepBut W w' gd none := by
  refine (say_mk w W W gd L gl A9 c9 ch _ p1 tick ⟨h.q.hb, h.q.hb.size, h.q.dk, KeepBut.refl _ _ _, h.q.b, h.q.cr⟩ hL hG hl ht).mono fun e w' z => ?_
  obtain ⟨s, b, e1, hs, hq⟩ := z
  exact ⟨s, b, hs, e1, ⟨⟨hq.hb, h.q.le, hq.dk, h.q.kp.trans hq.kp (.inl rfl), hq.b, hq.cr⟩, hq.kp.blk h.pb (h.q.ne h.pb (by decide)) (by simp), h.l⟩, hq.kp⟩
theorem CC.sayZ {A9 : Option Addr} {c9 : Nat} {cs : Array Value} (h : CC w w1 W gd L gl g5 (.slice A9 ch.length c9) ch p1) (hL : L.length ≤ 1000000) (hG : Gd 1 p1 2 ch) (hl : ch.length ≤ 200) {tick : Int} (ht : I64 tick) :
    Calls Tryd.prog 43 #[.pointer (some ⟨gd, 0, none⟩), .slice A9 ch.length c9, .slice (some ⟨gl, 0, none⟩) 1 1, .agg #[.int .i64 1, .int .i64 p1], .int .i64 2, .int .i64 tick] (W.alloc (.cells cs 39)) fun e w' =>
      ∃ (s : S39) (b : Bool), (b = true → Gd 1 p1 2 (ch ++ [s])) ∧ e = .returned (.tuple #[.agg #[.int .i64 s.f0, .int .i64 s.f1, .int .i64 s.f2, .int .i64 s.f3, .int .i64 s.f4, .int .i64 s.f5, .int .i64 s.f6, .int .i64 s.f7, .int .i64 s.f8, .int .i64 s.f9, .int .i64 s.f10], .bool b]) ∧ CC w w1 w' gd L gl g5 (.slice A9 ch.length c9) ch p1 ∧ w'.heap[W.heap.size]? = some (.cells cs 39 (0, 0)) :=
  ((h.alloc _).say hL hG hl ht).mono fun e w' ⟨s, b, h1, h2, h3, h4⟩ => ⟨s, b, h1, h2, h3, h4.blk (heap_alloc_new W _) ((h.alloc (.cells cs 39)).q.ne (heap_alloc_new W _) (by decide)) (by simp)⟩
theorem CC.sayD {A9 : Option Addr} {c9 : Nat} {cs : Array Value} (h : CC w w1 W gd L gl g5 (.slice A9 ch.length c9) ch p1) (hL : L.length ≤ 1000000) (hG : Gd 1 p1 2 ch) (hl : ch.length ≤ 200) {tick : Int} (ht : I64 tick) :
    Calls Tryd.prog 43 #[.pointer (some ⟨gd, 0, none⟩), .slice A9 ch.length c9, .slice (some ⟨gl, 0, none⟩) 1 1, .agg #[.int .i64 1, .int .i64 p1], .int .i64 2, .int .i64 tick] (W.alloc (.cells cs 39)).drew fun e w' =>
      ∃ (s : S39) (b : Bool), (b = true → Gd 1 p1 2 (ch ++ [s])) ∧ e = .returned (.tuple #[.agg #[.int .i64 s.f0, .int .i64 s.f1, .int .i64 s.f2, .int .i64 s.f3, .int .i64 s.f4, .int .i64 s.f5, .int .i64 s.f6, .int .i64 s.f7, .int .i64 s.f8, .int .i64 s.f9, .int .i64 s.f10], .bool b]) ∧ CC w w1 w' gd L gl g5 (.slice A9 ch.length c9) ch p1 ∧ w'.heap[W.heap.size]? = some (.cells cs 39 (0, 0)) :=
  (((h.alloc _).drew).say hL hG hl ht).mono fun e w' ⟨s, b, h1, h2, h3, h4⟩ => ⟨s, b, h1, h2, h3, h4.blk (blk_drew (heap_alloc_new W _)) ((h.alloc (.cells cs 39)).q.ne (heap_alloc_new W _) (by decide)) (by simp)⟩
theorem CC.far (h : CC w w1 W gd L gl g5 v9 ch p1) {g : Nat} {cs : Array Value} (hc : W.heap[g]? = some (.cells cs 39 (0, 0))) (hl : w1.heap.size ≤ g) (hn : some g ≠ v9.ownBlock) (i : Nat) (v : Value) : CC w w1 (W.setCell ⟨g, i, none⟩ v) gd L gl g5 v9 ch p1 :=
  ⟨h.q.far hc hl hn i v, blk_far (p := ⟨g, i, none⟩) h.pb (blk_ne h.pb hc (by decide)) v, h.l⟩
theorem CC.far11 {g : Nat} {a0 a1 a2 a3 a4 a5 a6 a7 a8 a9 aa : Value} (h : CC w w1 W gd L gl g5 v9 ch p1) (hc : W.heap[g]? = some (.cells #[a0, a1, a2, a3, a4, a5, a6, a7, a8, a9, aa] 39 (0, 0))) (hl : w1.heap.size ≤ g) (hn : some g ≠ v9.ownBlock) (v0 v1 v2 v3 v4 v5 v6 v7 v8 v9_ va : Value) :
    CC w w1 (((((((((((W.setCell ⟨g, 0, none⟩ v0).setCell ⟨g, 1, none⟩ v1).setCell ⟨g, 2, none⟩ v2).setCell ⟨g, 3, none⟩ v3).setCell ⟨g, 4, none⟩ v4).setCell ⟨g, 5, none⟩ v5).setCell ⟨g, 6, none⟩ v6).setCell ⟨g, 7, none⟩ v7).setCell ⟨g, 8, none⟩ v8).setCell ⟨g, 9, none⟩ v9_).setCell ⟨g, 10, none⟩ va) gd L gl g5 v9 ch p1 ∧ (((((((((((W.setCell ⟨g, 0, none⟩ v0).setCell ⟨g, 1, none⟩ v1).setCell ⟨g, 2, none⟩ v2).setCell ⟨g, 3, none⟩ v3).setCell ⟨g, 4, none⟩ v4).setCell ⟨g, 5, none⟩ v5).setCell ⟨g, 6, none⟩ v6).setCell ⟨g, 7, none⟩ v7).setCell ⟨g, 8, none⟩ v8).setCell ⟨g, 9, none⟩ v9_).setCell ⟨g, 10, none⟩ va).heap[g]? = some (.cells #[v0, v1, v2, v3, v4, v5, v6, v7, v8, v9_, va] 39 (0, 0)) := by
  refine ⟨?_, Gnx.put11 _ _ _ _ _ _ _ _ _ _ _ _ _ _ _ _ _ _ _ _ _ _ hc⟩
  have c0 := h.far hc hl hn 0 v0
  have r0 := blk_put hc 0 v0 rfl
  have c1 := c0.far r0 hl hn 1 v1
  have r1 := blk_put r0 1 v1 rfl
  have c2 := c1.far r1 hl hn 2 v2
  have r2 := blk_put r1 2 v2 rfl
  have c3 := c2.far r2 hl hn 3 v3
  have r3 := blk_put r2 3 v3 rfl
  have c4 := c3.far r3 hl hn 4 v4
  have r4 := blk_put r3 4 v4 rfl
  have c5 := c4.far r4 hl hn 5 v5
  have r5 := blk_put r4 5 v5 rfl
  have c6 := c5.far r5 hl hn 6 v6
  have r6 := blk_put r5 6 v6 rfl
  have c7 := c6.far r6 hl hn 7 v7
  have r7 := blk_put r6 7 v7 rfl
  have c8 := c7.far r7 hl hn 8 v8
  have r8 := blk_put r7 8 v8 rfl
  have c9 := c8.far r8 hl hn 9 v9_
  have r9 := blk_put r8 9 v9_ rfl
  have c10 := c9.far r9 hl hn 10 va
  exact c10
theorem CC.app {v1 : Value} {s : S39} (h : CC w w1 W gd L gl g5 v9 ch p1) (hr : Kd.R k39 39 W' w.heap.size (fun k => w1.heap.size ≤ k) v1 (ch ++ [s])) (hb : Below w.heap.size w W') (hg : W.grownBy W' v9.ownBlock) (hgl : some gl ≠ v1.ownBlock) :
    CC w w1 (W'.setCell ⟨gl, 0, none⟩ v1) gd L gl g5 v1 (ch ++ [s]) p1 := by
  obtain ⟨at_, h0, hd⟩ := h.q.dk
  have hgd := h.q.ne h.q.b (by decide)
  have hpl : g5 ≠ gl := blk_ne h.pb h.q.b (by decide)
  have hb' := blk_grown h.q.b hg (Kd.R_ne h.q.cr h.q.b (by decide))
  have hp' := blk_grown h.pb hg (Kd.R_ne h.q.cr h.pb (by decide))
  have hk : KeepBut w1 W' gd none := by
    refine ⟨Nat.le_trans h.q.kp.1 hg.size, fun i hi hne _ => ?_⟩
    refine (hg.block i (Nat.lt_of_lt_of_le hi h.q.kp.1) (fun e => ?_)).trans (h.q.kp.2 i hi hne (by simp))
    have := h.q.cr.1 i e.symm
    omega
  have hr' : Kd.R k39 39 W' w.heap.size (fun k => w1.heap.size ≤ k ∧ k ≠ gl) v1 (ch ++ [s]) := ⟨fun k hk => ⟨hr.1 k hk, fun e => hgl (by rw [hk, e])⟩, hr.2.imp_ (fun p c hm => by rw [k39_openM hm]; exact k39_mkM _ _ _ _)⟩
  refine ⟨⟨below_set hb (Nat.le_trans h.q.le h.l), h.q.le, ⟨at_, h0, (hd.grown hg (hd.own_ne h.q.cr (by decide))).far (fun e => hgd e.symm) v1⟩, keep_far hk (p := ⟨gl, 0, none⟩) h.l v1, blk_put hb' 0 v1 rfl, ?_⟩, blk_far (p := ⟨gl, 0, none⟩) hp' hpl v1, h.l⟩
  exact Kd.R_mono (Kd.R_far (p := ⟨gl, 0, none⟩) hr' (fun _ hk => hk.2) v1) (fun _ hk => hk.1)
end
theorem infoLS : (Tryd.prog.info? 23).map (fun i => (i.zero, i.size, i.bytes)) = some (some (.slice none 0 0), 1, 24) := by kernel_rfl
theorem run_make1 (W : World) (ρ : Operand → Value) (o : Oper) (ho : o.op = .makeSlice 34 (.tmp 17) (.tmp 17)) (hx : ρ (.tmp 17) = .int .i64 1) :
    (execOp ρ o).run Tryd.prog W = .ok (.value (.slice (some ⟨W.heap.size, 0, none⟩) 1 1)) (W.alloc (.cells #[.slice none 0 0] 23)) := by
  have h := infoLS
  cases hi : Tryd.prog.info? 23 with
  | none => rw [hi] at h; cases h
  | some i =>
    rw [hi] at h
    simp only [Option.map_some, Option.some.injEq, Prod.mk.injEq] at h
    obtain ⟨hz, hs, hb⟩ := h
    have hr := run_makeSlice (P := Tryd.prog) (w := W) 34 23 i (.slice none 0 0) Tryd.underlying34 hi hz .i64 .i64 1 1 (by omega) (by omega) (by rw [hs]; decide) (by rw [hb]; decide) (by omega)
    rw [hs] at hr
    unfold execOp
    have hm : madeCells (Value.slice none 0 0).cells (Int.toNat 1 * 1) = #[.slice none 0 0] := by kernel_rfl
    simp only [ho, hx, Sem.run_bind, hr, hm]
    rfl
theorem own_app {w w1 W : World} {gd gl g5 : Nat} {L : List Int} {v9 v1 : Value} {ch : List S39} {p1 : Int} (h : CC w w1 W gd L gl g5 v9 ch p1) (hat : v1.ownBlock = v9.ownBlock ∨ ∃ b, v1.ownBlock = some b ∧ W.heap.size ≤ b) : some gl ≠ v1.ownBlock := by
  rcases hat with e | ⟨b, e, hb⟩
  · rw [e]; exact Kd.R_ne h.q.cr h.q.b (by decide)
  · rw [e]
    intro z
    injection z with z
    have := blk_lt h.q.b
    omega
structure ChsOk (w w1 : World) (gd : Nat) (L : List Int) (p1 : Int) (e : Ending) (w' : World) : Prop where
  out : ∃ (gl g5 : Nat) (v : Value) (ch : List S39) (tick : Int), e = .returned (.tuple #[.slice (some ⟨gl, 0, none⟩) 1 1, .int .i64 tick]) ∧ Gd 1 p1 2 ch ∧ ch.length ≤ 14 ∧ (0 ≤ tick ∧ tick ≤ 40) ∧ CC w w1 w' gd L gl g5 v ch p1
set_option maxRecDepth 100000 in
set_option maxHeartbeats 8000000 in
theorem chains_mk (w w1 : World) (gd : Nat) (L : List Int) (p1 : Int) (hb : Below w.heap.size w w1) (hd : ∃ at_, 0 ≤ at_ ∧ IsS57 w w1 gd L at_) (hL : L.length ≤ 1000000) :
    Calls Tryd.prog 27 #[.pointer (some ⟨gd, 0, none⟩), .agg #[.int .i64 1, .int .i64 p1], .int .i64 1, .int .i64 14] w1 (ChsOk w w1 gd L p1) := by
  have mixed : (Tryd.prog).follows .mixedOrders = true := by kernel_rfl
  have hu39 := Tryd.underlying39
  have hu25 := Tryd.underlying25
  have HB := Aside0.mk hb
  have HD := Aside0.mk hd
  clear hb hd
  go_enter Tryd.func27, Tryd.ntmps27
  go_upto_region 2 with (first | ((with_reducible refine gate_dst (N := 18) rfl ?_); refine Kd.event_run rfl (run_make1 _ _ _ rfl rfl) ?_))
  have HX0 : Aside0 (CC w w1 ((w1.alloc (.cells #[.int .i64 1, .int .i64 p1] 25)).alloc (.cells #[.slice none 0 0] 23)) gd L (w1.heap.size + 1) w1.heap.size (.slice none 0 0) [] p1) := by
    obtain ⟨at_, h0, hd⟩ := HD.out
    have hb2 : Below w1.heap.size w1 ((w1.alloc (.cells #[.int .i64 1, .int .i64 p1] 25)).alloc (.cells #[.slice none 0 0] 23)) := below_alloc (below_alloc (Below.refl _ _) _) _
    exact ⟨⟨⟨below_step HB.out hb2, HB.out.size, ⟨at_, h0, hd.below hb2⟩, KeepBut.of_below hb2 gd none, two_new w1 _ _ _ _, Kd.R_nil _ _ _ _ _⟩, blk_alloc (heap_alloc_new w1 _) _, Nat.le_succ _⟩⟩
  obtain ⟨W2, hW2⟩ : ∃ W2, W2 = (w1.alloc (.cells #[.int .i64 1, .int .i64 p1] 25)).alloc (.cells #[.slice none 0 0] 23) := ⟨_, rfl⟩
  rw [← hW2] at HX0 ⊢
  clear hW2 HB HD
  obtain ⟨gl, hgl⟩ : ∃ gl, w1.heap.size + 1 = gl := ⟨_, rfl⟩
  rw [hgl] at HX0 ⊢
  obtain ⟨g5, hg5⟩ : ∃ g5, w1.heap.size = g5 := ⟨_, rfl⟩
  rw [hg5] at HX0 ⊢
  clear hgl hg5
  have HX := HX0
  clear HX0
  go_wp2_with (first | (go_at_call 16; first | (with_reducible refine (HX.out.turn hL 4 (by decide)).mono ?_; rintro e w3 ⟨t1, rfl, ht1, ht1', hx⟩; clear HX; have HX := Aside0.mk hx; clear hx) | (with_reducible refine (HX.out.turn hL 15 (by decide)).mono ?_; rintro e w4 ⟨t2, rfl, ht2, ht2', hx⟩; clear HX; have HX := Aside0.mk hx; clear hx)))
  go_loopw [11, 12, 13, 14, 15, 16] (fun s11 s12 s13 s14 s15 s16 wr => ∃ (v : Value) (ch : List S39) (tick k : Int), s11 = .int .i64 tick ∧ s12 = .int .i64 k ∧ (0 ≤ k ∧ (ch.length : Int) + k ≤ 14) ∧ (0 ≤ tick ∧ tick + 2 * k ≤ 40) ∧ Aside0 (Gd 1 p1 2 ch) ∧ Aside0 (CC w w1 wr gd L gl g5 v ch p1)) (fun _ s12 _ _ _ _ _ => (intOf s12).toNat)
  case atStart => exact ⟨_, [], _, _, rfl, rfl, ⟨by omega, by simp; omega⟩, ⟨by omega, by omega⟩, ⟨Gd.nil _ _ _⟩, HX⟩
  case round =>
    clear HX
    obtain ⟨v, ch, tick, k, rfl, rfl, hkk, htk, HG, HX⟩ := hrel
    obtain ⟨A9, c9, ev⟩ := Kd.R_slice HX.out.q.cr
    subst ev
    by_cases hlt : 0 < k
    case neg =>
      have d1 : decide (0 < k) = false := decide_eq_false hlt
      go_wp2
      go_ret2
      exact ⟨⟨gl, g5, _, ch, tick, rfl, HG.out, by omega, by omega, HX.out⟩⟩
    case pos =>
      have d1 : decide (0 < k) = true := decide_eq_true hlt
      have hp0_ : wr.cell? ⟨g5, 0, none⟩ = some (.int .i64 1) := (blk_cell HX.out.pb 0).trans rfl
      have hcl : ch.length ≤ 200 := by omega
      have hti : I64 tick := by unfold I64; omega
      go_upto_region 10 with (first | (go_at_call 16; with_reducible refine (HX.out.turn hL 1 (by decide)).mono ?_; rintro e w5 ⟨t1, rfl, ht1, ht1', hx⟩; clear HX hp0_; have HX := Aside0.mk hx; clear hx; obtain rfl : t1 = 0 := (by omega); clear ht1 ht1'; have hp0_ : w5.cell? ⟨g5, 0, none⟩ = some (.int .i64 1) := (blk_cell HX.out.pb 0).trans rfl; have hp1_ : w5.cell? ⟨g5, 1, none⟩ = some (.int .i64 p1) := (blk_cell HX.out.pb 1).trans rfl; have hg0_ : w5.cell? ⟨gl, 0, none⟩ = some (.slice A9 ch.length c9) := (blk_cell HX.out.q.b 0).trans rfl; have hpl_ := blk_lt HX.out.pb; have hgl_ := blk_lt HX.out.q.b))
      have hcw := HX.out
      have hl5 := hcw.q.kp.1
      have hn5 : some w5.heap.size ≠ (Value.slice A9 ch.length c9).ownBlock := by have := Kd.R_ne_new hcw.q.cr 0; simpa using this
      go_cut [15, 16] (fun s15 s16 wx => ∃ (g15 : Nat) (s0 s1 s2 s3 s4 s5 s6 s7 s8 s9 s10 : Int) (b : Bool), s15 = .pointer (some ⟨g15, 0, none⟩) ∧ s16 = .bool b ∧ Aside0 (b = true → Gd 1 p1 2 (ch ++ [⟨s0, s1, s2, s3, s4, s5, s6, s7, s8, s9, s10⟩])) ∧ Aside0 (CC w w1 wx gd L gl g5 (.slice A9 ch.length c9) ch p1) ∧ Aside0 (wx.heap[g15]? = some (.cells #[.int .i64 s0, .int .i64 s1, .int .i64 s2, .int .i64 s3, .int .i64 s4, .int .i64 s5, .int .i64 s6, .int .i64 s7, .int .i64 s8, .int .i64 s9, .int .i64 s10] 39 (0, 0))))
      case first =>
        go_region_with (first | (go_at_call 43; (first | (with_reducible refine (CC.say hcw hL HG.out hcl hti).mono ?_; rintro e w' ⟨s, b, hs, rfl, hcw, -⟩) | (with_reducible refine (CC.say (CC.drew hcw) hL HG.out hcl hti).mono ?_; rintro e w' ⟨s, b, hs, rfl, hcw, -⟩) | (with_reducible refine (CC.sayZ hcw hL HG.out hcl hti).mono ?_; rintro e w' ⟨s, b, hs, rfl, hcw, hz⟩; have hz0_ : w'.cell? ⟨w5.heap.size, 0, none⟩ = some (.int .i64 0) := (blk_cell hz 0).trans rfl; have hf0_ := blk_frozen hz 0; have hz1_ : w'.cell? ⟨w5.heap.size, 1, none⟩ = some (.int .i64 0) := (blk_cell hz 1).trans rfl; have hf1_ := blk_frozen hz 1; have hz2_ : w'.cell? ⟨w5.heap.size, 2, none⟩ = some (.int .i64 0) := (blk_cell hz 2).trans rfl; have hf2_ := blk_frozen hz 2; have hz3_ : w'.cell? ⟨w5.heap.size, 3, none⟩ = some (.int .i64 0) := (blk_cell hz 3).trans rfl; have hf3_ := blk_frozen hz 3; have hz4_ : w'.cell? ⟨w5.heap.size, 4, none⟩ = some (.int .i64 0) := (blk_cell hz 4).trans rfl; have hf4_ := blk_frozen hz 4; have hz5_ : w'.cell? ⟨w5.heap.size, 5, none⟩ = some (.int .i64 0) := (blk_cell hz 5).trans rfl; have hf5_ := blk_frozen hz 5; have hz6_ : w'.cell? ⟨w5.heap.size, 6, none⟩ = some (.int .i64 0) := (blk_cell hz 6).trans rfl; have hf6_ := blk_frozen hz 6; have hz7_ : w'.cell? ⟨w5.heap.size, 7, none⟩ = some (.int .i64 0) := (blk_cell hz 7).trans rfl; have hf7_ := blk_frozen hz 7; have hz8_ : w'.cell? ⟨w5.heap.size, 8, none⟩ = some (.int .i64 0) := (blk_cell hz 8).trans rfl; have hf8_ := blk_frozen hz 8; have hz9_ : w'.cell? ⟨w5.heap.size, 9, none⟩ = some (.int .i64 0) := (blk_cell hz 9).trans rfl; have hf9_ := blk_frozen hz 9; have hz10_ : w'.cell? ⟨w5.heap.size, 10, none⟩ = some (.int .i64 0) := (blk_cell hz 10).trans rfl; have hf10_ := blk_frozen hz 10; have hzl_ := blk_lt hz) | (with_reducible refine (CC.sayD hcw hL HG.out hcl hti).mono ?_; rintro e w' ⟨s, b, hs, rfl, hcw, hz⟩; have hz0_ : w'.cell? ⟨w5.heap.size, 0, none⟩ = some (.int .i64 0) := (blk_cell hz 0).trans rfl; have hf0_ := blk_frozen hz 0; have hz1_ : w'.cell? ⟨w5.heap.size, 1, none⟩ = some (.int .i64 0) := (blk_cell hz 1).trans rfl; have hf1_ := blk_frozen hz 1; have hz2_ : w'.cell? ⟨w5.heap.size, 2, none⟩ = some (.int .i64 0) := (blk_cell hz 2).trans rfl; have hf2_ := blk_frozen hz 2; have hz3_ : w'.cell? ⟨w5.heap.size, 3, none⟩ = some (.int .i64 0) := (blk_cell hz 3).trans rfl; have hf3_ := blk_frozen hz 3; have hz4_ : w'.cell? ⟨w5.heap.size, 4, none⟩ = some (.int .i64 0) := (blk_cell hz 4).trans rfl; have hf4_ := blk_frozen hz 4; have hz5_ : w'.cell? ⟨w5.heap.size, 5, none⟩ = some (.int .i64 0) := (blk_cell hz 5).trans rfl; have hf5_ := blk_frozen hz 5; have hz6_ : w'.cell? ⟨w5.heap.size, 6, none⟩ = some (.int .i64 0) := (blk_cell hz 6).trans rfl; have hf6_ := blk_frozen hz 6; have hz7_ : w'.cell? ⟨w5.heap.size, 7, none⟩ = some (.int .i64 0) := (blk_cell hz 7).trans rfl; have hf7_ := blk_frozen hz 7; have hz8_ : w'.cell? ⟨w5.heap.size, 8, none⟩ = some (.int .i64 0) := (blk_cell hz 8).trans rfl; have hf8_ := blk_frozen hz 8; have hz9_ : w'.cell? ⟨w5.heap.size, 9, none⟩ = some (.int .i64 0) := (blk_cell hz 9).trans rfl; have hf9_ := blk_frozen hz 9; have hz10_ : w'.cell? ⟨w5.heap.size, 10, none⟩ = some (.int .i64 0) := (blk_cell hz 10).trans rfl; have hf10_ := blk_frozen hz 10; have hzl_ := blk_lt hz)); have HSN := Aside0.mk hs; clear hs; obtain ⟨s0, s1, s2, s3, s4, s5, s6, s7, s8, s9, s10⟩ := s; (try dsimp only)))
        all_goals (go_wp2_with fail)
        all_goals go_meet
        all_goals first
          | (with_reducible exact ⟨_, s0, s1, s2, s3, s4, s5, s6, s7, s8, s9, s10, b, rfl, rfl, HSN, ⟨CC.alloc hcw _⟩, ⟨heap_alloc_new _ _⟩⟩)
          | (obtain ⟨hm1, hm2⟩ := CC.far11 hcw hz hl5 hn5 (.int .i64 s0) (.int .i64 s1) (.int .i64 s2) (.int .i64 s3) (.int .i64 s4) (.int .i64 s5) (.int .i64 s6) (.int .i64 s7) (.int .i64 s8) (.int .i64 s9) (.int .i64 s10)
             with_reducible exact ⟨_, s0, s1, s2, s3, s4, s5, s6, s7, s8, s9, s10, b, rfl, rfl, HSN, ⟨hm1⟩, ⟨hm2⟩⟩)
      case rest =>
      clear hcw HX hp0_ hp1_ hg0_ hpl_ hgl_ hl5 hn5
      obtain ⟨g15, s0, s1, s2, s3, s4, s5, s6, s7, s8, s9, s10, b, rfl, rfl, HSN, HX, HZ⟩ := hcut
      cases b
      case false =>
        go_wp2_with (first | (go_at_call 16; with_reducible refine (HX.out.turn hL 3 (by decide)).mono ?_; rintro e w7 ⟨t3, rfl, ht3, ht3', hx⟩; clear HX; have HX := Aside0.mk hx; clear hx))
        go_roundw
        case rel => exact ⟨_, ch, _, _, rfl, rfl, ⟨by omega, by omega⟩, ⟨by omega, by omega⟩, HG, HX⟩
        case measure => simp only [intOf]; omega
      case true =>
        have HGN := Aside0.mk (HSN.out rfl)
        clear HSN
        have hz0_ : wc.cell? ⟨g15, 0, none⟩ = some (.int .i64 s0) := (blk_cell HZ.out 0).trans rfl
        have hz1_ : wc.cell? ⟨g15, 1, none⟩ = some (.int .i64 s1) := (blk_cell HZ.out 1).trans rfl
        have hz2_ : wc.cell? ⟨g15, 2, none⟩ = some (.int .i64 s2) := (blk_cell HZ.out 2).trans rfl
        have hz3_ : wc.cell? ⟨g15, 3, none⟩ = some (.int .i64 s3) := (blk_cell HZ.out 3).trans rfl
        have hz4_ : wc.cell? ⟨g15, 4, none⟩ = some (.int .i64 s4) := (blk_cell HZ.out 4).trans rfl
        have hz5_ : wc.cell? ⟨g15, 5, none⟩ = some (.int .i64 s5) := (blk_cell HZ.out 5).trans rfl
        have hz6_ : wc.cell? ⟨g15, 6, none⟩ = some (.int .i64 s6) := (blk_cell HZ.out 6).trans rfl
        have hz7_ : wc.cell? ⟨g15, 7, none⟩ = some (.int .i64 s7) := (blk_cell HZ.out 7).trans rfl
        have hz8_ : wc.cell? ⟨g15, 8, none⟩ = some (.int .i64 s8) := (blk_cell HZ.out 8).trans rfl
        have hz9_ : wc.cell? ⟨g15, 9, none⟩ = some (.int .i64 s9) := (blk_cell HZ.out 9).trans rfl
        have hz10_ : wc.cell? ⟨g15, 10, none⟩ = some (.int .i64 s10) := (blk_cell HZ.out 10).trans rfl
        have hzl_ := blk_lt HZ.out
        have hg0_ : wc.cell? ⟨gl, 0, none⟩ = some (.slice A9 ch.length c9) := (blk_cell HX.out.q.b 0).trans rfl
        have hgf_ := blk_frozen HX.out.q.b 0
        have hgl_ := blk_lt HX.out.q.b
        have hle : (ch.length + 1) * 88 ≤ 140737488355328 := by omega
        go_upto_region 12 with fail
        have hcd := CC.drew HX.out
        have hsz : w.heap.size ≤ (World.drew wc).heap.size := hcd.q.hb.size
        go_region_law (first | (go_loud (refine Kd.R_append_step k39 (w0 := w) (W := World.drew wc) w.heap.size rfl (.tmp 59) (.tmp 61) 23 39 (.agg #[.int .i64 0, .int .i64 0, .int .i64 0, .int .i64 0, .int .i64 0, .int .i64 0, .int .i64 0, .int .i64 0, .int .i64 0, .int .i64 0, .int .i64 0]) 88 rfl Tryd.underlying23 info39 rfl (by decide) (by omega) (.slice A9 ch.length c9) ch (⟨s0, s1, s2, s3, s4, s5, s6, s7, s8, s9, s10⟩ : S39) [.int .i64 s0, .int .i64 s1, .int .i64 s2, .int .i64 s3, .int .i64 s4, .int .i64 s5, .int .i64 s6, .int .i64 s7, .int .i64 s8, .int .i64 s9, .int .i64 s10] (fun k => w1.heap.size ≤ k) (fun _ => False) rfl rfl (k39_mkM _ _ _ _) (fun _ hk => hk.elim) (fun k hk => Nat.le_trans HX.out.q.kp.1 hk) hcd.q.cr hcd.q.hb hsz hle ?_); intro v1 w9 ho hb hg hat; have hn1 : some gl ≠ v1.ownBlock := own_app hcd hat; have hbl_ := blk_grown hcd.q.b hg (Kd.R_ne hcd.q.cr hcd.q.b (by decide)); have hgc_ := (blk_cell hbl_ 0).trans rfl; have hgf_ := blk_frozen hbl_ 0; have hgz_ := blk_lt hbl_; obtain ⟨Ao, co, eo⟩ := Kd.R_slice ho; subst eo; have hq_ := CC.app hcd ho hb hg hn1; simp only [List.length_append, List.length_singleton] at hq_; clear hcd hsz HX; have HX := Aside0.mk hq_; clear hq_ hbl_ ho hb hg hat hn1))
        all_goals (go_wp2_with (first | (go_at_call 16; with_reducible refine (HX.out.turn hL 3 (by decide)).mono ?_; rintro e w7 ⟨t3, rfl, ht3, ht3', hx⟩; clear HX; have HX := Aside0.mk hx; clear hx)))
        all_goals
          refine ⟨⟨_, ch ++ [⟨s0, s1, s2, s3, s4, s5, s6, s7, s8, s9, s10⟩], _, _, rfl, rfl, ⟨by omega, by rw [List.length_append, List.length_singleton]; omega⟩, ⟨by omega, by omega⟩, HGN, HX⟩, ?_⟩
          simp only [intOf]
          omega
structure ChOk (w w1 : World) (gd : Nat) (L : List Int) (p1 : Int) (e : Ending) (w' : World) : Prop where
  out : ∃ (A : Option Addr) (c : Nat) (ch : List S39) (tick : Int), e = .returned (.tuple #[.slice A ch.length c, .int .i64 tick]) ∧ Gd 1 p1 2 ch ∧ ch.length ≤ 14 ∧ (0 ≤ tick ∧ tick ≤ 40) ∧ Below w.heap.size w w' ∧ (∃ at_, 0 ≤ at_ ∧ IsS57 w w' gd L at_) ∧ KeepBut w1 w' gd none ∧ Kd.R k39 39 w' w.heap.size (fun k => w1.heap.size ≤ k) (.slice A ch.length c) ch
set_option maxRecDepth 100000 in
set_option maxHeartbeats 8000000 in
theorem chain_mk (w w1 : World) (gd : Nat) (L : List Int) (p1 : Int) (hb : Below w.heap.size w w1) (hd : ∃ at_, 0 ≤ at_ ∧ IsS57 w w1 gd L at_) (hL : L.length ≤ 1000000) :
    Calls Tryd.prog 12 #[.pointer (some ⟨gd, 0, none⟩), .agg #[.int .i64 1, .int .i64 p1]] w1 (ChOk w w1 gd L p1) := by
  have hu25 := Tryd.underlying25
  have hb2 : Below w1.heap.size w1 (w1.alloc (.cells #[.int .i64 1, .int .i64 p1] 25)) := below_alloc (Below.refl _ _) _
  have HB : Aside0 (Below w.heap.size w (w1.alloc (.cells #[.int .i64 1, .int .i64 p1] 25))) := ⟨below_step hb hb2⟩
  have HD : Aside0 (∃ at_, 0 ≤ at_ ∧ IsS57 w (w1.alloc (.cells #[.int .i64 1, .int .i64 p1] 25)) gd L at_) := ⟨by obtain ⟨at_, h0, h1⟩ := hd; exact ⟨at_, h0, h1.below hb2⟩⟩
  have HK := Aside0.mk (KeepBut.of_below hb2 gd none)
  have HS := Aside0.mk hb2.size
  clear hb hd hb2
  go_enter Tryd.func12, Tryd.ntmps12
  go_upto_region 2 with (first | (go_at_call 27; with_reducible refine (chains_mk w _ gd L p1 HB.out HD.out hL).mono ?_; rintro e w2 ⟨gl, g5, v, ch, tick, rfl, hg, hl, htk, hx⟩; have HG := Aside0.mk hg; have HX := Aside0.mk hx; clear hg hx))
  obtain ⟨A9, c9, ev⟩ := Kd.R_slice HX.out.q.cr
  subst ev
  have hg0_ : w2.cell? ⟨gl, 0, none⟩ = some (.slice A9 ch.length c9) := (blk_cell HX.out.q.b 0).trans rfl
  go_wp2
  go_ret2
  exact ⟨⟨A9, c9, ch, tick, rfl, HG.out, hl, htk, HX.out.q.hb, HX.out.q.dk, HK.out.trans HX.out.q.kp (.inl rfl), Kd.R_mono HX.out.q.cr (fun k hk => Nat.le_trans HS.out hk)⟩⟩
end Go.Proofs.YtcalkhlchjjalaaDoor.Gca

namespace Go.Proofs.YtcalkhlchjjalaaDoor.Gwr
open Go Go.RowKit Go.Proofs Go.Proofs.YtcalkhlchjjalaaDoor.Gm Go.Proofs.YtcalkhlchjjalaaDoor.Gdm Go.Proofs.YtcalkhlchjjalaaDoor.Gmr Go.Proofs.YtcalkhlchjjalaaDoor.Gsy Go.Proofs.YtcalkhlchjjalaaDoor.Gnx Go.Proofs.YtcalkhlchjjalaaDoor.Gck Go.Proofs.YtcalkhlchjjalaaDoor.Ggd Go.Proofs.YtcalkhlchjjalaaDoor.Q
set_option linter.unusedVariables false
theorem rd_eq {l l' : List S39} {i j : Nat} (h : l'[i]? = l[j]?) : rd_T39 l' (i : Int) = rd_T39 l (j : Int) := by
  unfold rd_T39
  rw [List.getD_eq_getElem?_getD, List.getD_eq_getElem?_getD, Int.toNat_natCast, Int.toNat_natCast, h]
theorem errAt_eq {d : List S25} {l l' : List S39} {m i : Nat} (hi : i < m) (hpre : ∀ j, j < m → l'[j]? = l[j]?) : errAt d l' i = errAt d l i := by
  have e0 : rd_T39 l' ((0 : Nat) : Int) = rd_T39 l ((0 : Nat) : Int) := rd_eq (hpre 0 (by omega))
  have e1 : rd_T39 l' (i : Int) = rd_T39 l (i : Int) := rd_eq (hpre i hi)
  have e2 : rd_T39 l' ((i - 1 : Nat) : Int) = rd_T39 l ((i - 1 : Nat) : Int) := rd_eq (hpre (i - 1) (by omega))
  unfold errAt fol prevD
  rw [e0, e1, e2]
theorem firstE_at {d : List S25} {l' : List S39} {m : Nat} (h0 : ∀ i, i < m → errAt d l' i = 0) (hm : errAt d l' m = 16) : ∀ (n i : Nat), i ≤ m → m < i + n → firstE d l' n i = 16
  | 0, i, hi, hn => absurd hn (by omega)
  | n + 1, i, hi, hn => by
    by_cases h : i = m
    · subst h
      rw [firstE, if_neg (by rw [hm]; decide), hm]
    · rw [firstE, if_pos (h0 i (by omega))]
      exact firstE_at h0 hm n (i + 1) (by omega) (by omega)
theorem wrong {d : List S25} {p0 p1 dst : Int} (hd : Holds d p0 p1) {l l' : List S39} (h : Gd p0 p1 dst l) {m q : Nat} (hpre : ∀ j, j < m → l'[j]? = l[j]?) (hq : l'[m]? = l[q]?) (hql : q < l.length) (hne : q ≠ m) (hml : m ≤ l.length) (hm : m < l'.length) (hl : l'.length ≤ 256) : chkC d l' = 16 := by
  have a := h q hql
  have e := rd_eq hq
  have h16 : errAt d l' m = 16 := by
    unfold errAt
    rw [e, if_neg (by rw [a.v]; simp), if_neg (by rw [verS_ok hd a.v a.e0 a.em]; simp), if_pos]
    unfold fol
    rw [e, a.e2, beq_eq_false_iff_ne.2 (show (q : Int) + 1 ≠ (m : Int) + 1 by omega)]
    simp
  unfold chkC
  rw [if_neg (fun z => z hd.1), if_neg (by omega)]
  exact firstE_at (fun i hi => by rw [errAt_eq hi hpre]; exact h.err hd i (by omega)) h16 l'.length 0 (by omega) (by omega)
section
variable {d : List S25} {p0 p1 dst : Int} {l : List S39} {k : Nat} (hd : Holds d p0 p1) (h : Gd p0 p1 dst l) (hk : k + 1 < l.length) (hl : l.length ≤ 255)
include hd h hk hl
theorem swapped : chkC d ((l.set k (l[k + 1]'hk)).set (k + 1) (l[k]'(by omega))) = 16 := by
  refine wrong hd h (m := k) (q := k + 1) (fun j hj => ?_) ?_ hk (by omega) (by omega) (by simp; omega) (by simp; omega)
  · rw [List.getElem?_set_ne (by omega), List.getElem?_set_ne (by omega)]
  · rw [List.getElem?_set_ne (by omega), List.getElem?_set_self (by omega), List.getElem?_eq_getElem hk]
theorem left_out : chkC d (l.take k ++ l.drop (k + 1)) = 16 := by
  have ht : (l.take k).length = k := by rw [List.length_take]; omega
  refine wrong hd h (m := k) (q := k + 1) (fun j hj => ?_) ?_ hk (by omega) (by omega) (by simp; omega) (by simp; omega)
  · rw [List.getElem?_append_left (by omega), List.getElem?_take, if_pos hj]
  · rw [List.getElem?_append_right (by omega), ht, Nat.sub_self, List.getElem?_drop, Nat.add_zero]
theorem twice : chkC d ((l.take (k + 1) ++ [l[k]'(by omega)]) ++ l.drop (k + 1)) = 16 := by
  have ht : (l.take (k + 1)).length = k + 1 := by rw [List.length_take]; omega
  refine wrong hd h (m := k + 1) (q := k) (fun j hj => ?_) ?_ (by omega) (by omega) (by omega) (by simp; omega) (by simp; omega)
  · rw [List.getElem?_append_left (by simp; omega), List.getElem?_append_left (by omega), List.getElem?_take, if_pos hj]
  · rw [List.getElem?_append_left (by simp; omega), List.getElem?_append_right (by omega), ht, Nat.sub_self, List.getElem?_eq_getElem (show k < l.length by omega)]
    rfl
end
end Go.Proofs.YtcalkhlchjjalaaDoor.Gwr

namespace Go.Proofs.YtcalkhlchjjalaaDoor.Gap
open Go Go.RowKit Go.Proofs Go.Proofs.YtcalkhlchjjalaaDoor.Q Go.Proofs.YtcalkhlchjjalaaDoorW.PrintWords Go.Proofs.YtcalkhlchjjalaaDoorW.PrintLast Go.Proofs.YtcalkhlchjjalaaDoorW.PrintMore
set_option linter.unusedVariables false
section
variable {P : Program} {ops : Array Oper} {rest : List Oper} {o : Oper} {a : Act} {Q : Exit → Act → World → Prop} {Kc : Act → World → Prop}
theorem run_full {w0 W : World} (base : Nat) (t ty e : TypeId) (z : Value) (ht : P.underlying t = some (.slice e)) (hinfo : (P.info? e).map (fun i => (i.zero, i.size, i.bytes)) = some (some z, 11, 88)) (hz : z.cells.size = 11)
    (xs ys : List S39) (ax ay : Addr) (n m cap c : Nat) (ok : Nat → Prop) (hfresh : ∀ k, W.heap.size ≤ k → ok k)
    (HX : Kd.C k39 W (some ax) n xs) (HY : Kd.C k39 W (some ay) m ys) (hcap : cap < n + m) (HB : Below base w0 W) (hbase : base ≤ W.heap.size) (hl : (n + m) * 88 ≤ 140737488355328) :
    ∃ w1 c1, (Builtin.append_ #[t, t] ty #[.slice (some ax) n cap, .slice (some ay) m c]).run P W = .ok (.slice (some ⟨W.heap.size, 0, none⟩) (n + m) c1) w1 ∧ Kd.R k39 e w1 base ok (.slice (some ⟨W.heap.size, 0, none⟩) (n + m) c1) (xs ++ ys) ∧ Below W.heap.size W w1 ∧ Below base w0 w1 := by
  obtain ⟨i, hi, hzz⟩ := Option.map_eq_some_iff.1 hinfo
  simp only [Prod.mk.injEq] at hzz
  obtain ⟨hz0, hz1, hz2⟩ := hzz
  have hnx : xs.length = n := HX.1
  have hmy : ys.length = m := HY.1
  subst hnx
  subst hmy
  obtain ⟨cx, hrx, hcx⟩ := ReadsRow.inner_ HX
  obtain ⟨cy, hry, hcy⟩ := ReadsRow.inner_ HY
  have hlx : cx.length = xs.length * i.size := by rw [hz1]; exact hrx.1
  have hly : cy.length = ys.length * i.size := by rw [hz1]; exact hry.1
  have hbe : Below W.heap.size W (W.drew.alloc (.cells (cx.toArray ++ cy.toArray ++ Builtin.zeroCells z.cells (grownCap W (xs.length + ys.length) cap e - (xs.length + ys.length))) e)) := below_alloc (below_drew1 (Below.refl _ _)) _
  refine ⟨_, _, run_append_grow (P := P) W t ty e i z ht hi hz0 ax xs.length cap cx hlx hcx ay ys.length c cy hly hcy (by omega) (by omega) (growslice_fits hcap (by rw [hz2]; exact hl)), ⟨fun k hk => ?_, cx ++ cy, ⟨?_, .inr ⟨W.heap.size, _, _, by rw [List.length_append], hbase, heap_alloc_new W.drew _, by rw [List.length_append]; exact grownCap_ge W (xs.length + ys.length) cap e, grownCap_le_maxLen W (xs.length + ys.length) cap e (by simp only [maxLen]; omega), ?_, ?_⟩⟩, ?_⟩, hbe, ?_⟩
  · have : k = W.heap.size := by simpa [Value.ownBlock] using hk.symm
    exact hfresh k (by omega)
  · rw [List.length_append, List.length_append, hlx, hly, ← Nat.add_mul, hz1]
    rfl
  · simp only [Array.size_append, List.size_toArray, size_zeroCells, hz, hlx, hly, hz1, ← Nat.add_mul]
    show _ = grownCap W (xs.length + ys.length) cap e * 11
    have := grownCap_ge W (xs.length + ys.length) cap e
    congr 1
    omega
  · have hlen : (cx ++ cy).length = (xs.length + ys.length) * 11 := by rw [List.length_append, hlx, hly, ← Nat.add_mul, hz1]
    simp only [Array.toList_append, List.append_assoc, List.length_append]
    rw [← List.append_assoc]
    show List.take ((xs.length + ys.length) * 11) _ = _
    rw [← hlen]
    exact List.take_left
  · exact Kd.reps_append (hrx.imp_ (fun p q hp => by rw [k39_open hp]; exact k39_mkM _ _ _ _)) (hry.imp_ (fun p q hp => by rw [k39_open hp]; exact k39_mkM _ _ _ _))
  · exact HB.drew.alloc hbase _
theorem R_full_step {w0 W : World} (base : Nat) (hw : Region.wanted o (yielded ops a.tmps) = true) (s x : Operand) (t e : TypeId) (z : Value)
    (ho : o.op = .call { callee := .builtin .append, args := #[s, x], argTypes := #[t, t] })
    (ht : P.underlying t = some (.slice e)) (hinfo : (P.info? e).map (fun i => (i.zero, i.size, i.bytes)) = some (some z, 11, 88)) (hz : z.cells.size = 11)
    (xs ys : List S39) (ax ay : Addr) (n m cap c : Nat) (ok : Nat → Prop) (hs : a.eval s = .slice (some ax) n cap) (hx : a.eval x = .slice (some ay) m c) (hfresh : ∀ k, W.heap.size ≤ k → ok k)
    (HX : Kd.C k39 W (some ax) n xs) (HY : Kd.C k39 W (some ay) m ys) (hcap : cap < n + m) (HB : Below base w0 W) (hbase : base ≤ W.heap.size) (hl : (n + m) * 88 ≤ 140737488355328)
    (h : ∀ v1 w1, Kd.R k39 e w1 base ok v1 (xs ++ ys) → Below W.heap.size W w1 → Below base w0 w1 → Kc (a.put o.dst v1) w1) :
    if Region.wanted o (yielded ops a.tmps) = true then Oper.wp P o a W Kc Q else Kc (a.put o.dst undef) W := by
  obtain ⟨w1, c1, hrun, h1, h2, h3⟩ := run_full (P := P) base t o.type e z ht hinfo hz xs ys ax ay n m cap c ok hfresh HX HY hcap HB hbase hl
  rw [if_pos hw]
  unfold Oper.wp execOp
  simp only [ho, resolve, invoke, builtin, Sem.run_bind, Sem.run_pure, Result.andThen_ok, List.map_toArray, List.map_cons, List.map_nil, hs, hx, hrun]
  exact h _ _ h1 h2 h3
end
end Go.Proofs.YtcalkhlchjjalaaDoor.Gap

namespace Go.Proofs.YtcalkhlchjjalaaDoor.Gow
open Go Go.RowKit Go.Proofs Go.Proofs.YtcalkhlchjjalaaDoor.Q Go.Proofs.YtcalkhlchjjalaaDoorW.PrintWords Go.Proofs.YtcalkhlchjjalaaDoorW.PrintLast Go.Proofs.YtcalkhlchjjalaaDoorW.PrintMore
set_option linter.unusedVariables false
section
variable {e : Nat} {w : World} {base : Nat} {ok : Nat → Prop} {xs : List S39}
def cel (s : S39) : List Value := [.int .i64 s.f0, .int .i64 s.f1, .int .i64 s.f2, .int .i64 s.f3, .int .i64 s.f4, .int .i64 s.f5, .int .i64 s.f6, .int .i64 s.f7, .int .i64 s.f8, .int .i64 s.f9, .int .i64 s.f10]
theorem R_block {g n c : Nat} (h : Kd.R k39 e w base ok (.slice (some ⟨g, 0, none⟩) n c) xs) (h0 : 0 < n) : ∃ cur : Array Value, xs.length = n ∧ ok g ∧ base ≤ g ∧ w.heap[g]? = some (.cells cur e (0, 0)) ∧ n ≤ c ∧ c ≤ maxLen ∧ cur.size = c * 11 ∧ Reps (k39.M w base ok) 11 xs (cur.toList.take (n * 11)) := by
  obtain ⟨hok, inner, ho, hr⟩ := h
  rcases ho.2 with ⟨h1, h2⟩ | ⟨g', cap, cur, h1, hg, hb, h2, h3, h4, h5⟩
  · simp at h1
  · simp only [Value.slice.injEq, Option.some.injEq, Addr.mk.injEq, and_true] at h1
    obtain ⟨rfl, rfl, rfl⟩ := h1
    exact ⟨cur, rfl, hok g rfl, hg, hb, h2, h3, h4, by rw [show k39.sz = 11 from rfl] at h5 hr; rw [h5]; exact hr⟩
theorem R_of_block {g n c : Nat} {cur : Array Value} (h1 : xs.length = n) (hok : ok g) (hg : base ≤ g) (hb : w.heap[g]? = some (.cells cur e (0, 0))) (h2 : n ≤ c) (h3 : c ≤ maxLen) (h4 : cur.size = c * 11) (hr : Reps (k39.M w base ok) 11 xs (cur.toList.take (n * 11))) : Kd.R k39 e w base ok (.slice (some ⟨g, 0, none⟩) n c) xs := by
  subst h1
  refine ⟨fun k hk => by simp [Value.ownBlock] at hk; subst hk; exact hok, _, ⟨?_, .inr ⟨g, c, cur, rfl, hg, hb, h2, h3, h4, rfl⟩⟩, hr⟩
  have := Nat.mul_le_mul_right 11 h2
  have hcl : cur.toList.length = c * 11 := (Array.length_toList (xs := cur)).trans h4
  show (List.take (xs.length * 11) cur.toList).length = xs.length * 11
  rw [List.length_take, hcl]
  omega
theorem take_drop_set {l : List Value} {m i k j : Nat} {v : Value} (hj : j < 11) (hm : k * 11 + j < m) (hl : m ≤ l.length) : (((l.set (k * 11 + j) v).take m).drop (i * 11)).take 11 = if i = k then (((l.take m).drop (i * 11)).take 11).set j v else ((l.take m).drop (i * 11)).take 11 := by
  rw [List.take_set, List.drop_set]
  by_cases h : i = k
  · subst h
    rw [if_pos rfl, if_neg (by omega), show i * 11 + j - i * 11 = j by omega, List.take_set]
  · rw [if_neg h]
    by_cases h2 : k < i
    · rw [if_pos (by omega)]
    · rw [if_neg (by omega), List.take_set_of_le (by omega)]
theorem R_cell {g n c k j : Nat} {v : Value} {s : S39} (h : Kd.R k39 e w base ok (.slice (some ⟨g, 0, none⟩) n c) xs) (hk : k < n) (hj : j < 11) (hs : ∀ p, xs[k]? = some p → cel s = (cel p).set j v) : Kd.R k39 e (w.setCell ⟨g, k * 11 + j, none⟩ v) base ok (.slice (some ⟨g, 0, none⟩) n c) (xs.set k s) := by
  obtain ⟨cur, hn, hok, hg, hb, h2, h3, h4, hr⟩ := R_block h (by omega)
  subst hn
  have hle := Nat.mul_le_mul_right 11 h2
  have hcl : cur.toList.length = c * 11 := (Array.length_toList (xs := cur)).trans h4
  have hcl2 : (cur.setIfInBounds (k * 11 + j) v).toList.length = c * 11 := (Array.length_toList (xs := cur.setIfInBounds (k * 11 + j) v)).trans (by rw [Array.size_setIfInBounds]; exact h4)
  refine R_of_block (by simp) hok hg (blk_put hb (k * 11 + j) v rfl) h2 h3 (by rw [Array.size_setIfInBounds]; exact h4) ⟨?_, fun i p hp => ?_⟩
  · rw [List.length_take, hcl2, List.length_set]
    omega
  · rw [Array.toList_setIfInBounds, take_drop_set hj (by omega) (by omega)]
    by_cases hi : i = k
    · subst hi
      rw [if_pos rfl]
      rw [List.getElem?_set_self hk] at hp
      injection hp with hp
      subst hp
      have hq := k39_openM (hr.2 i _ (List.getElem?_eq_getElem hk))
      rw [hq]
      have := hs _ (List.getElem?_eq_getElem hk)
      have e1 := k39_mkM (w.setCell ⟨g, i * 11 + j, none⟩ v) base ok s
      unfold cel at this
      rw [← this]
      exact e1
    · rw [if_neg hi]
      rw [List.getElem?_set_ne (fun z => hi z.symm)] at hp
      rw [k39_openM (hr.2 i p hp)]
      exact k39_mkM _ _ _ _
theorem R_whole {g n c k : Nat} (s : S39) (h : Kd.R k39 e w base ok (.slice (some ⟨g, 0, none⟩) n c) xs) (hk : k < n) :
    Kd.R k39 e (((((((((((w.setCell ⟨g, k * 11, none⟩ (.int .i64 s.f0)).setCell ⟨g, k * 11 + 1, none⟩ (.int .i64 s.f1)).setCell ⟨g, k * 11 + 2, none⟩ (.int .i64 s.f2)).setCell ⟨g, k * 11 + 3, none⟩ (.int .i64 s.f3)).setCell ⟨g, k * 11 + 4, none⟩ (.int .i64 s.f4)).setCell ⟨g, k * 11 + 5, none⟩ (.int .i64 s.f5)).setCell ⟨g, k * 11 + 6, none⟩ (.int .i64 s.f6)).setCell ⟨g, k * 11 + 7, none⟩ (.int .i64 s.f7)).setCell ⟨g, k * 11 + 8, none⟩ (.int .i64 s.f8)).setCell ⟨g, k * 11 + 9, none⟩ (.int .i64 s.f9)).setCell ⟨g, k * 11 + 10, none⟩ (.int .i64 s.f10)) base ok (.slice (some ⟨g, 0, none⟩) n c) (xs.set k s) := by
  have hn : xs.length = n := by obtain ⟨cur, hn, -⟩ := R_block h (by omega); exact hn
  obtain ⟨p, hp⟩ : ∃ p, xs[k]? = some p := ⟨_, List.getElem?_eq_getElem (by omega)⟩
  obtain ⟨p0, p1, p2, p3, p4, p5, p6, p7, p8, p9, p10⟩ := p
  obtain ⟨s0, s1, s2, s3, s4, s5, s6, s7, s8, s9, s10⟩ := s
  have h0 := R_cell (j := 0) (v := .int .i64 s0) (s := ⟨s0, p1, p2, p3, p4, p5, p6, p7, p8, p9, p10⟩) h hk (by decide) (fun p hq => by (rw [hp] at hq; injection hq with hq; subst hq; rfl))
  have h1 := R_cell (j := 1) (v := .int .i64 s1) (s := ⟨s0, s1, p2, p3, p4, p5, p6, p7, p8, p9, p10⟩) h0 hk (by decide) (fun p hq => by (rw [List.getElem?_set_self (by omega)] at hq; injection hq with hq; subst hq; rfl))
  rw [List.set_set] at h1
  have h2 := R_cell (j := 2) (v := .int .i64 s2) (s := ⟨s0, s1, s2, p3, p4, p5, p6, p7, p8, p9, p10⟩) h1 hk (by decide) (fun p hq => by (rw [List.getElem?_set_self (by omega)] at hq; injection hq with hq; subst hq; rfl))
  rw [List.set_set] at h2
  have h3 := R_cell (j := 3) (v := .int .i64 s3) (s := ⟨s0, s1, s2, s3, p4, p5, p6, p7, p8, p9, p10⟩) h2 hk (by decide) (fun p hq => by (rw [List.getElem?_set_self (by omega)] at hq; injection hq with hq; subst hq; rfl))
  rw [List.set_set] at h3
  have h4 := R_cell (j := 4) (v := .int .i64 s4) (s := ⟨s0, s1, s2, s3, s4, p5, p6, p7, p8, p9, p10⟩) h3 hk (by decide) (fun p hq => by (rw [List.getElem?_set_self (by omega)] at hq; injection hq with hq; subst hq; rfl))
  rw [List.set_set] at h4
  have h5 := R_cell (j := 5) (v := .int .i64 s5) (s := ⟨s0, s1, s2, s3, s4, s5, p6, p7, p8, p9, p10⟩) h4 hk (by decide) (fun p hq => by (rw [List.getElem?_set_self (by omega)] at hq; injection hq with hq; subst hq; rfl))
  rw [List.set_set] at h5
  have h6 := R_cell (j := 6) (v := .int .i64 s6) (s := ⟨s0, s1, s2, s3, s4, s5, s6, p7, p8, p9, p10⟩) h5 hk (by decide) (fun p hq => by (rw [List.getElem?_set_self (by omega)] at hq; injection hq with hq; subst hq; rfl))
  rw [List.set_set] at h6
  have h7 := R_cell (j := 7) (v := .int .i64 s7) (s := ⟨s0, s1, s2, s3, s4, s5, s6, s7, p8, p9, p10⟩) h6 hk (by decide) (fun p hq => by (rw [List.getElem?_set_self (by omega)] at hq; injection hq with hq; subst hq; rfl))
  rw [List.set_set] at h7
  have h8 := R_cell (j := 8) (v := .int .i64 s8) (s := ⟨s0, s1, s2, s3, s4, s5, s6, s7, s8, p9, p10⟩) h7 hk (by decide) (fun p hq => by (rw [List.getElem?_set_self (by omega)] at hq; injection hq with hq; subst hq; rfl))
  rw [List.set_set] at h8
  have h9 := R_cell (j := 9) (v := .int .i64 s9) (s := ⟨s0, s1, s2, s3, s4, s5, s6, s7, s8, s9, p10⟩) h8 hk (by decide) (fun p hq => by (rw [List.getElem?_set_self (by omega)] at hq; injection hq with hq; subst hq; rfl))
  rw [List.set_set] at h9
  have h10 := R_cell (j := 10) (v := .int .i64 s10) (s := ⟨s0, s1, s2, s3, s4, s5, s6, s7, s8, s9, s10⟩) h9 hk (by decide) (fun p hq => by (rw [List.getElem?_set_self (by omega)] at hq; injection hq with hq; subst hq; rfl))
  rw [List.set_set] at h10
  exact h10
theorem R_cells {g n c k : Nat} {s : S39} (h : Kd.R k39 e w base ok (.slice (some ⟨g, 0, none⟩) n c) xs) (hk : k < n) (hs : xs[k]? = some s) :
    w.cell? ⟨g, k * 11, none⟩ = some (.int .i64 s.f0) ∧ w.cell? ⟨g, k * 11 + 1, none⟩ = some (.int .i64 s.f1) ∧ w.cell? ⟨g, k * 11 + 2, none⟩ = some (.int .i64 s.f2) ∧ w.cell? ⟨g, k * 11 + 3, none⟩ = some (.int .i64 s.f3) ∧ w.cell? ⟨g, k * 11 + 4, none⟩ = some (.int .i64 s.f4) ∧ w.cell? ⟨g, k * 11 + 5, none⟩ = some (.int .i64 s.f5) ∧ w.cell? ⟨g, k * 11 + 6, none⟩ = some (.int .i64 s.f6) ∧ w.cell? ⟨g, k * 11 + 7, none⟩ = some (.int .i64 s.f7) ∧ w.cell? ⟨g, k * 11 + 8, none⟩ = some (.int .i64 s.f8) ∧ w.cell? ⟨g, k * 11 + 9, none⟩ = some (.int .i64 s.f9) ∧ w.cell? ⟨g, k * 11 + 10, none⟩ = some (.int .i64 s.f10) := by
  obtain ⟨cur, hn, -, -, hb, h2, h3, h4, hr⟩ := R_block h (by omega)
  have hq := k39_openM (hr.2 k s hs)
  have hc : ∀ j, j < 11 → cur[k * 11 + j]? = ([.int .i64 s.f0, .int .i64 s.f1, .int .i64 s.f2, .int .i64 s.f3, .int .i64 s.f4, .int .i64 s.f5, .int .i64 s.f6, .int .i64 s.f7, .int .i64 s.f8, .int .i64 s.f9, .int .i64 s.f10] : List Value)[j]? := fun j hj => by
    rw [← hq, List.getElem?_take_of_lt hj, List.getElem?_drop, List.getElem?_take_of_lt (by omega), Array.getElem?_toList]
  exact ⟨(blk_cell hb (k * 11)).trans (hc 0 (by decide)), (blk_cell hb (k * 11 + 1)).trans (hc 1 (by decide)), (blk_cell hb (k * 11 + 2)).trans (hc 2 (by decide)), (blk_cell hb (k * 11 + 3)).trans (hc 3 (by decide)), (blk_cell hb (k * 11 + 4)).trans (hc 4 (by decide)), (blk_cell hb (k * 11 + 5)).trans (hc 5 (by decide)), (blk_cell hb (k * 11 + 6)).trans (hc 6 (by decide)), (blk_cell hb (k * 11 + 7)).trans (hc 7 (by decide)), (blk_cell hb (k * 11 + 8)).trans (hc 8 (by decide)), (blk_cell hb (k * 11 + 9)).trans (hc 9 (by decide)), (blk_cell hb (k * 11 + 10)).trans (hc 10 (by decide))⟩
theorem R_thaw {g n c : Nat} (h : Kd.R k39 e w base ok (.slice (some ⟨g, 0, none⟩) n c) xs) (h0 : 0 < n) (i : Nat) : w.frozen? ⟨g, i, none⟩ = false := by
  obtain ⟨cur, hn, -, -, hb, -⟩ := R_block h h0
  exact blk_frozen hb i
theorem R_addr {ad : Addr} {n c : Nat} (h : Kd.R k39 e w base ok (.slice (some ad) n c) xs) : ∃ g, ad = ⟨g, 0, none⟩ ∧ ok g ∧ base ≤ g ∧ ∃ cur, w.heap[g]? = some (.cells cur e (0, 0)) := by
  obtain ⟨hok, inner, ho, hr⟩ := h
  rcases ho.2 with ⟨h1, h2⟩ | ⟨g', cap, cur, h1, hg, hb, h2, h3, h4, h5⟩
  · simp at h1
  · simp only [Value.slice.injEq, Option.some.injEq] at h1
    obtain ⟨rfl, rfl, rfl⟩ := h1
    exact ⟨g', rfl, hok _ rfl, hg, cur, hb⟩
end
end Go.Proofs.YtcalkhlchjjalaaDoor.Gow

namespace Go.Proofs.YtcalkhlchjjalaaDoor.Q
open Go.RowKit Go.Proofs.YtcalkhlchjjalaaDoorW.PrintWords Go.Proofs.YtcalkhlchjjalaaDoorW.PrintLast Go.Proofs.YtcalkhlchjjalaaDoorW.PrintMore Go.Proofs.YtcalkhlchjjalaaDoor.Gput
attribute [local go_sem] max2_int min2_int max_two min_two max_three min_three max_four min_four   -- for this text's walks alone
set_option linter.unusedVariables false
set_option linter.unusedSimpArgs false
def storagebartermake_Few.f (l0 : List Int) : Option (Bool) := some (decide ((l0.length : Int) ≤ 500))
set_option maxHeartbeats 8000000 in
set_option maxRecDepth 100000 in
theorem storagebartermake_Few.calls (A0 : Option Addr) (c0 : Nat) (l0 : List Int) (r : Bool) (w : World) (hr0 : Kd.C (Kd.int .i64) w A0 l0.length l0) (hc0 : l0.length ≤ c0) (h : storagebartermake_Few.f l0 = some r) :
 Calls Tryd.prog 9 #[.slice A0 l0.length c0] w fun e w' => e = .returned (.bool r) ∧ Drawn0 w w' := by
 have HR0 := Aside0.mk hr0
 have HC0 := Aside0.mk hc0
 clear hr0 hc0
 have H : (some (decide ((l0.length : Int) ≤ 500))) = some r := h
 clear h
 obtain rfl := Option.some.inj H
 go_enter Tryd.func9, Tryd.ntmps9
 go_wp2
 go_ret
 exact ⟨by first | rfl | (simp; done) | (simp [*]; done), by repeat (first | exact Drawn0.refl _ | apply Drawn0.step)⟩
end Go.Proofs.YtcalkhlchjjalaaDoor.Q

namespace Go.Proofs.YtcalkhlchjjalaaDoor.Gso
open Go Go.RowKit Go.Proofs Go.Proofs.YtcalkhlchjjalaaDoor.Gm Go.Proofs.YtcalkhlchjjalaaDoor.Gdm Go.Proofs.YtcalkhlchjjalaaDoor.Gmr Go.Proofs.YtcalkhlchjjalaaDoor.Gpp Go.Proofs.YtcalkhlchjjalaaDoor.Gsy Go.Proofs.YtcalkhlchjjalaaDoor.Gnx Go.Proofs.YtcalkhlchjjalaaDoor.Gck Go.Proofs.YtcalkhlchjjalaaDoor.Ggd Go.Proofs.YtcalkhlchjjalaaDoor.Gcw Go.Proofs.YtcalkhlchjjalaaDoor.Gca Go.Proofs.YtcalkhlchjjalaaDoor.Gwr Go.Proofs.YtcalkhlchjjalaaDoor.Gap Go.Proofs.YtcalkhlchjjalaaDoor.Gow Go.Proofs.YtcalkhlchjjalaaDoor.Q Go.Proofs.YtcalkhlchjjalaaDoorW.PrintWords Go.Proofs.YtcalkhlchjjalaaDoorW.PrintLast Go.Proofs.YtcalkhlchjjalaaDoorW.PrintMore
set_option linter.unusedVariables false
theorem allC {w W : World} {gd : Nat} {L : List Int} {ad : Addr} {l : List S25} {v9 : Value} {ch : List S39} {p1 : Int} (h : CW w W gd L ad l v9 ch) (hl0 : 0 < l.length) (h0 : (rd_T25 l ((0 : Nat) : Int)).f0 = 1) (h1 : (rd_T25 l ((0 : Nat) : Int)).f1 = p1) :
    W.cell? ad = some (.int .i64 1) ∧ W.cell? ⟨ad.block, ad.off + 1, none⟩ = some (.int .i64 p1) := by
  obtain ⟨ad2, e, hx0, hx1⟩ := at_T25 h.pe ((0 : Nat) : Int) (by omega) (by omega)
  cases e
  have ea0 : ad.add 0 = ad := by cases ad; simp [Addr.add]
  simp only [Int.toNat_natCast, Nat.zero_mul, ea0, h0, h1] at hx0 hx1
  exact ⟨hx0, hx1⟩
theorem chk_cw {w W : World} {gd : Nat} {L : List Int} {ad : Addr} {l : List S25} {v9 : Value} {ch : List S39} {c8 : Nat} (hG : GL w) (h : CW w W gd L ad l v9 ch) (hwf : l.all (fun p => (Lit.int .i64 p.f1).wf) = true) (hc8 : l.length ≤ c8)
    {A : Option Addr} {c : Nat} {xs : List S39} (hx : Kd.C k39 W A xs.length xs) (hc : xs.length ≤ c) (hW : ∀ s ∈ xs, W64 s) (r : Int) (hr : chkC l xs = r) :
    Calls Tryd.prog 18 #[.slice (some ad) l.length c8, .slice A xs.length c] W fun e w' => e = .returned (.int .i64 r) ∧ Below W.heap.size W w' :=
  check_x (some ad) c8 l A c xs W h.pe hc8 hx hc (hG.step h.hb) hwf hW r hr
theorem chk_cn {w W : World} {gd : Nat} {L : List Int} {ad : Addr} {l : List S25} {v9 : Value} {ch : List S39} {c8 : Nat} (hG : GL w) (h : CW w W gd L ad l v9 ch) (hwf : l.all (fun p => (Lit.int .i64 p.f1).wf) = true) (hc8 : l.length ≤ c8)
    {A : Option Addr} {c n : Nat} {xs : List S39} (hx : Kd.C k39 W A n xs) (hn : xs.length = n) (hc : n ≤ c) (hW : ∀ s ∈ xs, W64 s) (r : Int) (hr : chkC l xs = r) :
    Calls Tryd.prog 18 #[.slice (some ad) l.length c8, .slice A n c] W fun e w' => e = .returned (.int .i64 r) ∧ Below W.heap.size W w' := by
  subst hn
  exact chk_cw hG h hwf hc8 hx hc hW r hr
theorem chain_cw {w W : World} {gd : Nat} {L : List Int} {ad : Addr} {l : List S25} {p1 : Int} (h : CW w W gd L ad l (.slice none 0 0) []) (hL : L.length ≤ 1000000) :
    Calls Tryd.prog 12 #[.pointer (some ⟨gd, 0, none⟩), .agg #[.int .i64 1, .int .i64 p1]] W fun e w' => ∃ (A : Option Addr) (c : Nat) (ch : List S39) (tick : Int), e = .returned (.tuple #[.slice A ch.length c, .int .i64 tick]) ∧ Gd 1 p1 2 ch ∧ ch.length ≤ 14 ∧ CW w w' gd L ad l (.slice A ch.length c) ch := by
  refine (chain_mk w W gd L p1 h.hb h.dk hL).mono fun e w' z => ?_
  obtain ⟨A, c, ch, tick, e1, hg, hl, -, hb, hd, hk, hR⟩ := z
  obtain ⟨at0, -, A0, c0, hbg, -, -⟩ := h.dk
  obtain ⟨cs, hc⟩ := h.ty
  have hne : ad.block ≠ gd := by
    rintro e
    rw [e, hbg] at hc
    injection hc with hc
    injection hc with _ hc
    exact absurd hc (by decide)
  have he := hk.2 ad.block (blk_lt hc) hne (by simp)
  exact ⟨A, c, ch, tick, e1, hg, hl, ⟨hb, hd, C_heap h.pe he, ⟨cs, he.trans hc⟩, Kd.R_mono hR (fun _ _ => trivial)⟩⟩
theorem box_C (W : World) (x0 x1 x2 x3 x4 x5 x6 x7 x8 x9 x10 : Int) : Kd.C k39 (W.alloc (.cells #[.int .i64 x0, .int .i64 x1, .int .i64 x2, .int .i64 x3, .int .i64 x4, .int .i64 x5, .int .i64 x6, .int .i64 x7, .int .i64 x8, .int .i64 x9, .int .i64 x10] 39)) (some ⟨W.heap.size, 0, none⟩) 1 [(⟨x0, x1, x2, x3, x4, x5, x6, x7, x8, x9, x10⟩ : S39)] :=
  Grl.C_of_lit k39 W 39 (inner := [.int .i64 x0, .int .i64 x1, .int .i64 x2, .int .i64 x3, .int .i64 x4, .int .i64 x5, .int .i64 x6, .int .i64 x7, .int .i64 x8, .int .i64 x9, .int .i64 x10]) ⟨rfl, fun j p hj => by cases j with | zero => (simp only [List.getElem?_cons_zero, Option.some.injEq] at hj; subst hj; exact k39_mk _ _) | succ j => simp at hj⟩ (by simp)
set_option maxRecDepth 100000 in
set_option maxHeartbeats 16000000 in
theorem order_x (A0 : Option Addr) (c0 : Nat) (L : List Int) (at_ how : Int) (w : World) (hr0 : Kd.C (Kd.int .i64) w A0 L.length L) (hc0 : L.length ≤ c0) (hat : 0 ≤ at_ ∧ at_ ≤ 255) (hho : 0 ≤ how ∧ how ≤ 255) (hG : GL w) :
    Calls Tryd.prog 7 #[.slice A0 L.length c0, .int .u8 at_, .int .u8 how] w fun e w' => e = .returned (.bool true) ∧ Below w.heap.size w w' := by
  have mixed : (Tryd.prog).follows .mixedOrders = true := by kernel_rfl
  have hu39 := Tryd.underlying39
  have hu25 := Tryd.underlying25
  have HG := Aside0.mk hG
  have HR0 := Aside0.mk hr0
  have HB := Aside0.mk (Below.refl w.heap.size w)
  clear hr0 hG
  by_cases h1 : (L.length : Int) ≤ 500
  case neg =>
    have F2 : Aside0 (storagebartermake_Few.f L = some false) := ⟨by unfold storagebartermake_Few.f; rw [decide_eq_false h1]⟩
    clear h1
    go_enter Tryd.func7, Tryd.ntmps7
    go_wp2_with (first | (go_at_call 8; with_reducible refine (sane_x _ HG.out).mono ?_; rintro e w1 ⟨rfl, hb⟩; have n1_ := Aside0.mk (below_step HB.out hb); clear HB hb; have HB := n1_; clear n1_) | (go_at_call 9; with_reducible refine (storagebartermake_Few.calls A0 c0 L _ _ (Kd.C_below HR0.out HB.out) hc0 F2.out).mono ?_; rintro e w2 ⟨rfl, hd⟩; have n1_ := Aside0.mk (below_step HB.out hd.below); clear HB hd; have HB := n1_; clear n1_))
    go_ret
    exact ⟨rfl, HB.out⟩
  case pos =>
  have F2 : Aside0 (storagebartermake_Few.f L = some true) := ⟨by unfold storagebartermake_Few.f; rw [decide_eq_true h1]⟩
  have hL : L.length ≤ 1000000 := by omega
  obtain ⟨l, sec, at1, e3, hM, hl2, hat1⟩ := People_ok L hL 0 (by omega) 2 (by omega) 3 (by omega)
  rw [show ((2 : Nat) : Int) = 2 from rfl] at e3
  have F3 := Aside0.mk e3
  have HM := Aside0.mk hM
  have HL2 := Lib.hid hl2
  have hl0 : 0 < l.length := by omega
  have hl16 : l.length ≤ 16 := by omega
  clear h1 e3 hM hl2
  have q0 : rd_T25 l ((0 : Nat) : Int) = l[0] := by simp [rd_T25, List.getD, hl0]
  obtain ⟨p1, hp1⟩ : ∃ p1, p1 = l[0].f1 := ⟨_, rfl⟩
  have hP : Holds l 1 p1 := by rw [hp1]; exact holds_made HM.out hl16 0 hl0
  have hid : (rd_T25 l ((0 : Nat) : Int)).f0 = 1 := by rw [q0]; exact HM.out.ids 0 hl0
  have his : (rd_T25 l ((0 : Nat) : Int)).f1 = p1 := by rw [q0, hp1]
  have HP := Aside0.mk hP
  have HPW : Aside0 (within p1) := ⟨hP.2.2⟩
  have HID := Lib.hid hid
  have HIS := Lib.hid his
  have HWF := Lib.hid (HM.out.wf hl16)
  clear q0 hp1 hP hid his
  go_enter Tryd.func7, Tryd.ntmps7
  go_upto_region 8 with (first | (go_at_call 8; with_reducible refine (sane_x _ HG.out).mono ?_; rintro e w1 ⟨rfl, hb⟩; have n1_ := Aside0.mk (below_step HB.out hb); clear HB hb; have HB := n1_; clear n1_) | (go_at_call 9; with_reducible refine (storagebartermake_Few.calls A0 c0 L _ _ (Kd.C_below HR0.out HB.out) hc0 F2.out).mono ?_; rintro e w2 ⟨rfl, hd⟩; have n1_ := Aside0.mk (below_step HB.out hd.below); clear HB hd; have HB := n1_; clear n1_) | (go_at_call 10; with_reducible refine (storagebartermake_New.calls A0 c0 L L 0 w _ HB.out HR0.out hc0 rfl).mono ?_; rintro e w5 ⟨gd, rfl, hI, hB, hb⟩; have HI := Aside0.mk hI; clear HB; have HB := Aside0.mk hB; clear hI hB hb) | (go_at_call 11; with_reducible refine (storagebartermake_People.calls 3 gd L 0 2 l at1 w _ HI.out HB.out F3.out).mono ?_; rintro e w6 ⟨v8, rfl, hR, hI, hB, hk⟩; obtain ⟨ad, c8, rfl⟩ := Kd.R_slice1 hR hl0; have HC := Aside0.mk (CW.mk hB ⟨at1, hat1, hI⟩ (Kd.R_reads' hR).2.2 (Kd.R_typed hR _ (by simp [Value.ownBlock])) (Kd.R_nil _ _ _ _ _) : CW w w6 gd L ad l (.slice none 0 0) []); have hc8 : l.length ≤ c8 := (Kd.R_reads' hR).2.1; obtain ⟨hsa0, hsa1⟩ := allC HC.out hl0 HID.out HIS.out; clear HI HB hR hI hk; have HB := Aside0.mk hB; clear hB) | (go_at_call 12; with_reducible refine (chain_cw HC.out hL).mono ?_; rintro e w7 ⟨A, cc, ch, now, rfl, hg, hlen, hcw⟩; clear HC hsa0 hsa1 HB; have HC := Aside0.mk hcw; have HGD := Aside0.mk hg; clear hcw hg))
  by_cases h2 : ch.length < 2
  case pos =>
    have d1 : decide (ch.length < 2) = true := decide_eq_true h2
    have d2 : decide ((ch.length : Int) < 2) = true := decide_eq_true (by omega)
    clear h2
    go_wp2
    go_ret
    exact ⟨rfl, HC.out.hb⟩
  case neg =>
  have d1 : decide (ch.length < 2) = false := decide_eq_false h2
  have d2 : decide ((ch.length : Int) < 2) = false := decide_eq_false (by omega)
  have hcc := (Kd.R_reads' HC.out.cr).2.1
  go_upto_region 11 with (first | (go_at_call 18; with_reducible refine (chk_cw HG.out HC.out HWF.out hc8 (Kd.R_reads' HC.out.cr).2.2 hcc HGD.out.w64 0 (HGD.out.chk HP.out (by omega))).mono ?_; rintro e w8 ⟨rfl, hb⟩; have n_ := Aside0.mk (CW.below HC.out hb); clear HC hb; have HC := n_; clear n_))
  obtain ⟨ax, c', e0⟩ := Kd.R_slice1 HC.out.cr (by omega)
  injection e0 with e1 e2 e3
  subst e1
  clear e2 e3 d1 d2
  obtain ⟨k, hk, hk1⟩ : ∃ k : Nat, at_ % ((ch.length : Int) - 1) = (k : Int) ∧ k + 1 < ch.length := by
    have h1 := Int.emod_nonneg at_ (show (ch.length : Int) - 1 ≠ 0 by omega)
    have h3 := Int.emod_lt_of_pos at_ (show (0 : Int) < (ch.length : Int) - 1 by omega)
    exact ⟨(at_ % ((ch.length : Int) - 1)).toNat, by omega, by omega⟩
  rw [hk]
  clear hk hat
  have hle : (([] : List S39).length + ch.length) * 88 ≤ 140737488355328 := by simp; omega
  go_upto_region 12 with (first | (at_builtin; go_loud (refine Kd.R_append_rows k39 (Rr := k39.K w8) (w0 := w) w.heap.size rfl (.const (.slice none 0 0)) (.tmp 48) 23 39 (.agg #[.int .i64 0, .int .i64 0, .int .i64 0, .int .i64 0, .int .i64 0, .int .i64 0, .int .i64 0, .int .i64 0, .int .i64 0, .int .i64 0, .int .i64 0]) 88 rfl Tryd.underlying23 info39 rfl (by decide) (by omega) (.slice none 0 0) ([] : List S39) ch (some ax) ch.length cc (fun k => w8.heap.size ≤ k) (fun _ => False) rfl rfl (Kd.R_nil _ _ _ _ _) (Kd.R_reads' HC.out.cr).2.2 (fun x cs hx => by rw [k39_open hx]; exact k39_mkM _ _ _ _) (fun _ h => h.elim) (fun _ h => h) HC.out.hb HC.out.hb.size hle ?_); go_loud (intro v1 w9 ho hb hg hat; rw [List.nil_append] at ho; have hbe : Below w8.heap.size w8 w9 := (Below.refl _ _).grown hg (Nat.le_refl _) (fun _ h => by cases h); have n_ := Aside0.mk (CW.below HC.out hbe); have HC8 := HC; have HBE := Aside0.mk hbe; obtain ⟨al, cl, el⟩ := Kd.R_slice1 ho (by omega); subst el; have HL := Aside0.mk ho; clear HC ho hb hg hat hbe; have HC := n_; clear n_)))
  have hq : how % 3 = 0 ∨ how % 3 = 1 ∨ how % 3 = 2 := by omega
  have hcl := (Kd.R_reads' HL.out).2.1
  have hkn : (k : Int) + 1 < (ch.length : Int) := by omega
  have hkn2 : (k : Int) + 1 ≤ (ch.length : Int) := by omega
  have hkn3 : (k : Int) ≤ (ch.length : Int) := by omega
  have hkc : k ≤ cl := by omega
  have hkc2 : (k : Int) ≤ (cl : Int) := by omega
  have hkc3 : ¬ cl = k + 1 := by omega
  have hkc4 : ¬ cl = k := by omega
  have hkk : (k : Int) ≤ (k : Int) := Int.le_refl _
  have hk0 : (0 : Int) ≤ (k : Int) := by omega
  have hk01 : (0 : Int) ≤ (k : Int) + 1 := by omega
  have hcl2 : (ch.length : Int) ≤ (cl : Int) := by omega
  have hw1 : IntKind.i64.wrap ((k : Int) + 1) = (k : Int) + 1 := IntWalk.i64_in _ (by omega)
  have hw2 : ((k : Int) + 1).toNat = k + 1 := by omega
  obtain hq | hq | hq := hq
  · go_upto_region 15 with fail
    have hRd := HL.out
    obtain ⟨g, hal, hg8, hwg, cur, hbg⟩ := R_addr hRd
    subst hal
    have hkl : k < ch.length := by omega
    obtain ⟨X, hX⟩ : ∃ X, X = ch[k] := ⟨_, rfl⟩
    obtain ⟨Y, hY⟩ : ∃ Y, Y = ch[k + 1]'hk1 := ⟨_, rfl⟩
    obtain ⟨hx0, hx1, hx2, hx3, hx4, hx5, hx6, hx7, hx8, hx9, hx10⟩ := R_cells hRd hkl (show ch[k]? = some X by rw [hX]; exact List.getElem?_eq_getElem hkl)
    obtain ⟨hy0, hy1, hy2, hy3, hy4, hy5, hy6, hy7, hy8, hy9, hy10⟩ := R_cells hRd hk1 (show ch[k + 1]? = some Y by rw [hY]; exact List.getElem?_eq_getElem hk1)
    have hfr := R_thaw hRd (by omega)
    have HXY := Aside0.mk (And.intro hX hY)
    have HRd := Aside0.mk hRd
    clear hX hY hRd
    obtain ⟨x0, x1, x2, x3, x4, x5, x6, x7, x8, x9, x10⟩ := X
    obtain ⟨y0, y1, y2, y3, y4, y5, y6, y7, y8, y9, y10⟩ := Y
    dsimp only at hx0 hx1 hx2 hx3 hx4 hx5 hx6 hx7 hx8 hx9 hx10 hy0 hy1 hy2 hy3 hy4 hy5 hy6 hy7 hy8 hy9 hy10
    have hgl := blk_lt hbg
    go_region
    have r1 := R_whole (k := k) (⟨y0, y1, y2, y3, y4, y5, y6, y7, y8, y9, y10⟩ : S39) HRd.out hkl
    have r2 := R_whole (k := k + 1) (⟨x0, x1, x2, x3, x4, x5, x6, x7, x8, x9, x10⟩ : S39) r1 hk1
    have r3 := Kd.R_below r2 (below_drew1 (Below.refl _ _))
    dsimp only at r3
    have hb22 : Below w8.heap.size w8 (((((((((((((((((((((((w9.setCell ⟨g, k * 11, none⟩ (.int .i64 y0)).setCell ⟨g, k * 11 + 1, none⟩ (.int .i64 y1)).setCell ⟨g, k * 11 + 2, none⟩ (.int .i64 y2)).setCell ⟨g, k * 11 + 3, none⟩ (.int .i64 y3)).setCell ⟨g, k * 11 + 4, none⟩ (.int .i64 y4)).setCell ⟨g, k * 11 + 5, none⟩ (.int .i64 y5)).setCell ⟨g, k * 11 + 6, none⟩ (.int .i64 y6)).setCell ⟨g, k * 11 + 7, none⟩ (.int .i64 y7)).setCell ⟨g, k * 11 + 8, none⟩ (.int .i64 y8)).setCell ⟨g, k * 11 + 9, none⟩ (.int .i64 y9)).setCell ⟨g, k * 11 + 10, none⟩ (.int .i64 y10)).setCell ⟨g, (k + 1) * 11, none⟩ (.int .i64 x0)).setCell ⟨g, (k + 1) * 11 + 1, none⟩ (.int .i64 x1)).setCell ⟨g, (k + 1) * 11 + 2, none⟩ (.int .i64 x2)).setCell ⟨g, (k + 1) * 11 + 3, none⟩ (.int .i64 x3)).setCell ⟨g, (k + 1) * 11 + 4, none⟩ (.int .i64 x4)).setCell ⟨g, (k + 1) * 11 + 5, none⟩ (.int .i64 x5)).setCell ⟨g, (k + 1) * 11 + 6, none⟩ (.int .i64 x6)).setCell ⟨g, (k + 1) * 11 + 7, none⟩ (.int .i64 x7)).setCell ⟨g, (k + 1) * 11 + 8, none⟩ (.int .i64 x8)).setCell ⟨g, (k + 1) * 11 + 9, none⟩ (.int .i64 x9)).setCell ⟨g, (k + 1) * 11 + 10, none⟩ (.int .i64 x10)).drew) := below_drew1 (below_set (below_set (below_set (below_set (below_set (below_set (below_set (below_set (below_set (below_set (below_set (below_set (below_set (below_set (below_set (below_set (below_set (below_set (below_set (below_set (below_set (below_set HBE.out hg8) hg8) hg8) hg8) hg8) hg8) hg8) hg8) hg8) hg8) hg8) hg8) hg8) hg8) hg8) hg8) hg8) hg8) hg8) hg8) hg8) hg8)
    have hsw := swapped HP.out HGD.out hk1 (by omega)
    rw [← HXY.out.2, ← HXY.out.1] at hsw
    have hw64 : ∀ s ∈ (ch.set k (⟨y0, y1, y2, y3, y4, y5, y6, y7, y8, y9, y10⟩ : S39)).set (k + 1) (⟨x0, x1, x2, x3, x4, x5, x6, x7, x8, x9, x10⟩ : S39), W64 s := fun s hs => by
      rcases List.mem_or_eq_of_mem_set hs with z | rfl
      · rcases List.mem_or_eq_of_mem_set z with z | rfl
        · exact HGD.out.w64 _ z
        · rw [HXY.out.2]; exact HGD.out.w64 _ (List.getElem_mem _)
      · rw [HXY.out.1]; exact HGD.out.w64 _ (List.getElem_mem _)
    generalize (((((((((((((((((((((((w9.setCell ⟨g, k * 11, none⟩ (.int .i64 y0)).setCell ⟨g, k * 11 + 1, none⟩ (.int .i64 y1)).setCell ⟨g, k * 11 + 2, none⟩ (.int .i64 y2)).setCell ⟨g, k * 11 + 3, none⟩ (.int .i64 y3)).setCell ⟨g, k * 11 + 4, none⟩ (.int .i64 y4)).setCell ⟨g, k * 11 + 5, none⟩ (.int .i64 y5)).setCell ⟨g, k * 11 + 6, none⟩ (.int .i64 y6)).setCell ⟨g, k * 11 + 7, none⟩ (.int .i64 y7)).setCell ⟨g, k * 11 + 8, none⟩ (.int .i64 y8)).setCell ⟨g, k * 11 + 9, none⟩ (.int .i64 y9)).setCell ⟨g, k * 11 + 10, none⟩ (.int .i64 y10)).setCell ⟨g, (k + 1) * 11, none⟩ (.int .i64 x0)).setCell ⟨g, (k + 1) * 11 + 1, none⟩ (.int .i64 x1)).setCell ⟨g, (k + 1) * 11 + 2, none⟩ (.int .i64 x2)).setCell ⟨g, (k + 1) * 11 + 3, none⟩ (.int .i64 x3)).setCell ⟨g, (k + 1) * 11 + 4, none⟩ (.int .i64 x4)).setCell ⟨g, (k + 1) * 11 + 5, none⟩ (.int .i64 x5)).setCell ⟨g, (k + 1) * 11 + 6, none⟩ (.int .i64 x6)).setCell ⟨g, (k + 1) * 11 + 7, none⟩ (.int .i64 x7)).setCell ⟨g, (k + 1) * 11 + 8, none⟩ (.int .i64 x8)).setCell ⟨g, (k + 1) * 11 + 9, none⟩ (.int .i64 x9)).setCell ⟨g, (k + 1) * 11 + 10, none⟩ (.int .i64 x10)).drew) = W9 at r3 hb22 ⊢
    have HN2 := Aside0.mk (CW.below HC8.out hb22)
    have hC3 := (Kd.R_reads' r3).2.2
    rw [List.length_set, List.length_set] at hC3
    have HR3 := Aside0.mk hC3
    have HSW := Lib.hid hsw
    have HW2 := Aside0.mk hw64
    clear r1 r2 r3 hC3 hb22 hsw hw64 HC hx0 hx1 hx2 hx3 hx4 hx5 hx6 hx7 hx8 hx9 hx10 hy0 hy1 hy2 hy3 hy4 hy5 hy6 hy7 hy8 hy9 hy10 hfr HRd hbg
    go_wp2_with (first | (go_at_call 18; go_loud (with_reducible refine (chk_cn HG.out HN2.out HWF.out hc8 HR3.out (by simp) hcl HW2.out 16 HSW.out).mono ?_); go_loud (rintro e w11 ⟨rfl, hb⟩; have HC := Aside0.mk (CW.below HN2.out hb); clear HN2 hb)))
    go_ret
    exact ⟨rfl, HC.out.hb⟩
  · go_upto_region 17 with fail
    have hC9 : Kd.C k39 (World.drew w9) (some al) ch.length ch := Kd.C_below (Kd.R_reads' HL.out).2.2 (below_drew1 (Below.refl _ _))
    have HXC : Aside0 (Kd.C k39 (World.drew w9) (some al) k (ch.take k)) := ⟨by have h := Kd.C_take hC9 (show k ≤ ch.length by omega); rw [show (ch.take k).length = k by rw [List.length_take]; omega] at h; exact h⟩
    have HYC : Aside0 (Kd.C k39 (World.drew w9) (some (al.add ((k + 1) * 11))) (ch.length - (k + 1)) (ch.drop (k + 1))) := ⟨by have h := Kd.C_drop (c := cl) hC9 (show k + 1 ≤ ch.length by omega) hcl; rw [if_neg hkc3, List.length_drop] at h; exact h⟩
    have HC9 := HC.out.drew
    have hsz9 : w.heap.size ≤ (World.drew w9).heap.size := HC9.hb.size
    have HW9 : Aside0 (∀ s ∈ ch.take k ++ ch.drop (k + 1), W64 s) := ⟨fun s hs => by
      rcases List.mem_append.1 hs with z | z
      · exact HGD.out.w64 s (List.mem_of_mem_take z)
      · exact HGD.out.w64 s (List.mem_of_mem_drop z)⟩
    have hcf : k < k + (ch.length - (k + 1)) := by omega
    obtain ⟨nl, hnl⟩ : ∃ nl, (ch.take k ++ ch.drop (k + 1)).length = nl := ⟨_, rfl⟩
    have HNL := Lib.hid hnl
    clear hnl
    have hlf : (k + (ch.length - (k + 1))) * 88 ≤ 140737488355328 := by omega
    clear hC9
    go_region_law (first | (go_loud (refine R_full_step (w0 := w) (W := World.drew w9) w.heap.size rfl (.tmp 91) (.tmp 95) 23 39 (.agg #[.int .i64 0, .int .i64 0, .int .i64 0, .int .i64 0, .int .i64 0, .int .i64 0, .int .i64 0, .int .i64 0, .int .i64 0, .int .i64 0, .int .i64 0]) rfl Tryd.underlying23 info39 rfl (ch.take k) (ch.drop (k + 1)) al (al.add ((k + 1) * 11)) k (ch.length - (k + 1)) k (cl - (k + 1)) (fun _ => True) ?hs ?hx (fun _ _ => trivial) HXC.out HYC.out hcf HC9.hb hsz9 hlf ?_); go_loud (case hs => go_simp); go_loud (case hx => go_simp); go_loud (intro v1 w10 ho hbe hb; clear hw1 hw2 hkc hkc2 hkc3 hkc4 hkk hk0 hk01 hcl2 hkn hkn2 hkn3 hcf hlf hle HXC HYC hsz9; have n_ := Aside0.mk (CW.below HC9 hbe); clear HC HC9; have HC := n_; clear n_; obtain ⟨A2, c2, e2⟩ := Kd.R_slice ho; rw [HNL.out] at e2; subst e2; have h2a := (Kd.R_reads (d := k39) ho); obtain ⟨A3, c3, e3, e4, e5⟩ := h2a; rw [HNL.out] at e3 e4 e5; injection e3 with f1 f2 f3; subst f1; subst f3; have H2 := Aside0.mk (And.intro e5 e4); clear ho hbe hb e4 e5 f2)))
    all_goals (go_wp2_with (first | (go_at_call 18; with_reducible refine (chk_cn HG.out HC.out HWF.out hc8 H2.out.1 HNL.out H2.out.2 HW9.out 16 (left_out HP.out HGD.out hk1 (by omega))).mono ?_; rintro e w11 ⟨rfl, hb⟩; have n_ := Aside0.mk (CW.below HC.out hb); clear HC hb; have HC := n_; clear n_)))
    all_goals go_ret
    all_goals exact ⟨rfl, HC.out.hb⟩
  · go_upto_region 13 with fail
    have hkl : k < ch.length := by omega
    obtain ⟨X, hX⟩ : ∃ X, X = ch[k] := ⟨_, rfl⟩
    have hCx := (Kd.R_reads' HC.out.cr).2.2
    obtain ⟨ad1, e1, hx0, hx1, hx2, hx3, hx4, hx5, hx6, hx7, hx8, hx9, hx10⟩ := at_T39 hCx (k : Int) (by omega) (by omega)
    cases e1
    rw [show rd_T39 ch (k : Int) = X by rw [hX]; exact Gnx.rd_get ch k hkl] at hx0 hx1 hx2 hx3 hx4 hx5 hx6 hx7 hx8 hx9 hx10
    simp only [Int.toNat_natCast] at hx0 hx1 hx2 hx3 hx4 hx5 hx6 hx7 hx8 hx9 hx10
    have HX := Lib.hid hX
    clear hX
    obtain ⟨x0, x1, x2, x3, x4, x5, x6, x7, x8, x9, x10⟩ := X
    dsimp only at hx0 hx1 hx2 hx3 hx4 hx5 hx6 hx7 hx8 hx9 hx10
    have hk11 : k + 1 ≤ ch.length := by omega
    have hkc5 : k + 1 ≤ cc := by omega
    have hkc6 : ((k : Int) + 1) ≤ (cc : Int) := by omega
    have hkc7 : ¬ cc = k + 1 := by omega
    have hB0 : Below w9.heap.size w9 (World.drew w9) := below_drew1 (Below.refl _ _)
    have hBb : Below w9.heap.size w9 ((World.drew w9).alloc (.cells #[.int .i64 x0, .int .i64 x1, .int .i64 x2, .int .i64 x3, .int .i64 x4, .int .i64 x5, .int .i64 x6, .int .i64 x7, .int .i64 x8, .int .i64 x9, .int .i64 x10] 39)) := below_alloc hB0 (.cells #[.int .i64 x0, .int .i64 x1, .int .i64 x2, .int .i64 x3, .int .i64 x4, .int .i64 x5, .int .i64 x6, .int .i64 x7, .int .i64 x8, .int .i64 x9, .int .i64 x10] 39)
    have hT : Kd.C k39 w9 (some ax) (k + 1) (ch.take (k + 1)) := by have h := Kd.C_take hCx hk11; rw [show (ch.take (k + 1)).length = k + 1 by rw [List.length_take]; omega] at h; exact h
    have hD : Kd.C k39 w9 (some (ax.add ((k + 1) * 11))) (ch.length - (k + 1)) (ch.drop (k + 1)) := by have h := Kd.C_drop (c := cc) hCx hk11 hcc; rw [if_neg hkc7, List.length_drop] at h; exact h
    have HT0 : Aside0 (Kd.C k39 (World.drew w9) (some ax) (k + 1) (ch.take (k + 1))) := ⟨Kd.C_below hT hB0⟩
    have HTb : Aside0 (Kd.C k39 ((World.drew w9).alloc (.cells #[.int .i64 x0, .int .i64 x1, .int .i64 x2, .int .i64 x3, .int .i64 x4, .int .i64 x5, .int .i64 x6, .int .i64 x7, .int .i64 x8, .int .i64 x9, .int .i64 x10] 39)) (some ax) (k + 1) (ch.take (k + 1))) := ⟨Kd.C_below hT hBb⟩
    have HD := Aside0.mk hD
    have hle2 : (([] : List S39).length + (k + 1)) * 88 ≤ 140737488355328 := by simp; omega
    have hsw := twice HP.out HGD.out hk1 (by omega)
    rw [← HX.out] at hsw
    have HSW := Lib.hid hsw
    have HW2 : Aside0 (∀ s ∈ (ch.take (k + 1) ++ [(⟨x0, x1, x2, x3, x4, x5, x6, x7, x8, x9, x10⟩ : S39)]) ++ ch.drop (k + 1), W64 s) := ⟨fun s hs => by
      rcases List.mem_append.1 hs with z | z
      · rcases List.mem_append.1 z with z | z
        · exact HGD.out.w64 s (List.mem_of_mem_take z)
        · rw [List.mem_singleton.1 z, HX.out]; exact HGD.out.w64 _ (List.getElem_mem _)
      · exact HGD.out.w64 s (List.mem_of_mem_drop z)⟩
    obtain ⟨nl, hn3⟩ : ∃ nl, ((ch.take (k + 1) ++ [(⟨x0, x1, x2, x3, x4, x5, x6, x7, x8, x9, x10⟩ : S39)]) ++ ch.drop (k + 1)).length = nl := ⟨_, rfl⟩
    have HN3 := Lib.hid hn3
    have hle3 : ((ch.take (k + 1)).length + 1) * 88 ≤ 140737488355328 := by rw [List.length_take]; omega
    have hle4 : ((ch.take (k + 1) ++ [(⟨x0, x1, x2, x3, x4, x5, x6, x7, x8, x9, x10⟩ : S39)]).length + (ch.length - (k + 1))) * 88 ≤ 140737488355328 := by rw [List.length_append, List.length_take, List.length_singleton]; omega
    clear hsw hT hD hCx hn3
    go_region_law (first | (go_loud (refine Kd.R_append_rows_step k39 (Rr := k39.K (World.drew w9)) (w0 := w) (W := (World.drew w9)) w.heap.size rfl (.const (.slice none 0 0)) (.tmp 55) 23 39 (.agg #[.int .i64 0, .int .i64 0, .int .i64 0, .int .i64 0, .int .i64 0, .int .i64 0, .int .i64 0, .int .i64 0, .int .i64 0, .int .i64 0, .int .i64 0]) 88 rfl Tryd.underlying23 info39 rfl (by decide) (by omega) (.slice none 0 0) ([] : List S39) (ch.take (k + 1)) (some ax) (k + 1) cc (fun i => w9.heap.size ≤ i) (fun _ => False) ?hs ?hx (Kd.R_nil _ _ _ _ _) HT0.out (fun x cs hx => by rw [k39_open hx]; exact k39_mkM _ _ _ _) (fun _ h => h.elim) (fun i h => Nat.le_trans hB0.size h) (below_step HC.out.hb hB0) (Nat.le_trans HC.out.hb.size hB0.size) hle2 ?_); go_loud (case hs => first | rfl | go_simp); go_loud (case hx => go_simp); go_loud (intro v1 w10 ho hb hg hat; rw [List.nil_append] at ho; have hB1 : Below w9.heap.size w9 w10 := hB0.grown hg hB0.size (fun _ h => by cases h); have HV := Aside0.mk ho; replace hx0 := (Below.cell hB1 (World.block_lt_of_cell? _ _ hx0)).trans hx0; replace hx1 := (Below.cell hB1 (World.block_lt_of_cell? _ _ hx1)).trans hx1; replace hx2 := (Below.cell hB1 (World.block_lt_of_cell? _ _ hx2)).trans hx2; replace hx3 := (Below.cell hB1 (World.block_lt_of_cell? _ _ hx3)).trans hx3; replace hx4 := (Below.cell hB1 (World.block_lt_of_cell? _ _ hx4)).trans hx4; replace hx5 := (Below.cell hB1 (World.block_lt_of_cell? _ _ hx5)).trans hx5; replace hx6 := (Below.cell hB1 (World.block_lt_of_cell? _ _ hx6)).trans hx6; replace hx7 := (Below.cell hB1 (World.block_lt_of_cell? _ _ hx7)).trans hx7; replace hx8 := (Below.cell hB1 (World.block_lt_of_cell? _ _ hx8)).trans hx8; replace hx9 := (Below.cell hB1 (World.block_lt_of_cell? _ _ hx9)).trans hx9; replace hx10 := (Below.cell hB1 (World.block_lt_of_cell? _ _ hx10)).trans hx10; clear ho hb hg hat)) | (go_loud (refine Kd.R_append_rows_step k39 (Rr := k39.K ((World.drew w9).alloc (.cells #[.int .i64 x0, .int .i64 x1, .int .i64 x2, .int .i64 x3, .int .i64 x4, .int .i64 x5, .int .i64 x6, .int .i64 x7, .int .i64 x8, .int .i64 x9, .int .i64 x10] 39))) (w0 := w) (W := ((World.drew w9).alloc (.cells #[.int .i64 x0, .int .i64 x1, .int .i64 x2, .int .i64 x3, .int .i64 x4, .int .i64 x5, .int .i64 x6, .int .i64 x7, .int .i64 x8, .int .i64 x9, .int .i64 x10] 39))) w.heap.size rfl (.const (.slice none 0 0)) (.tmp 55) 23 39 (.agg #[.int .i64 0, .int .i64 0, .int .i64 0, .int .i64 0, .int .i64 0, .int .i64 0, .int .i64 0, .int .i64 0, .int .i64 0, .int .i64 0, .int .i64 0]) 88 rfl Tryd.underlying23 info39 rfl (by decide) (by omega) (.slice none 0 0) ([] : List S39) (ch.take (k + 1)) (some ax) (k + 1) cc (fun i => w9.heap.size ≤ i) (fun _ => False) ?hs ?hx (Kd.R_nil _ _ _ _ _) HTb.out (fun x cs hx => by rw [k39_open hx]; exact k39_mkM _ _ _ _) (fun _ h => h.elim) (fun i h => Nat.le_trans hBb.size h) (below_step HC.out.hb hBb) (Nat.le_trans HC.out.hb.size hBb.size) hle2 ?_); go_loud (case hs => first | rfl | go_simp); go_loud (case hx => go_simp); go_loud (intro v1 w10 ho hb hg hat; rw [List.nil_append] at ho; have hB1 : Below w9.heap.size w9 w10 := hBb.grown hg hBb.size (fun _ h => by cases h); have HV := Aside0.mk ho; have HBX : Aside0 (Kd.C k39 w10 (some ⟨w9.heap.size, 0, none⟩) 1 [(⟨x0, x1, x2, x3, x4, x5, x6, x7, x8, x9, x10⟩ : S39)]) := ⟨Kd.C_below (box_C (World.drew w9) x0 x1 x2 x3 x4 x5 x6 x7 x8 x9 x10) ((Below.refl _ _).grown hg (Nat.le_refl _) (fun _ h => by cases h))⟩; clear ho hb hg hat)) | (go_loud (refine Kd.R_append_rows_step k39 (Rr := k39.K (w10.alloc (.cells #[.int .i64 x0, .int .i64 x1, .int .i64 x2, .int .i64 x3, .int .i64 x4, .int .i64 x5, .int .i64 x6, .int .i64 x7, .int .i64 x8, .int .i64 x9, .int .i64 x10] 39))) (w0 := w) (W := (w10.alloc (.cells #[.int .i64 x0, .int .i64 x1, .int .i64 x2, .int .i64 x3, .int .i64 x4, .int .i64 x5, .int .i64 x6, .int .i64 x7, .int .i64 x8, .int .i64 x9, .int .i64 x10] 39))) w.heap.size rfl (.tmp 56) (.tmp 61) 23 39 (.agg #[.int .i64 0, .int .i64 0, .int .i64 0, .int .i64 0, .int .i64 0, .int .i64 0, .int .i64 0, .int .i64 0, .int .i64 0, .int .i64 0, .int .i64 0]) 88 rfl Tryd.underlying23 info39 rfl (by decide) (by omega) v1 (ch.take (k + 1)) ([(⟨x0, x1, x2, x3, x4, x5, x6, x7, x8, x9, x10⟩ : S39)]) (some ⟨w10.heap.size, 0, none⟩) (1) (1) (fun i => w9.heap.size ≤ i) (fun _ => False) ?hs ?hx (Kd.R_below HV.out (below_alloc (Below.refl w10.heap.size w10) (.cells #[.int .i64 x0, .int .i64 x1, .int .i64 x2, .int .i64 x3, .int .i64 x4, .int .i64 x5, .int .i64 x6, .int .i64 x7, .int .i64 x8, .int .i64 x9, .int .i64 x10] 39))) (box_C w10 x0 x1 x2 x3 x4 x5 x6 x7 x8 x9 x10) (fun x cs hx => by rw [k39_open hx]; exact k39_mkM _ _ _ _) (fun _ h => h.elim) (fun i h => Nat.le_trans (below_alloc hB1 (.cells #[.int .i64 x0, .int .i64 x1, .int .i64 x2, .int .i64 x3, .int .i64 x4, .int .i64 x5, .int .i64 x6, .int .i64 x7, .int .i64 x8, .int .i64 x9, .int .i64 x10] 39)).size h) (below_step HC.out.hb (below_alloc hB1 (.cells #[.int .i64 x0, .int .i64 x1, .int .i64 x2, .int .i64 x3, .int .i64 x4, .int .i64 x5, .int .i64 x6, .int .i64 x7, .int .i64 x8, .int .i64 x9, .int .i64 x10] 39))) (Nat.le_trans HC.out.hb.size (below_alloc hB1 (.cells #[.int .i64 x0, .int .i64 x1, .int .i64 x2, .int .i64 x3, .int .i64 x4, .int .i64 x5, .int .i64 x6, .int .i64 x7, .int .i64 x8, .int .i64 x9, .int .i64 x10] 39)).size) hle3 ?_); go_loud (case hs => first | rfl | go_simp); go_loud (case hx => first | rfl | go_simp); go_loud (intro v2 w11 ho hb hg hat; have hB2 : Below w9.heap.size w9 w11 := (below_alloc hB1 (.cells #[.int .i64 x0, .int .i64 x1, .int .i64 x2, .int .i64 x3, .int .i64 x4, .int .i64 x5, .int .i64 x6, .int .i64 x7, .int .i64 x8, .int .i64 x9, .int .i64 x10] 39)).grown hg (below_alloc hB1 (.cells #[.int .i64 x0, .int .i64 x1, .int .i64 x2, .int .i64 x3, .int .i64 x4, .int .i64 x5, .int .i64 x6, .int .i64 x7, .int .i64 x8, .int .i64 x9, .int .i64 x10] 39)).size (fun b hb => ((Kd.R_below HV.out (below_alloc (Below.refl w10.heap.size w10) (.cells #[.int .i64 x0, .int .i64 x1, .int .i64 x2, .int .i64 x3, .int .i64 x4, .int .i64 x5, .int .i64 x6, .int .i64 x7, .int .i64 x8, .int .i64 x9, .int .i64 x10] 39)))).1 b hb); have HV2 := Aside0.mk ho; skip; clear ho hb hg hat)) | (go_loud (refine Kd.R_append_rows_step k39 (Rr := k39.K w10) (w0 := w) (W := w10) w.heap.size rfl (.tmp 56) (.tmp 61) 23 39 (.agg #[.int .i64 0, .int .i64 0, .int .i64 0, .int .i64 0, .int .i64 0, .int .i64 0, .int .i64 0, .int .i64 0, .int .i64 0, .int .i64 0, .int .i64 0]) 88 rfl Tryd.underlying23 info39 rfl (by decide) (by omega) v1 (ch.take (k + 1)) ([(⟨x0, x1, x2, x3, x4, x5, x6, x7, x8, x9, x10⟩ : S39)]) (some ⟨w9.heap.size, 0, none⟩) (1) (1) (fun i => w9.heap.size ≤ i) (fun _ => False) ?hs ?hx HV.out HBX.out (fun x cs hx => by rw [k39_open hx]; exact k39_mkM _ _ _ _) (fun _ h => h.elim) (fun i h => Nat.le_trans hB1.size h) (below_step HC.out.hb hB1) (Nat.le_trans HC.out.hb.size hB1.size) hle3 ?_); go_loud (case hs => first | rfl | go_simp); go_loud (case hx => first | rfl | go_simp); go_loud (intro v2 w11 ho hb hg hat; have hB2 : Below w9.heap.size w9 w11 := hB1.grown hg hB1.size (fun b hb => (HV.out).1 b hb); have HV2 := Aside0.mk ho; skip; clear ho hb hg hat)) | (go_loud (refine Kd.R_append_rows_step k39 (Rr := k39.K w11) (w0 := w) (W := w11) w.heap.size rfl (.tmp 62) (.tmp 66) 23 39 (.agg #[.int .i64 0, .int .i64 0, .int .i64 0, .int .i64 0, .int .i64 0, .int .i64 0, .int .i64 0, .int .i64 0, .int .i64 0, .int .i64 0, .int .i64 0]) 88 rfl Tryd.underlying23 info39 rfl (by decide) (by omega) v2 (ch.take (k + 1) ++ [(⟨x0, x1, x2, x3, x4, x5, x6, x7, x8, x9, x10⟩ : S39)]) (ch.drop (k + 1)) (some (ax.add ((k + 1) * 11))) (ch.length - (k + 1)) (cc - (k + 1)) (fun i => w9.heap.size ≤ i) (fun _ => False) ?hs ?hx HV2.out (Kd.C_below HD.out hB2) (fun x cs hx => by rw [k39_open hx]; exact k39_mkM _ _ _ _) (fun _ h => h.elim) (fun i h => Nat.le_trans hB2.size h) (below_step HC.out.hb hB2) (Nat.le_trans HC.out.hb.size hB2.size) hle4 ?_); go_loud (case hs => first | rfl | go_simp); go_loud (case hx => first | rfl | go_simp); go_loud (intro v3 w12 ho hb hg hat; have hB3 : Below w9.heap.size w9 w12 := hB2.grown hg hB2.size (fun b hb => (HV2.out).1 b hb); have HV3 := Aside0.mk ho; have HN2 := Aside0.mk (CW.below HC.out hB3); obtain ⟨A3, c3, e3⟩ := Kd.R_slice HV3.out; rw [HN3.out] at e3; subst e3; have h2a := (Kd.R_reads (d := k39) HV3.out); obtain ⟨A4, c4, e3, e4, e5⟩ := h2a; rw [HN3.out] at e3 e4 e5; injection e3 with f1 f2 f3; subst f1; subst f3; have H3 := Aside0.mk (And.intro e5 e4); clear e4 e5 f2 HV HV2 HV3; clear ho hb hg hat)))
    all_goals (go_wp2_with (first | (go_at_call 18; go_loud (with_reducible refine (chk_cn HG.out HN2.out HWF.out hc8 H3.out.1 HN3.out H3.out.2 HW2.out 16 HSW.out).mono ?_); go_loud (rintro e w13 ⟨rfl, hb⟩; have HC := Aside0.mk (CW.below HN2.out hb); clear HN2 hb))))
    all_goals go_ret
    all_goals exact ⟨rfl, HC.out.hb⟩
end Go.Proofs.YtcalkhlchjjalaaDoor.Gso

namespace Go.Proofs.YtcalkhlchjjalaaDoor.statementOrder
open Go.ChangeShapes Go.WideShapes Go.ChangeAt Go.RowKit
set_option linter.unusedVariables false
theorem own : ownKnob Tryd.prog.godebug = none := by kernel_rfl
theorem laidOut : laidOutB Tryd.prog = true := by kernel_rfl
def IsRow (k : IntKind) (w : World) (a : Option Addr) (len cap : Nat) (zs : List Int) : Prop :=
  (a = none ∧ len = 0 ∧ cap = 0 ∧ zs = []) ∨
  ∃ x, a = some x ∧ len ≤ cap ∧ cap ≤ maxLen ∧ zs.length = cap ∧ (∀ i, i < zs.length → w.cell? (x.add i) = some (.int k (zs.getD i 0))) ∧ ∀ n ∈ zs, (Lit.int k n).wf = true
set_option maxRecDepth 100000 in
theorem lifted (os : Os) (started : os.Started) (H : Type) (enc : TypeId × Value → H) :
    ReturnsInHanded {} Tryd.checked os 7 .any (fun w args => (Rows.statementOrderSpec.pre enc Tryd.prog Tryd.f7 Rows.statementOrderRow.domain false w args ∧ laidMetH Tryd.prog Gla.Lst w) ∧ sizedMet enc Tryd.prog Tryd.f7 (OpenSpec.ofChange Rows.statementOrderSpec) false w args) (Rows.statementOrderSpec.post enc Tryd.prog Tryd.f7 false true false false) := by
  refine returnsInHanded_of_change_and (C := Tryd.checked) (X := fun w _ => laidMetH Tryd.prog Gla.Lst w) (fun _ _ _ hh h => h.of_heap hh) own started (by kernel_rfl) Tryd.func7
    (ChangeSpec.witness_shaped (enc := enc) (C := Tryd.checked) (os := os) (X := fun w _ => laidMetH Tryd.prog Gla.Lst w) false (World.laidAll Tryd.prog os Gla.Lst) #[.slice none 0 0, .int .u8 0, .int .u8 0] 8 (World.laidAll_os _ _ _)
      (World.shaped_of_ZipB (by kernel_rfl) (by kernel_rfl)) (by kernel_rfl) (by kernel_rfl) (by kernel_rfl)
      (by rw [MakeChecks.laidMetH_plain _ _ _ (by kernel_rfl)]; exact laidMet_laidAll _ (by kernel_rfl) (by kernel_rfl))) ?_
  intro W base args ds gs before hval0 hW hcnd hsz0 hL _
  have hval : ∀ (j : Nat) t v, Tryd.f7.params[j]? = some t → args[j]? = some v → Value.okWide Tryd.prog W .any base t v := hval0
  have hW' := hW
  obtain ⟨p, q, hA0, hV, rfl, hfz, hnd⟩ := hW
  have hA : DataW.TrodAll enc Tryd.prog W 0 (fun _ => true) true Tryd.f7.params.toList args.toList ds p := hA0
  rw [Tryd.params7] at hA hval
  obtain ⟨v0, vs0, d0, ds0, p0, q0, hargs, rfl, rfl, h0, r0⟩ := trodAll_cons hA
  obtain ⟨v1, vs1, d1, ds1, p1, q1, rfl, rfl, rfl, h1, r1⟩ := trodAll_cons r0
  obtain ⟨v2, vs2, d2, ds2, p2, q2, rfl, rfl, rfl, h2, r2⟩ := trodAll_cons r1
  obtain ⟨rfl, rfl, rfl⟩ := trodAll_nil r2
  obtain rfl : args = #[v0, v1, v2] := by cases args; simp_all
  obtain ⟨rfl, rfl⟩ := trodVars_none hV
  obtain ⟨a0, len0, cap0, rfl⟩ := okWide_slice Tryd.underlying22 (hval 0 22 v0 rfl rfl)
  have k0 := h0
  have lt0 : ∀ x ∈ p0, x.block < W.heap.size := by obtain ⟨m, hm⟩ := k0; exact DataW.trod_lt m _ _ _ hm
  obtain ⟨z0, w0⟩ : ∃ zs, IsRow .i64 W a0 len0 cap0 zs := by
    obtain ⟨fuel, hf⟩ := h0
    rcases open_ints Tryd.underlying22 Tryd.underlying3 (by kernel_rfl) hf with ⟨hcs, _⟩ | ⟨x, l, c, zs, hcs, _, hl, hm, hz, _, hcell, hwz⟩
    · simp [Value.cells] at hcs
      obtain ⟨rfl, rfl, rfl⟩ := hcs
      exact ⟨[], .inl ⟨rfl, rfl, rfl, rfl⟩⟩
    · simp [Value.cells] at hcs
      obtain ⟨rfl, rfl, rfl⟩ := hcs
      exact ⟨zs, .inr ⟨_, rfl, hl, hm, by simpa using hz, hcell, hwz⟩⟩
  obtain ⟨a1, rfl, rfl, rfl, w1⟩ := open_int Tryd.underlying5 (hval 1 5 v1 rfl rfl) h1
  obtain ⟨a2, rfl, rfl, rfl, w2⟩ := open_int Tryd.underlying5 (hval 2 5 v2 rfl rfl) h2
  clear hA0 hval0 hsz0
  obtain ⟨l0, rfl, hr0, hm0, hw0, hc0⟩ := Go.Proofs.YtcalkhlchjjalaaDoorW.PrintWords.ReadsInt.ofRowC w0
  have b1 : 0 ≤ a1 ∧ a1 ≤ 255 := by simpa [Lit.wf, IntKind.min, IntKind.max, IntKind.signed, IntKind.bits] using w1
  have b2 : 0 ≤ a2 ∧ a2 ≤ 255 := by simpa [Lit.wf, IntKind.min, IntKind.max, IntKind.signed, IntKind.bits] using w2
  refine (Gso.order_x a0 cap0 l0 a1 a2 W (Go.Proofs.YtcalkhlchjjalaaDoorW.PrintWords.Kd.C_of_reads (d := (0 : Int)) (h1 := fun _ => rfl) hr0) hc0 b1 b2 (Gla.GL_of_laid hL)).mono fun e W' ⟨he, bel⟩ => ?_
  subst he
  exact ⟨_, rfl, _, _, _, [], _, [], hW', trodAll_mk1 (shut_bool Tryd.underlying4 _), (trodAll_cons_mk (Below.trod laidOut (by kernel_rfl) (of_decide_eq_true (by kernel_rfl)) k0 bel lt0) (trodAll_cons_mk (shut_int Tryd.underlying5 w1) (trodAll_cons_mk (shut_int Tryd.underlying5 w2) trodAll_mk0))), rfl, bel.frame _, fun h => by cases h⟩
theorem over : Rows.StatementOrderSaid :=
  OpenClaim.holds_of_wide 7 Tryd.f7 rfl rfl rfl rfl rfl rfl rfl ⟨rfl, rfl, rfl, rfl, rfl⟩ rfl rfl rfl rfl rfl (by kernel_rfl) Tryd.func7 (by kernel_rfl)
    (of_decide_eq_true (by kernel_rfl)) (by unfold Func.isWrapper; first | (rw [if_pos (by decide +kernel)]; kernel_rfl) | (rw [if_neg (by decide +kernel)]; exact ⟨rfl, rfl⟩))
    (fun os started H enc _ => lifted os started H enc)
theorem card : Rows.StatementOrderCardSaid :=
  Claim7.holds_tied_plain_at .later [] [.wider, .wider, .data] true (true, "5d651258c026d4f3c1937d3a0b343ce8ca524cb81f341bc712b54841b9e85cc9") false over (fun _ h => by cases h) (by kernel_rfl) (fun _ h => by cases h) statementOrder_row_tie rfl ⟨rfl, rfl⟩ (by kernel_rfl) rfl
    (fun f fn hf hfn => by
      obtain rfl : f = 7 := Option.some.inj ((show Tryd.prog.funcNamed "storagebarter/storagebarterlaw15.StatementOrder" = some 7 by kernel_rfl).symm.trans hf) |>.symm
      obtain rfl : fn = Tryd.f7 := (Option.some.inj (Tryd.func7.symm.trans hfn)).symm
      exact ⟨by kernel_rfl, fun j t ht => by
        rw [Tryd.params7] at ht
        have hm : t ∈ [22, 5] := by have := Array.mem_of_getElem? ht; simp at this; simp; omega
        have hall : ([22, 5].all fun u => !Tryd.prog.wantsStandIn u) = true := by kernel_rfl
        exact (show Tryd.prog.wantsStandIn t = false by simpa using List.all_eq_true.1 hall t hm)⟩)
    (by kernel_rfl)
end Go.Proofs.YtcalkhlchjjalaaDoor.statementOrder
namespace Go.Proofs.YtcalkhlchjjalaaDoor
theorem statementOrder_holds : Rows.StatementOrderCardSaid := statementOrder.card
#print axioms statementOrder_holds
end Go.Proofs.YtcalkhlchjjalaaDoor
