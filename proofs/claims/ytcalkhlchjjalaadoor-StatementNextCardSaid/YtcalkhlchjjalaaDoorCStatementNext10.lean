/- StatementNextCardSaid -/
import Derived.Test.YtcalkhlchjjalaaDoorCStatementNext9
import Derived.Deep.RegionLaw
import Derived.Test.YtcalkhlchjjalaaDoorCStatementNext3
import Derived.Deep.SlicePairs
import Derived.ProofKit
import Derived.OpenShut
import Derived.SizedLaws
import Derived.Test.YtcalkhlchjjalaaDoorRows
import Derived.Test.YtcalkhlchjjalaaDoorCards
import Derived.Test.YtcalkhlchjjalaaDoorTie
import Derived.Lib.SmallJoins
import Derived.WalkKit
import Derived.ChangeOld
import Derived.Below
import Derived.LaidMore
import Derived.Lay
import Derived.SevenTiedAt
import Derived.Stop.Joined
import Derived.Test.YtcalkhlchjjalaaDoorCStatementNext1
namespace Go.Proofs.YtcalkhlchjjalaaDoor.Gca
open Go Go.RowKit Go.Proofs Go.Proofs.YtcalkhlchjjalaaDoor.Gm Go.Proofs.YtcalkhlchjjalaaDoor.Gdm Go.Proofs.YtcalkhlchjjalaaDoor.Gmr Go.Proofs.YtcalkhlchjjalaaDoor.Gpp Go.Proofs.YtcalkhlchjjalaaDoor.Gsy Go.Proofs.YtcalkhlchjjalaaDoor.Gnx Go.Proofs.YtcalkhlchjjalaaDoor.Ggd Go.Proofs.YtcalkhlchjjalaaDoor.Gcw Go.Proofs.YtcalkhlchjjalaaDoor.Gmy Go.Proofs.YtcalkhlchjjalaaDoor.Q Go.Proofs.YtcalkhlchjjalaaDoorW.PrintWords Go.Proofs.YtcalkhlchjjalaaDoorW.PrintLast Go.Proofs.YtcalkhlchjjalaaDoorW.PrintMore
set_option linter.unusedVariables false
/-- The chain under way, its row and the person's block. -/
structure CC (w w1 W : World) (gd : Nat) (L : List Int) (gl g5 : Nat) (v9 : Value) (ch : List S39) (p1 : Int) : Prop where
  q : QW w w1 W gd L gl v9 ch (fun k => w1.heap.size ≤ k)
  pb : W.heap[g5]? = some (.cells #[.int .i64 1, .int .i64 p1] 25 (0, 0))
  l : w1.heap.size ≤ gl
section
variable {w w1 W W' : World} {gd gl g5 : Nat} {L : List Int} {v9 : Value} {ch : List S39} {p1 : Int}
theorem CC.below (h : CC w w1 W gd L gl g5 v9 ch p1) (hb : Below W.heap.size W W') : CC w w1 W' gd L gl g5 v9 ch p1 := ⟨h.q.below hb, blk_below h.pb hb, h.l⟩
theorem CC.drew (h : CC w w1 W gd L gl g5 v9 ch p1) : CC w w1 W.drew gd L gl g5 v9 ch p1 := h.below (below_drew1 (Below.refl _ _))
theorem CC.alloc (h : CC w w1 W gd L gl g5 v9 ch p1) (o : Obj) : CC w w1 (W.alloc o) gd L gl g5 v9 ch p1 := h.below (below_alloc (Below.refl _ _) o)
theorem CC.turn (h : CC w w1 W gd L gl g5 v9 ch p1) (hL : L.length ≤ 1000000) (n : Int) (hn : 1 ≤ n ∧ n ≤ 100000) : Calls Tryd.prog 16 #[.pointer (some ⟨gd, 0, none⟩), .int .i64 n] W fun e w' => ∃ t : Int, e = .returned (.int .i64 t) ∧ 0 ≤ t ∧ t < n ∧ CC w w1 w' gd L gl g5 v9 ch p1 := by
  obtain ⟨at_, h0, hd⟩ := h.q.dk
  obtain ⟨t, a1, e, p, q, h1⟩ := next_ok L at_ n hn.1 (by omega) h0 hL
  refine (storagebartermake_Deck_Next.calls gd L at_ n t a1 w W hd h.q.hb e).mono fun e' w' y => ?_
  obtain ⟨rfl, z1, z2, z3⟩ := y
  exact ⟨t, rfl, p, q, h.q.next h1 z1 z2 z3, z3.blk h.pb (h.q.ne h.pb (by decide)) (by simp), h.l⟩
/-- Say, beside a block that was made before it or not. -/
theorem CC.say {A9 : Option Addr} {c9 : Nat} (h : CC w w1 W gd L gl g5 (.slice A9 ch.length c9) ch p1) (hL : L.length ≤ 1000000) (hG : Gd 1 p1 2 ch) (hl : ch.length ≤ 200) {tick : Int} (ht : I64 tick) :
    Calls Tryd.prog 43 #[.pointer (some ⟨gd, 0, none⟩), .slice A9 ch.length c9, .slice (some ⟨gl, 0, none⟩) 1 1, .agg #[.int .i64 1, .int .i64 p1], .int .i64 2, .int .i64 tick] W fun e w' =>
      ∃ (s : S39) (b : Bool), (b = true → Gd 1 p1 2 (ch ++ [s])) ∧ e = .returned (.tuple #[.agg #[.int .i64 s.f0, .int .i64 s.f1, .int .i64 s.f2, .int .i64 s.f3, .int .i64 s.f4, .int .i64 s.f5, .int .i64 s.f6, .int .i64 s.f7, .int .i64 s.f8, .int .i64 s.f9, .int .i64 s.f10], .bool b]) ∧ CC w w1 w' gd L gl g5 (.slice A9 ch.length c9) ch p1 ∧ KeepBut W w' gd none := by
  refine (say_mk w W W gd L gl A9 c9 ch _ p1 tick ⟨h.q.hb, h.q.hb.size, h.q.dk, KeepBut.refl _ _ _, h.q.b, h.q.cr⟩ hL hG hl ht).mono fun e w' z => ?_
  obtain ⟨s, b, e1, hs, hq⟩ := z
  exact ⟨s, b, hs, e1, ⟨⟨hq.hb, h.q.le, hq.dk, h.q.kp.trans hq.kp (.inl rfl), hq.b, hq.cr⟩, hq.kp.blk h.pb (h.q.ne h.pb (by decide)) (by simp), h.l⟩, hq.kp⟩
theorem CC.sayZ {A9 : Option Addr} {c9 : Nat} {cs : Array Value} (h : CC w w1 W gd L gl g5 (.slice A9 ch.length c9) ch p1) (hL : L.length ≤ 1000000) (hG : Gd 1 p1 2 ch) (hl : ch.length ≤ 200) {tick : Int} (ht : I64 tick) :
    Calls Tryd.prog 43 #[.pointer (some ⟨gd, 0, none⟩), .slice A9 ch.length c9, .slice (some ⟨gl, 0, none⟩) 1 1, .agg #[.int .i64 1, .int .i64 p1], .int .i64 2, .int .i64 tick] (W.alloc (.cells cs 39)) fun e w' =>
      ∃ (s : S39) (b : Bool), (b = true → Gd 1 p1 2 (ch ++ [s])) ∧ e = .returned (.tuple #[.agg #[.int .i64 s.f0, .int .i64 s.f1, .int .i64 s.f2, .int .i64 s.f3, .int .i64 s.f4, .int .i64 s.f5, .int .i64 s.f6, .int .i64 s.f7, .int .i64 s.f8, .int .i64 s.f9, .int .i64 s.f10], .bool b]) ∧ CC w w1 w' gd L gl g5 (.slice A9 ch.length c9) ch p1 ∧ w'.heap[W.heap.size]? = some (.cells cs 39 (0, 0)) :=
  ((h.alloc _).say hL hG hl ht).mono fun e w' ⟨s, b, h1, h2, h3, h4⟩ => ⟨s, b, h1, h2, h3, h4.blk (heap_alloc_new W _) ((h.alloc (.cells cs 39)).q.ne (heap_alloc_new W _) (by decide)) (by simp)⟩
theorem CC.sayD {A9 : Option Addr} {c9 : Nat} {cs : Array Value} (h : CC w w1 W gd L gl g5 (.slice A9 ch.length c9) ch p1) (hL : L.length ≤ 1000000) (hG : Gd 1 p1 2 ch) (hl : ch.length ≤ 200) {tick : Int} (ht : I64 tick) :
    Calls Tryd.prog 43 #[.pointer (some ⟨gd, 0, none⟩), .slice A9 ch.length c9, .slice (some ⟨gl, 0, none⟩) 1 1, .agg #[.int .i64 1, .int .i64 p1], .int .i64 2, .int .i64 tick] (W.alloc (.cells cs 39)).drew fun e w' =>
      ∃ (s : S39) (b : Bool), (b = true → Gd 1 p1 2 (ch ++ [s])) ∧ e = .returned (.tuple #[.agg #[.int .i64 s.f0, .int .i64 s.f1, .int .i64 s.f2, .int .i64 s.f3, .int .i64 s.f4, .int .i64 s.f5, .int .i64 s.f6, .int .i64 s.f7, .int .i64 s.f8, .int .i64 s.f9, .int .i64 s.f10], .bool b]) ∧ CC w w1 w' gd L gl g5 (.slice A9 ch.length c9) ch p1 ∧ w'.heap[W.heap.size]? = some (.cells cs 39 (0, 0)) :=
  (((h.alloc _).drew).say hL hG hl ht).mono fun e w' ⟨s, b, h1, h2, h3, h4⟩ => ⟨s, b, h1, h2, h3, h4.blk (blk_drew (heap_alloc_new W _)) ((h.alloc (.cells cs 39)).q.ne (heap_alloc_new W _) (by decide)) (by simp)⟩
theorem CC.far (h : CC w w1 W gd L gl g5 v9 ch p1) {g : Nat} {cs : Array Value} (hc : W.heap[g]? = some (.cells cs 39 (0, 0))) (hl : w1.heap.size ≤ g) (hn : some g ≠ v9.ownBlock) (i : Nat) (v : Value) : CC w w1 (W.setCell ⟨g, i, none⟩ v) gd L gl g5 v9 ch p1 :=
  ⟨h.q.far hc hl hn i v, blk_far (p := ⟨g, i, none⟩) h.pb (blk_ne h.pb hc (by decide)) v, h.l⟩
theorem CC.far11 {g : Nat} {a0 a1 a2 a3 a4 a5 a6 a7 a8 a9 aa : Value} (h : CC w w1 W gd L gl g5 v9 ch p1) (hc : W.heap[g]? = some (.cells #[a0, a1, a2, a3, a4, a5, a6, a7, a8, a9, aa] 39 (0, 0))) (hl : w1.heap.size ≤ g) (hn : some g ≠ v9.ownBlock) (v0 v1 v2 v3 v4 v5 v6 v7 v8 v9_ va : Value) :
    CC w w1 (((((((((((W.setCell ⟨g, 0, none⟩ v0).setCell ⟨g, 1, none⟩ v1).setCell ⟨g, 2, none⟩ v2).setCell ⟨g, 3, none⟩ v3).setCell ⟨g, 4, none⟩ v4).setCell ⟨g, 5, none⟩ v5).setCell ⟨g, 6, none⟩ v6).setCell ⟨g, 7, none⟩ v7).setCell ⟨g, 8, none⟩ v8).setCell ⟨g, 9, none⟩ v9_).setCell ⟨g, 10, none⟩ va) gd L gl g5 v9 ch p1 ∧ (((((((((((W.setCell ⟨g, 0, none⟩ v0).setCell ⟨g, 1, none⟩ v1).setCell ⟨g, 2, none⟩ v2).setCell ⟨g, 3, none⟩ v3).setCell ⟨g, 4, none⟩ v4).setCell ⟨g, 5, none⟩ v5).setCell ⟨g, 6, none⟩ v6).setCell ⟨g, 7, none⟩ v7).setCell ⟨g, 8, none⟩ v8).setCell ⟨g, 9, none⟩ v9_).setCell ⟨g, 10, none⟩ va).heap[g]? = some (.cells #[v0, v1, v2, v3, v4, v5, v6, v7, v8, v9_, va] 39 (0, 0)) := by
  refine ⟨?_, Gnx.put11 _ _ _ _ _ _ _ _ _ _ _ _ _ _ _ _ _ _ _ _ _ _ hc⟩
  have c0 := h.far hc hl hn 0 v0
  have r0 := blk_put hc 0 v0 rfl
  have c1 := c0.far r0 hl hn 1 v1
  have r1 := blk_put r0 1 v1 rfl
  have c2 := c1.far r1 hl hn 2 v2
  have r2 := blk_put r1 2 v2 rfl
  have c3 := c2.far r2 hl hn 3 v3
  have r3 := blk_put r2 3 v3 rfl
  have c4 := c3.far r3 hl hn 4 v4
  have r4 := blk_put r3 4 v4 rfl
  have c5 := c4.far r4 hl hn 5 v5
  have r5 := blk_put r4 5 v5 rfl
  have c6 := c5.far r5 hl hn 6 v6
  have r6 := blk_put r5 6 v6 rfl
  have c7 := c6.far r6 hl hn 7 v7
  have r7 := blk_put r6 7 v7 rfl
  have c8 := c7.far r7 hl hn 8 v8
  have r8 := blk_put r7 8 v8 rfl
  have c9 := c8.far r8 hl hn 9 v9_
  have r9 := blk_put r8 9 v9_ rfl
  have c10 := c9.far r9 hl hn 10 va
  exact c10
theorem CC.app {v1 : Value} {s : S39} (h : CC w w1 W gd L gl g5 v9 ch p1) (hr : Kd.R k39 39 W' w.heap.size (fun k => w1.heap.size ≤ k) v1 (ch ++ [s])) (hb : Below w.heap.size w W') (hg : W.grownBy W' v9.ownBlock) (hgl : some gl ≠ v1.ownBlock) :
    CC w w1 (W'.setCell ⟨gl, 0, none⟩ v1) gd L gl g5 v1 (ch ++ [s]) p1 := by
  obtain ⟨at_, h0, hd⟩ := h.q.dk
  have hgd := h.q.ne h.q.b (by decide)
  have hpl : g5 ≠ gl := blk_ne h.pb h.q.b (by decide)
  have hb' := blk_grown h.q.b hg (Kd.R_ne h.q.cr h.q.b (by decide))
  have hp' := blk_grown h.pb hg (Kd.R_ne h.q.cr h.pb (by decide))
  have hk : KeepBut w1 W' gd none := by
    refine ⟨Nat.le_trans h.q.kp.1 hg.size, fun i hi hne _ => ?_⟩
    refine (hg.block i (Nat.lt_of_lt_of_le hi h.q.kp.1) (fun e => ?_)).trans (h.q.kp.2 i hi hne (by simp))
    have := h.q.cr.1 i e.symm
    omega
  have hr' : Kd.R k39 39 W' w.heap.size (fun k => w1.heap.size ≤ k ∧ k ≠ gl) v1 (ch ++ [s]) := ⟨fun k hk => ⟨hr.1 k hk, fun e => hgl (by rw [hk, e])⟩, hr.2.imp_ (fun p c hm => by rw [k39_openM hm]; exact k39_mkM _ _ _ _)⟩
  refine ⟨⟨below_set hb (Nat.le_trans h.q.le h.l), h.q.le, ⟨at_, h0, (hd.grown hg (hd.own_ne h.q.cr (by decide))).far (fun e => hgd e.symm) v1⟩, keep_far hk (p := ⟨gl, 0, none⟩) h.l v1, blk_put hb' 0 v1 rfl, ?_⟩, blk_far (p := ⟨gl, 0, none⟩) hp' hpl v1, h.l⟩
  exact Kd.R_mono (Kd.R_far (p := ⟨gl, 0, none⟩) hr' (fun _ hk => hk.2) v1) (fun _ hk => hk.1)
end
theorem infoLS : (Tryd.prog.info? 23).map (fun i => (i.zero, i.size, i.bytes)) = some (some (.slice none 0 0), 1, 24) := by kernel_rfl
theorem run_make1 (W : World) (ρ : Operand → Value) (o : Oper) (ho : o.op = .makeSlice 34 (.tmp 17) (.tmp 17)) (hx : ρ (.tmp 17) = .int .i64 1) :
    (execOp ρ o).run Tryd.prog W = .ok (.value (.slice (some ⟨W.heap.size, 0, none⟩) 1 1)) (W.alloc (.cells #[.slice none 0 0] 23)) := by
  have h := infoLS
  cases hi : Tryd.prog.info? 23 with
  | none => rw [hi] at h; cases h
  | some i =>
    rw [hi] at h
    simp only [Option.map_some, Option.some.injEq, Prod.mk.injEq] at h
    obtain ⟨hz, hs, hb⟩ := h
    have hr := run_makeSlice (P := Tryd.prog) (w := W) 34 23 i (.slice none 0 0) Tryd.underlying34 hi hz .i64 .i64 1 1 (by omega) (by omega) (by rw [hs]; decide) (by rw [hb]; decide) (by omega)
    rw [hs] at hr
    unfold execOp
    have hm : madeCells (Value.slice none 0 0).cells (Int.toNat 1 * 1) = #[.slice none 0 0] := by kernel_rfl
    simp only [ho, hx, Sem.run_bind, hr, hm]
    rfl
theorem own_app {w w1 W : World} {gd gl g5 : Nat} {L : List Int} {v9 v1 : Value} {ch : List S39} {p1 : Int} (h : CC w w1 W gd L gl g5 v9 ch p1) (hat : v1.ownBlock = v9.ownBlock ∨ ∃ b, v1.ownBlock = some b ∧ W.heap.size ≤ b) : some gl ≠ v1.ownBlock := by
  rcases hat with e | ⟨b, e, hb⟩
  · rw [e]; exact Kd.R_ne h.q.cr h.q.b (by decide)
  · rw [e]
    intro z
    injection z with z
    have := blk_lt h.q.b
    omega
/-- What Chains and Chain end in. -/
structure ChsOk (w w1 : World) (gd : Nat) (L : List Int) (p1 : Int) (e : Ending) (w' : World) : Prop where
  out : ∃ (gl g5 : Nat) (v : Value) (ch : List S39) (tick : Int), e = .returned (.tuple #[.slice (some ⟨gl, 0, none⟩) 1 1, .int .i64 tick]) ∧ Gd 1 p1 2 ch ∧ ch.length ≤ 14 ∧ (0 ≤ tick ∧ tick ≤ 40) ∧ CC w w1 w' gd L gl g5 v ch p1
set_option maxRecDepth 100000 in
set_option maxHeartbeats 8000000 in
theorem chains_mk (w w1 : World) (gd : Nat) (L : List Int) (p1 : Int) (hb : Below w.heap.size w w1) (hd : ∃ at_, 0 ≤ at_ ∧ IsS57 w w1 gd L at_) (hL : L.length ≤ 1000000) :
    Calls Tryd.prog 27 #[.pointer (some ⟨gd, 0, none⟩), .agg #[.int .i64 1, .int .i64 p1], .int .i64 1, .int .i64 14] w1 (ChsOk w w1 gd L p1) := by
  have mixed : (Tryd.prog).follows .mixedOrders = true := by kernel_rfl
  have hu39 := Tryd.underlying39
  have hu25 := Tryd.underlying25
  have HB := Aside0.mk hb
  have HD := Aside0.mk hd
  clear hb hd
  go_enter Tryd.func27, Tryd.ntmps27
  go_upto_region 2 with (first | ((with_reducible refine gate_dst (N := 18) rfl ?_); refine Kd.event_run rfl (run_make1 _ _ _ rfl rfl) ?_))
  have HX0 : Aside0 (CC w w1 ((w1.alloc (.cells #[.int .i64 1, .int .i64 p1] 25)).alloc (.cells #[.slice none 0 0] 23)) gd L (w1.heap.size + 1) w1.heap.size (.slice none 0 0) [] p1) := by
    obtain ⟨at_, h0, hd⟩ := HD.out
    have hb2 : Below w1.heap.size w1 ((w1.alloc (.cells #[.int .i64 1, .int .i64 p1] 25)).alloc (.cells #[.slice none 0 0] 23)) := below_alloc (below_alloc (Below.refl _ _) _) _
    exact ⟨⟨⟨below_step HB.out hb2, HB.out.size, ⟨at_, h0, hd.below hb2⟩, KeepBut.of_below hb2 gd none, two_new w1 _ _ _ _, Kd.R_nil _ _ _ _ _⟩, blk_alloc (heap_alloc_new w1 _) _, Nat.le_succ _⟩⟩
  obtain ⟨W2, hW2⟩ : ∃ W2, W2 = (w1.alloc (.cells #[.int .i64 1, .int .i64 p1] 25)).alloc (.cells #[.slice none 0 0] 23) := ⟨_, rfl⟩
  rw [← hW2] at HX0 ⊢
  clear hW2 HB HD
  obtain ⟨gl, hgl⟩ : ∃ gl, w1.heap.size + 1 = gl := ⟨_, rfl⟩
  rw [hgl] at HX0 ⊢
  obtain ⟨g5, hg5⟩ : ∃ g5, w1.heap.size = g5 := ⟨_, rfl⟩
  rw [hg5] at HX0 ⊢
  clear hgl hg5
  have HX := HX0
  clear HX0
  go_wp2_with (first | (go_at_call 16; first | (with_reducible refine (HX.out.turn hL 4 (by decide)).mono ?_; rintro e w3 ⟨t1, rfl, ht1, ht1', hx⟩; clear HX; have HX := Aside0.mk hx; clear hx) | (with_reducible refine (HX.out.turn hL 15 (by decide)).mono ?_; rintro e w4 ⟨t2, rfl, ht2, ht2', hx⟩; clear HX; have HX := Aside0.mk hx; clear hx)))
  go_loopw [11, 12, 13, 14, 15, 16] (fun s11 s12 s13 s14 s15 s16 wr => ∃ (v : Value) (ch : List S39) (tick k : Int), s11 = .int .i64 tick ∧ s12 = .int .i64 k ∧ (0 ≤ k ∧ (ch.length : Int) + k ≤ 14) ∧ (0 ≤ tick ∧ tick + 2 * k ≤ 40) ∧ Aside0 (Gd 1 p1 2 ch) ∧ Aside0 (CC w w1 wr gd L gl g5 v ch p1)) (fun _ s12 _ _ _ _ _ => (intOf s12).toNat)
  case atStart => exact ⟨_, [], _, _, rfl, rfl, ⟨by omega, by simp; omega⟩, ⟨by omega, by omega⟩, ⟨Gd.nil _ _ _⟩, HX⟩
  case round =>
    clear HX
    obtain ⟨v, ch, tick, k, rfl, rfl, hkk, htk, HG, HX⟩ := hrel
    obtain ⟨A9, c9, ev⟩ := Kd.R_slice HX.out.q.cr
    subst ev
    by_cases hlt : 0 < k
    case neg =>
      have d1 : decide (0 < k) = false := decide_eq_false hlt
      go_wp2
      go_ret2
      exact ⟨⟨gl, g5, _, ch, tick, rfl, HG.out, by omega, by omega, HX.out⟩⟩
    case pos =>
      have d1 : decide (0 < k) = true := decide_eq_true hlt
      have hp0_ : wr.cell? ⟨g5, 0, none⟩ = some (.int .i64 1) := (blk_cell HX.out.pb 0).trans rfl
      have hcl : ch.length ≤ 200 := by omega
      have hti : I64 tick := by unfold I64; omega
      go_upto_region 10 with (first | (go_at_call 16; with_reducible refine (HX.out.turn hL 1 (by decide)).mono ?_; rintro e w5 ⟨t1, rfl, ht1, ht1', hx⟩; clear HX hp0_; have HX := Aside0.mk hx; clear hx; obtain rfl : t1 = 0 := (by omega); clear ht1 ht1'; have hp0_ : w5.cell? ⟨g5, 0, none⟩ = some (.int .i64 1) := (blk_cell HX.out.pb 0).trans rfl; have hp1_ : w5.cell? ⟨g5, 1, none⟩ = some (.int .i64 p1) := (blk_cell HX.out.pb 1).trans rfl; have hg0_ : w5.cell? ⟨gl, 0, none⟩ = some (.slice A9 ch.length c9) := (blk_cell HX.out.q.b 0).trans rfl; have hpl_ := blk_lt HX.out.pb; have hgl_ := blk_lt HX.out.q.b))
      have hcw := HX.out
      have hl5 := hcw.q.kp.1
      have hn5 : some w5.heap.size ≠ (Value.slice A9 ch.length c9).ownBlock := by have := Kd.R_ne_new hcw.q.cr 0; simpa using this
      go_cut [15, 16] (fun s15 s16 wx => ∃ (g15 : Nat) (s0 s1 s2 s3 s4 s5 s6 s7 s8 s9 s10 : Int) (b : Bool), s15 = .pointer (some ⟨g15, 0, none⟩) ∧ s16 = .bool b ∧ Aside0 (b = true → Gd 1 p1 2 (ch ++ [⟨s0, s1, s2, s3, s4, s5, s6, s7, s8, s9, s10⟩])) ∧ Aside0 (CC w w1 wx gd L gl g5 (.slice A9 ch.length c9) ch p1) ∧ Aside0 (wx.heap[g15]? = some (.cells #[.int .i64 s0, .int .i64 s1, .int .i64 s2, .int .i64 s3, .int .i64 s4, .int .i64 s5, .int .i64 s6, .int .i64 s7, .int .i64 s8, .int .i64 s9, .int .i64 s10] 39 (0, 0))))
      case first =>
        go_region_with (first | (go_at_call 43; (first | (with_reducible refine (CC.say hcw hL HG.out hcl hti).mono ?_; rintro e w' ⟨s, b, hs, rfl, hcw, -⟩) | (with_reducible refine (CC.say (CC.drew hcw) hL HG.out hcl hti).mono ?_; rintro e w' ⟨s, b, hs, rfl, hcw, -⟩) | (with_reducible refine (CC.sayZ hcw hL HG.out hcl hti).mono ?_; rintro e w' ⟨s, b, hs, rfl, hcw, hz⟩; have hz0_ : w'.cell? ⟨w5.heap.size, 0, none⟩ = some (.int .i64 0) := (blk_cell hz 0).trans rfl; have hf0_ := blk_frozen hz 0; have hz1_ : w'.cell? ⟨w5.heap.size, 1, none⟩ = some (.int .i64 0) := (blk_cell hz 1).trans rfl; have hf1_ := blk_frozen hz 1; have hz2_ : w'.cell? ⟨w5.heap.size, 2, none⟩ = some (.int .i64 0) := (blk_cell hz 2).trans rfl; have hf2_ := blk_frozen hz 2; have hz3_ : w'.cell? ⟨w5.heap.size, 3, none⟩ = some (.int .i64 0) := (blk_cell hz 3).trans rfl; have hf3_ := blk_frozen hz 3; have hz4_ : w'.cell? ⟨w5.heap.size, 4, none⟩ = some (.int .i64 0) := (blk_cell hz 4).trans rfl; have hf4_ := blk_frozen hz 4; have hz5_ : w'.cell? ⟨w5.heap.size, 5, none⟩ = some (.int .i64 0) := (blk_cell hz 5).trans rfl; have hf5_ := blk_frozen hz 5; have hz6_ : w'.cell? ⟨w5.heap.size, 6, none⟩ = some (.int .i64 0) := (blk_cell hz 6).trans rfl; have hf6_ := blk_frozen hz 6; have hz7_ : w'.cell? ⟨w5.heap.size, 7, none⟩ = some (.int .i64 0) := (blk_cell hz 7).trans rfl; have hf7_ := blk_frozen hz 7; have hz8_ : w'.cell? ⟨w5.heap.size, 8, none⟩ = some (.int .i64 0) := (blk_cell hz 8).trans rfl; have hf8_ := blk_frozen hz 8; have hz9_ : w'.cell? ⟨w5.heap.size, 9, none⟩ = some (.int .i64 0) := (blk_cell hz 9).trans rfl; have hf9_ := blk_frozen hz 9; have hz10_ : w'.cell? ⟨w5.heap.size, 10, none⟩ = some (.int .i64 0) := (blk_cell hz 10).trans rfl; have hf10_ := blk_frozen hz 10; have hzl_ := blk_lt hz) | (with_reducible refine (CC.sayD hcw hL HG.out hcl hti).mono ?_; rintro e w' ⟨s, b, hs, rfl, hcw, hz⟩; have hz0_ : w'.cell? ⟨w5.heap.size, 0, none⟩ = some (.int .i64 0) := (blk_cell hz 0).trans rfl; have hf0_ := blk_frozen hz 0; have hz1_ : w'.cell? ⟨w5.heap.size, 1, none⟩ = some (.int .i64 0) := (blk_cell hz 1).trans rfl; have hf1_ := blk_frozen hz 1; have hz2_ : w'.cell? ⟨w5.heap.size, 2, none⟩ = some (.int .i64 0) := (blk_cell hz 2).trans rfl; have hf2_ := blk_frozen hz 2; have hz3_ : w'.cell? ⟨w5.heap.size, 3, none⟩ = some (.int .i64 0) := (blk_cell hz 3).trans rfl; have hf3_ := blk_frozen hz 3; have hz4_ : w'.cell? ⟨w5.heap.size, 4, none⟩ = some (.int .i64 0) := (blk_cell hz 4).trans rfl; have hf4_ := blk_frozen hz 4; have hz5_ : w'.cell? ⟨w5.heap.size, 5, none⟩ = some (.int .i64 0) := (blk_cell hz 5).trans rfl; have hf5_ := blk_frozen hz 5; have hz6_ : w'.cell? ⟨w5.heap.size, 6, none⟩ = some (.int .i64 0) := (blk_cell hz 6).trans rfl; have hf6_ := blk_frozen hz 6; have hz7_ : w'.cell? ⟨w5.heap.size, 7, none⟩ = some (.int .i64 0) := (blk_cell hz 7).trans rfl; have hf7_ := blk_frozen hz 7; have hz8_ : w'.cell? ⟨w5.heap.size, 8, none⟩ = some (.int .i64 0) := (blk_cell hz 8).trans rfl; have hf8_ := blk_frozen hz 8; have hz9_ : w'.cell? ⟨w5.heap.size, 9, none⟩ = some (.int .i64 0) := (blk_cell hz 9).trans rfl; have hf9_ := blk_frozen hz 9; have hz10_ : w'.cell? ⟨w5.heap.size, 10, none⟩ = some (.int .i64 0) := (blk_cell hz 10).trans rfl; have hf10_ := blk_frozen hz 10; have hzl_ := blk_lt hz)); have HSN := Aside0.mk hs; clear hs; obtain ⟨s0, s1, s2, s3, s4, s5, s6, s7, s8, s9, s10⟩ := s; (try dsimp only)))
        all_goals (go_wp2_with fail)
        all_goals go_meet
        all_goals first
          | (with_reducible exact ⟨_, s0, s1, s2, s3, s4, s5, s6, s7, s8, s9, s10, b, rfl, rfl, HSN, ⟨CC.alloc hcw _⟩, ⟨heap_alloc_new _ _⟩⟩)
          | (obtain ⟨hm1, hm2⟩ := CC.far11 hcw hz hl5 hn5 (.int .i64 s0) (.int .i64 s1) (.int .i64 s2) (.int .i64 s3) (.int .i64 s4) (.int .i64 s5) (.int .i64 s6) (.int .i64 s7) (.int .i64 s8) (.int .i64 s9) (.int .i64 s10)
             with_reducible exact ⟨_, s0, s1, s2, s3, s4, s5, s6, s7, s8, s9, s10, b, rfl, rfl, HSN, ⟨hm1⟩, ⟨hm2⟩⟩)
      case rest =>
      clear hcw HX hp0_ hp1_ hg0_ hpl_ hgl_ hl5 hn5
      obtain ⟨g15, s0, s1, s2, s3, s4, s5, s6, s7, s8, s9, s10, b, rfl, rfl, HSN, HX, HZ⟩ := hcut
      cases b
      case false =>
        go_wp2_with (first | (go_at_call 16; with_reducible refine (HX.out.turn hL 3 (by decide)).mono ?_; rintro e w7 ⟨t3, rfl, ht3, ht3', hx⟩; clear HX; have HX := Aside0.mk hx; clear hx))
        go_roundw
        case rel => exact ⟨_, ch, _, _, rfl, rfl, ⟨by omega, by omega⟩, ⟨by omega, by omega⟩, HG, HX⟩
        case measure => simp only [intOf]; omega
      case true =>
        have HGN := Aside0.mk (HSN.out rfl)
        clear HSN
        have hz0_ : wc.cell? ⟨g15, 0, none⟩ = some (.int .i64 s0) := (blk_cell HZ.out 0).trans rfl
        have hz1_ : wc.cell? ⟨g15, 1, none⟩ = some (.int .i64 s1) := (blk_cell HZ.out 1).trans rfl
        have hz2_ : wc.cell? ⟨g15, 2, none⟩ = some (.int .i64 s2) := (blk_cell HZ.out 2).trans rfl
        have hz3_ : wc.cell? ⟨g15, 3, none⟩ = some (.int .i64 s3) := (blk_cell HZ.out 3).trans rfl
        have hz4_ : wc.cell? ⟨g15, 4, none⟩ = some (.int .i64 s4) := (blk_cell HZ.out 4).trans rfl
        have hz5_ : wc.cell? ⟨g15, 5, none⟩ = some (.int .i64 s5) := (blk_cell HZ.out 5).trans rfl
        have hz6_ : wc.cell? ⟨g15, 6, none⟩ = some (.int .i64 s6) := (blk_cell HZ.out 6).trans rfl
        have hz7_ : wc.cell? ⟨g15, 7, none⟩ = some (.int .i64 s7) := (blk_cell HZ.out 7).trans rfl
        have hz8_ : wc.cell? ⟨g15, 8, none⟩ = some (.int .i64 s8) := (blk_cell HZ.out 8).trans rfl
        have hz9_ : wc.cell? ⟨g15, 9, none⟩ = some (.int .i64 s9) := (blk_cell HZ.out 9).trans rfl
        have hz10_ : wc.cell? ⟨g15, 10, none⟩ = some (.int .i64 s10) := (blk_cell HZ.out 10).trans rfl
        have hzl_ := blk_lt HZ.out
        have hg0_ : wc.cell? ⟨gl, 0, none⟩ = some (.slice A9 ch.length c9) := (blk_cell HX.out.q.b 0).trans rfl
        have hgf_ := blk_frozen HX.out.q.b 0
        have hgl_ := blk_lt HX.out.q.b
        have hle : (ch.length + 1) * 88 ≤ 140737488355328 := by omega
        go_upto_region 12 with fail
        have hcd := CC.drew HX.out
        have hsz : w.heap.size ≤ (World.drew wc).heap.size := hcd.q.hb.size
        go_region_law (first | (go_loud (refine Kd.R_append_step k39 (w0 := w) (W := World.drew wc) w.heap.size rfl (.tmp 59) (.tmp 61) 23 39 (.agg #[.int .i64 0, .int .i64 0, .int .i64 0, .int .i64 0, .int .i64 0, .int .i64 0, .int .i64 0, .int .i64 0, .int .i64 0, .int .i64 0, .int .i64 0]) 88 rfl Tryd.underlying23 info39 rfl (by decide) (by omega) (.slice A9 ch.length c9) ch (⟨s0, s1, s2, s3, s4, s5, s6, s7, s8, s9, s10⟩ : S39) [.int .i64 s0, .int .i64 s1, .int .i64 s2, .int .i64 s3, .int .i64 s4, .int .i64 s5, .int .i64 s6, .int .i64 s7, .int .i64 s8, .int .i64 s9, .int .i64 s10] (fun k => w1.heap.size ≤ k) (fun _ => False) rfl rfl (k39_mkM _ _ _ _) (fun _ hk => hk.elim) (fun k hk => Nat.le_trans HX.out.q.kp.1 hk) hcd.q.cr hcd.q.hb hsz hle ?_); intro v1 w9 ho hb hg hat; have hn1 : some gl ≠ v1.ownBlock := own_app hcd hat; have hbl_ := blk_grown hcd.q.b hg (Kd.R_ne hcd.q.cr hcd.q.b (by decide)); have hgc_ := (blk_cell hbl_ 0).trans rfl; have hgf_ := blk_frozen hbl_ 0; have hgz_ := blk_lt hbl_; obtain ⟨Ao, co, eo⟩ := Kd.R_slice ho; subst eo; have hq_ := CC.app hcd ho hb hg hn1; simp only [List.length_append, List.length_singleton] at hq_; clear hcd hsz HX; have HX := Aside0.mk hq_; clear hq_ hbl_ ho hb hg hat hn1))
        all_goals (go_wp2_with (first | (go_at_call 16; with_reducible refine (HX.out.turn hL 3 (by decide)).mono ?_; rintro e w7 ⟨t3, rfl, ht3, ht3', hx⟩; clear HX; have HX := Aside0.mk hx; clear hx)))
        all_goals
          refine ⟨⟨_, ch ++ [⟨s0, s1, s2, s3, s4, s5, s6, s7, s8, s9, s10⟩], _, _, rfl, rfl, ⟨by omega, by rw [List.length_append, List.length_singleton]; omega⟩, ⟨by omega, by omega⟩, HGN, HX⟩, ?_⟩
          simp only [intOf]
          omega
/-- What Chain ends in. -/
structure ChOk (w w1 : World) (gd : Nat) (L : List Int) (p1 : Int) (e : Ending) (w' : World) : Prop where
  out : ∃ (A : Option Addr) (c : Nat) (ch : List S39) (tick : Int), e = .returned (.tuple #[.slice A ch.length c, .int .i64 tick]) ∧ Gd 1 p1 2 ch ∧ ch.length ≤ 14 ∧ (0 ≤ tick ∧ tick ≤ 40) ∧ Below w.heap.size w w' ∧ (∃ at_, 0 ≤ at_ ∧ IsS57 w w' gd L at_) ∧ KeepBut w1 w' gd none ∧ Kd.R k39 39 w' w.heap.size (fun k => w1.heap.size ≤ k) (.slice A ch.length c) ch
set_option maxRecDepth 100000 in
set_option maxHeartbeats 8000000 in
theorem chain_mk (w w1 : World) (gd : Nat) (L : List Int) (p1 : Int) (hb : Below w.heap.size w w1) (hd : ∃ at_, 0 ≤ at_ ∧ IsS57 w w1 gd L at_) (hL : L.length ≤ 1000000) :
    Calls Tryd.prog 12 #[.pointer (some ⟨gd, 0, none⟩), .agg #[.int .i64 1, .int .i64 p1]] w1 (ChOk w w1 gd L p1) := by
  have hu25 := Tryd.underlying25
  have hb2 : Below w1.heap.size w1 (w1.alloc (.cells #[.int .i64 1, .int .i64 p1] 25)) := below_alloc (Below.refl _ _) _
  have HB : Aside0 (Below w.heap.size w (w1.alloc (.cells #[.int .i64 1, .int .i64 p1] 25))) := ⟨below_step hb hb2⟩
  have HD : Aside0 (∃ at_, 0 ≤ at_ ∧ IsS57 w (w1.alloc (.cells #[.int .i64 1, .int .i64 p1] 25)) gd L at_) := ⟨by obtain ⟨at_, h0, h1⟩ := hd; exact ⟨at_, h0, h1.below hb2⟩⟩
  have HK := Aside0.mk (KeepBut.of_below hb2 gd none)
  have HS := Aside0.mk hb2.size
  clear hb hd hb2
  go_enter Tryd.func12, Tryd.ntmps12
  go_upto_region 2 with (first | (go_at_call 27; with_reducible refine (chains_mk w _ gd L p1 HB.out HD.out hL).mono ?_; rintro e w2 ⟨gl, g5, v, ch, tick, rfl, hg, hl, htk, hx⟩; have HG := Aside0.mk hg; have HX := Aside0.mk hx; clear hg hx))
  obtain ⟨A9, c9, ev⟩ := Kd.R_slice HX.out.q.cr
  subst ev
  have hg0_ : w2.cell? ⟨gl, 0, none⟩ = some (.slice A9 ch.length c9) := (blk_cell HX.out.q.b 0).trans rfl
  go_wp2
  go_ret2
  exact ⟨⟨A9, c9, ch, tick, rfl, HG.out, hl, htk, HX.out.q.hb, HX.out.q.dk, HK.out.trans HX.out.q.kp (.inl rfl), Kd.R_mono HX.out.q.cr (fun k hk => Nat.le_trans HS.out hk)⟩⟩
end Go.Proofs.YtcalkhlchjjalaaDoor.Gca

namespace Go.Proofs.YtcalkhlchjjalaaDoor.Q
open Go.RowKit Go.Proofs.YtcalkhlchjjalaaDoorW.PrintWords Go.Proofs.YtcalkhlchjjalaaDoorW.PrintLast Go.Proofs.YtcalkhlchjjalaaDoorW.PrintMore Go.Proofs.YtcalkhlchjjalaaDoor.Gput
attribute [local go_sem] max2_int min2_int max_two min_two max_three min_three max_four min_four   -- for this text's walks alone
set_option linter.unusedVariables false
set_option linter.unusedSimpArgs false
def storagebartermake_Few.f (l0 : List Int) : Option (Bool) := some (decide ((l0.length : Int) ≤ 500))
set_option maxHeartbeats 8000000 in
set_option maxRecDepth 100000 in
theorem storagebartermake_Few.calls (A0 : Option Addr) (c0 : Nat) (l0 : List Int) (r : Bool) (w : World) (hr0 : Kd.C (Kd.int .i64) w A0 l0.length l0) (hc0 : l0.length ≤ c0) (h : storagebartermake_Few.f l0 = some r) :
    Calls Tryd.prog 9 #[.slice A0 l0.length c0] w fun e w' => e = .returned (.bool r) ∧ Drawn0 w w' := by
  have HR0 := Aside0.mk hr0
  have HC0 := Aside0.mk hc0
  clear hr0 hc0
  have H : (some (decide ((l0.length : Int) ≤ 500))) = some r := h
  clear h
  obtain rfl := Option.some.inj H
  go_enter Tryd.func9, Tryd.ntmps9
  go_wp2
  go_ret
  exact ⟨by first | rfl | (simp; done) | (simp [*]; done), by repeat (first | exact Drawn0.refl _ | apply Drawn0.step)⟩
end Go.Proofs.YtcalkhlchjjalaaDoor.Q

namespace Go.Proofs.YtcalkhlchjjalaaDoor.Gnl
open Go Go.RowKit Go.Proofs Go.Proofs.YtcalkhlchjjalaaDoor.Gm Go.Proofs.YtcalkhlchjjalaaDoor.Gdm Go.Proofs.YtcalkhlchjjalaaDoor.Gmr Go.Proofs.YtcalkhlchjjalaaDoor.Gpp Go.Proofs.YtcalkhlchjjalaaDoor.Gsy Go.Proofs.YtcalkhlchjjalaaDoor.Gnx Go.Proofs.YtcalkhlchjjalaaDoor.Ggd Go.Proofs.YtcalkhlchjjalaaDoor.Gcw Go.Proofs.YtcalkhlchjjalaaDoor.Grn Go.Proofs.YtcalkhlchjjalaaDoor.Gca Go.Proofs.YtcalkhlchjjalaaDoor.Q Go.Proofs.YtcalkhlchjjalaaDoorW.PrintWords Go.Proofs.YtcalkhlchjjalaaDoorW.PrintLast Go.Proofs.YtcalkhlchjjalaaDoorW.PrintMore
set_option linter.unusedVariables false
theorem mod_x (a m : Int) (hm : 0 < m ∧ m ≤ 1000) (w : World) : Calls Tryd.prog 13 #[.int .i64 a, .int .i64 m] w fun e w' => ∃ t : Int, e = .returned (.int .i64 t) ∧ 0 ≤ t ∧ t < m ∧ Below w.heap.size w w' :=
  (storagebartermake_Mod.calls a m (a % m) w (mod_eq a m hm.1 (by omega))).mono fun e w' z => ⟨a % m, z.1, Int.emod_nonneg _ (by omega), Int.emod_lt_of_pos _ hm.1, z.2.below⟩
/-- The worlds of the law, behind the chain. -/
structure N1 (w W : World) (AR : Option Addr) (raw : List S39) (A : Option Addr) (ch : List S39) (g12 g22 : Nat) (q0 q1 p1 : Int) : Prop where
  hb : Below w.heap.size w W
  cr : Kd.C k39 W AR raw.length raw
  cc : Kd.C k39 W A ch.length ch
  b12 : W.heap[g12]? = some (.cells #[.int .i64 q0, .int .i64 q1] 25 (0, 0))
  b22 : W.heap[g22]? = some (.cells #[.int .i64 1, .int .i64 p1] 25 (0, 0))
theorem N1.below {w W W' : World} {AR A : Option Addr} {raw ch : List S39} {g12 g22 : Nat} {q0 q1 p1 : Int} (h : N1 w W AR raw A ch g12 g22 q0 q1 p1) (hb : Below W.heap.size W W') : N1 w W' AR raw A ch g12 g22 q0 q1 p1 :=
  ⟨below_step h.hb hb, Kd.C_below h.cr hb, Kd.C_below h.cc hb, blk_below h.b12 hb, blk_below h.b22 hb⟩
/-- Further blocks that stand. -/
structure NB (W : World) (g : Nat) (cs : Array Value) (t : TypeId) : Prop where
  b : W.heap[g]? = some (.cells cs t (0, 0))
theorem NB.below {W W' : World} {g : Nat} {cs : Array Value} {t : TypeId} (h : NB W g cs t) (hb : Below W.heap.size W W') : NB W' g cs t := ⟨blk_below h.b hb⟩
/-- Four rows of seven numbers. -/
def Rows28 (W : World) (g : Nat) : Prop := ∃ (cs : Array Value) (xs : List Int), W.heap[g]? = some (.cells cs 35 (0, 0)) ∧ xs.length = 28 ∧ cs = (xs.map (Value.int .i64)).toArray ∧ ∀ x ∈ xs, I64 x
theorem Rows28.below {W W' : World} {g : Nat} (h : Rows28 W g) (hb : Below W.heap.size W W') : Rows28 W' g := by
  obtain ⟨cs, xs, h1, h2⟩ := h
  exact ⟨cs, xs, blk_below h1 hb, h2⟩
theorem rows_at {W : World} {g : Nat} {cs : Array Value} {xs : List Int} (h1 : W.heap[g]? = some (.cells cs 35 (0, 0))) (h2 : xs.length = 28) (h3 : cs = (xs.map (Value.int .i64)).toArray) (h4 : ∀ x ∈ xs, I64 x) (m : Nat) (hm : m < 28) : ∃ y, W.cell? ⟨g, m, none⟩ = some (.int .i64 y) ∧ I64 y := by
  refine ⟨xs[m], ?_, h4 _ (List.getElem_mem _)⟩
  rw [blk_cell h1, h3]
  simp [List.getElem?_eq_getElem (show m < xs.length by omega)]
set_option maxRecDepth 100000 in
set_option maxHeartbeats 16000000 in
theorem next_law (A0 : Option Addr) (c0 : Nat) (L : List Int) (AR : Option Addr) (cR : Nat) (raw : List S39) (q0 q1 to_ tick kind a b c e_ : Int) (w : World) (hr0 : Kd.C (Kd.int .i64) w A0 L.length L) (hc0 : L.length ≤ c0)
    (hrR : Kd.C k39 w AR raw.length raw) (hcR : raw.length ≤ cR) (hWR : ∀ s ∈ raw, W64 s) (i0 : I64 q0) (i2 : I64 to_) (i3 : I64 tick) (i4 : I64 kind) (i5 : I64 a) (i6 : I64 b) (i7 : I64 c) (i8 : I64 e_) (hG : GL w) :
    Calls Tryd.prog 3 #[.slice A0 L.length c0, .slice AR raw.length cR, .agg #[.int .i64 q0, .int .i64 q1], .int .i64 to_, .int .i64 tick, .int .i64 kind, .int .i64 a, .int .i64 b, .int .i64 c, .int .i64 e_] w fun e w' => e = .returned (.bool true) ∧ Below w.heap.size w w' := by
  have mixed : (Tryd.prog).follows .mixedOrders = true := by kernel_rfl
  have hu39 := Tryd.underlying39
  have hu25 := Tryd.underlying25
  have hu7 := Tryd.underlying35
  have HG := Aside0.mk hG
  have HR0 := Aside0.mk hr0
  have HRR := Aside0.mk hrR
  have HWR := Aside0.mk hWR
  have HI := Aside0.mk (And.intro i0 (And.intro i2 (And.intro i3 (And.intro i4 (And.intro i5 (And.intro i6 (And.intro i7 i8)))))))
  have HB : Aside0 (Below w.heap.size w (w.alloc (.cells #[.int .i64 q0, .int .i64 q1] 25))) := ⟨below_alloc (Below.refl _ _) _⟩
  have H12 : Aside0 (NB (w.alloc (.cells #[.int .i64 q0, .int .i64 q1] 25)) w.heap.size #[.int .i64 q0, .int .i64 q1] 25) := ⟨⟨heap_alloc_new w _⟩⟩
  clear hr0 hrR hWR i0 i2 i3 i4 i5 i6 i7 i8 hG
  by_cases h1 : (L.length : Int) ≤ 500
  case neg =>
    have F2 : Aside0 (storagebartermake_Few.f L = some false) := ⟨by unfold storagebartermake_Few.f; rw [decide_eq_false h1]⟩
    clear h1
    go_enter Tryd.func3, Tryd.ntmps3
    go_wp2_with (first | (go_at_call 8; with_reducible refine (sane_x _ (HG.out.step HB.out)).mono ?_; rintro e w1 ⟨rfl, hb⟩; have n1_ := Aside0.mk (below_step HB.out hb); have n2_ := Aside0.mk (NB.below H12.out hb); clear HB H12 hb; have HB := n1_; have H12 := n2_; clear n1_ n2_) | (go_at_call 9; with_reducible refine (storagebartermake_Few.calls A0 c0 L _ _ (Kd.C_below HR0.out HB.out) hc0 F2.out).mono ?_; rintro e w2 ⟨rfl, hd⟩; have hb := hd.below; clear hd; have n1_ := Aside0.mk (below_step HB.out hb); have n2_ := Aside0.mk (NB.below H12.out hb); clear HB H12 hb; have HB := n1_; have H12 := n2_; clear n1_ n2_))
    go_ret
    exact ⟨rfl, HB.out⟩
  case pos =>
  have F2 : Aside0 (storagebartermake_Few.f L = some true) := ⟨by unfold storagebartermake_Few.f; rw [decide_eq_true h1]⟩
  by_cases h4 : 400 < raw.length
  case pos =>
    have d1 : decide (400 < raw.length) = true := decide_eq_true h4
    have d2 : decide (400 < (raw.length : Int)) = true := decide_eq_true (by omega)
    clear h1 h4
    go_enter Tryd.func3, Tryd.ntmps3
    go_wp2_with (first | (go_at_call 8; with_reducible refine (sane_x _ (HG.out.step HB.out)).mono ?_; rintro e w1 ⟨rfl, hb⟩; have n1_ := Aside0.mk (below_step HB.out hb); have n2_ := Aside0.mk (NB.below H12.out hb); clear HB H12 hb; have HB := n1_; have H12 := n2_; clear n1_ n2_) | (go_at_call 9; with_reducible refine (storagebartermake_Few.calls A0 c0 L _ _ (Kd.C_below HR0.out HB.out) hc0 F2.out).mono ?_; rintro e w2 ⟨rfl, hd⟩; have hb := hd.below; clear hd; have n1_ := Aside0.mk (below_step HB.out hb); have n2_ := Aside0.mk (NB.below H12.out hb); clear HB H12 hb; have HB := n1_; have H12 := n2_; clear n1_ n2_))
    go_ret
    exact ⟨rfl, HB.out⟩
  case neg =>
  have d1 : decide (400 < raw.length) = false := decide_eq_false h4
  have d2 : decide (400 < (raw.length : Int)) = false := decide_eq_false (by omega)
  have hL : L.length ≤ 1000000 := by omega
  obtain ⟨l, sec, at1, e3, hM, hl2, hat1⟩ := People_ok L hL 0 (by omega) 1 (by omega) 2 (by omega)
  rw [show ((1 : Nat) : Int) = 1 from rfl] at e3
  have F3 := Aside0.mk e3
  have HM := Aside0.mk hM
  have hl0 : 0 < l.length := by omega
  have hl16 : l.length ≤ 16 := by omega
  have q00 : rd_T25 l ((0 : Nat) : Int) = l[0] := by simp [rd_T25, List.getD, hl0]
  obtain ⟨p1, hp1⟩ : ∃ p1, p1 = l[0].f1 := ⟨_, rfl⟩
  have hid : (rd_T25 l ((0 : Nat) : Int)).f0 = 1 := by rw [q00]; exact HM.out.ids 0 hl0
  have his : (rd_T25 l ((0 : Nat) : Int)).f1 = p1 := by rw [q00, hp1]
  have HID := Lib.hid hid
  have HIS := Lib.hid his
  clear h1 h4 e3 hM hl2 q00 hp1 hid his
  go_enter Tryd.func3, Tryd.ntmps3
  go_upto_region 8 with (first | (go_at_call 8; with_reducible refine (sane_x _ (HG.out.step HB.out)).mono ?_; rintro e w1 ⟨rfl, hb⟩; have n1_ := Aside0.mk (below_step HB.out hb); have n2_ := Aside0.mk (NB.below H12.out hb); clear HB H12 hb; have HB := n1_; have H12 := n2_; clear n1_ n2_) | (go_at_call 9; with_reducible refine (storagebartermake_Few.calls A0 c0 L _ _ (Kd.C_below HR0.out HB.out) hc0 F2.out).mono ?_; rintro e w2 ⟨rfl, hd⟩; have hb := hd.below; clear hd; have n1_ := Aside0.mk (below_step HB.out hb); have n2_ := Aside0.mk (NB.below H12.out hb); clear HB H12 hb; have HB := n1_; have H12 := n2_; clear n1_ n2_) | (go_at_call 10; with_reducible refine (storagebartermake_New.calls A0 c0 L L 0 w _ HB.out HR0.out hc0 rfl).mono ?_; rintro e w5 ⟨gd, rfl, hI, hB, hb⟩; have HI5 := Aside0.mk hI; have n1_ := Aside0.mk (below_step HB.out hb); have n2_ := Aside0.mk (NB.below H12.out hb); clear HB H12 hb; have HB := n1_; have H12 := n2_; clear n1_ n2_; clear hI hB) | (go_at_call 11; go_loud (with_reducible refine (storagebartermake_People.calls 2 gd L 0 1 l at1 w _ HI5.out HB.out F3.out).mono ?_); go_loud (rintro e w6 ⟨v8, rfl, hR, hI, hB, hk⟩; obtain ⟨ad, c8, rfl⟩ := Kd.R_slice1 hR hl0); go_loud (have HP := Aside0.mk (And.intro (Kd.R_reads' hR).2.2 trivial); have n2_ : Aside0 (NB w6 _ _ _) := ⟨⟨hk.blk H12.out.b (by obtain ⟨_, _, hbg, _, _⟩ := HI5.out; exact blk_ne H12.out.b hbg (by decide)) (by simp)⟩⟩; have hc8 : l.length ≤ c8 := (Kd.R_reads' hR).2.1; clear HI5 HB H12 hR hk; have HD : Aside0 (∃ at_, 0 ≤ at_ ∧ IsS57 w w6 gd L at_) := ⟨⟨at1, hat1, hI⟩⟩; have HB := Aside0.mk hB; have H12 := n2_; clear n2_ hB hI; obtain ⟨ad2, ead2, hx0, hx1⟩ := at_T25 HP.out.1 ((0 : Nat) : Int) (by omega) (by omega); cases ead2; have ea0 : ad.add 0 = ad := (by cases ad; simp [Addr.add]); simp only [Int.toNat_natCast, Nat.zero_mul, ea0, HID.out, HIS.out] at hx0 hx1; clear HP ea0)) | (go_at_call 12; go_loud (have hb6 : Below w6.heap.size w6 (w6.alloc (.cells #[.int .i64 1, .int .i64 p1] 25)) := below_alloc (Below.refl _ _) _; have hd6 : ∃ at_, 0 ≤ at_ ∧ IsS57 w (w6.alloc (.cells #[.int .i64 1, .int .i64 p1] 25)) gd L at_ := (by obtain ⟨at_, h0, h1⟩ := HD.out; exact ⟨at_, h0, h1.below hb6⟩)); go_loud (with_reducible refine (chain_mk w _ gd L p1 (below_step HB.out hb6) hd6 hL).mono ?_); go_loud (rintro e w7 ⟨A, cc, ch, now, rfl, hg, hlen, hnow, hb, -, hk, hR⟩; obtain ⟨_, _, _, _, hbg, _, _⟩ := hd6; have HN := Aside0.mk (N1.mk hb (Kd.C_below HRR.out hb) (Kd.R_reads' hR).2.2 (hk.blk (blk_below H12.out.b hb6) (blk_ne (blk_below H12.out.b hb6) hbg (by decide)) (by simp)) (hk.blk (heap_alloc_new w6 _) (blk_ne (heap_alloc_new w6 _) hbg (by decide)) (by simp))); have hcc : ch.length ≤ cc := (Kd.R_reads' hR).2.1; have HWC := Aside0.mk hg.w64; clear HB H12 HD hb6 hg hb hk hR hbg)))
  obtain ⟨g22, hg22⟩ : ∃ g22, w6.heap.size = g22 := ⟨_, rfl⟩
  rw [hg22] at HN ⊢
  clear hg22
  obtain ⟨g12, hg12⟩ : ∃ g12, w.heap.size = g12 := ⟨_, rfl⟩
  have HN2 : Aside0 (N1 w w7 AR raw A ch g12 g22 q0 q1 p1) := ⟨by rw [← hg12]; exact HN.out⟩
  rw [hg12]
  clear hg12 HN
  have HN := HN2
  clear HN2 HR0 F2 F3 HM HID HIS d1 d2
  go_wp2
  have H59 : Aside0 (NB (w7.alloc (.cells #[.slice AR raw.length cR, .slice A ch.length cc, .slice none 0 0] 23)) w7.heap.size #[.slice AR raw.length cR, .slice A ch.length cc, .slice none 0 0] 23) := ⟨⟨heap_alloc_new w7 _⟩⟩
  have HN2 := Aside0.mk (HN.out.below (below_alloc (Below.refl _ _) (.cells #[.slice AR raw.length cR, .slice A ch.length cc, .slice none 0 0] 23)))
  obtain ⟨W8, hW8⟩ : ∃ W8, W8 = w7.alloc (.cells #[.slice AR raw.length cR, .slice A ch.length cc, .slice none 0 0] 23) := ⟨_, rfl⟩
  rw [← hW8] at H59 HN2 ⊢
  obtain ⟨g59, hg59⟩ : ∃ g59, w7.heap.size = g59 := ⟨_, rfl⟩
  rw [hg59] at H59 ⊢
  clear hW8 hg59 HN
  go_loopw [61] (fun s61 wr => ∃ k : Nat, k ≤ 3 ∧ s61 = .int .i64 k ∧ Aside0 (N1 w wr AR raw A ch g12 g22 q0 q1 p1) ∧ Aside0 (NB wr g59 #[.slice AR raw.length cR, .slice A ch.length cc, .slice none 0 0] 23)) (fun s61 _ => 3 - (intOf s61).toNat)
  case atStart => exact ⟨0, by omega, rfl, HN2, H59⟩
  case round =>
    clear HN2 H59
    obtain ⟨k, hk, rfl, HN, H59⟩ := hrel
    by_cases hk3 : k < 3
    case neg =>
      obtain rfl : k = 3 := by omega
      go_wp2
      go_ret
      exact ⟨rfl, HN.out.hb⟩
    case pos =>
    obtain ⟨Ak, ck, lk, hv, hlc, HLC, HLW⟩ : ∃ (Ak : Option Addr) (ck : Nat) (lk : List S39), wr.cell? ⟨g59, k, none⟩ = some (.slice Ak lk.length ck) ∧ lk.length ≤ ck ∧ Aside0 (Kd.C k39 wr Ak lk.length lk) ∧ Aside0 (∀ s ∈ lk, W64 s) := by
      obtain rfl | rfl | rfl : k = 0 ∨ k = 1 ∨ k = 2 := by omega
      · exact ⟨AR, cR, raw, (blk_cell H59.out.b 0).trans rfl, hcR, ⟨HN.out.cr⟩, HWR⟩
      · exact ⟨A, cc, ch, (blk_cell H59.out.b 1).trans rfl, hcc, ⟨HN.out.cc⟩, HWC⟩
      · exact ⟨none, 0, [], (blk_cell H59.out.b 2).trans rfl, Nat.le_refl _, ⟨Kd.C_nil _ _⟩, ⟨by simp⟩⟩
    have hk4 : (k : Int) < 3 := by omega
    have hgl := blk_lt H59.out.b
    go_upto_region 11 with fail
    go_cut [108, 109, 110] (fun s108 s109 s110 wx => ∃ g108 : Nat, s108 = .slice (some ⟨g108, 0, none⟩) 4 4 ∧ s109 = .int .i64 4 ∧ s110 = .int .i64 0 ∧ Aside0 (N1 w wx AR raw A ch g12 g22 q0 q1 p1) ∧ Aside0 (NB wx g59 #[.slice AR raw.length cR, .slice A ch.length cc, .slice none 0 0] 23) ∧ Aside0 (Kd.C k39 wx Ak lk.length lk) ∧ Aside0 (Rows28 wx g108))
    case first =>
      go_wp2_with (first | (go_at_call 13; with_reducible refine (mod_x _ _ (by decide) _).mono ?_; rintro e wm ⟨tm, rfl, htm, htm', hb⟩; have n1_ := Aside0.mk (N1.below HN.out hb); have n2_ := Aside0.mk (NB.below H59.out hb); have n3_ := Aside0.mk (Kd.C_below HLC.out hb); clear HN H59 HLC hb; have HN := n1_; have H59 := n2_; have HLC := n3_; clear n1_ n2_ n3_))
      go_meet
      refine ⟨_, rfl, rfl, rfl, ⟨N1.below HN.out (below_alloc (Below.refl _ _) _)⟩, ⟨NB.below H59.out (below_alloc (Below.refl _ _) _)⟩, ⟨Kd.C_below HLC.out (below_alloc (Below.refl _ _) _)⟩, ⟨⟨_, [_, _, _, _, _, _, _, _, _, _, _, _, _, _, _, _, _, _, _, _, _, _, _, _, _, _, _, _], heap_alloc_new _ _, rfl, rfl, fun x hx => ?_⟩⟩⟩
      obtain ⟨i0, i2, i3, i4, i5, i6, i7, i8⟩ := HI.out
      simp only [List.mem_cons, List.not_mem_nil, or_false] at hx
      rcases hx with rfl | rfl | rfl | rfl | rfl | rfl | rfl | rfl | rfl | rfl | rfl | rfl | rfl | rfl | rfl | rfl | rfl | rfl | rfl | rfl | rfl | rfl | rfl | rfl | rfl | rfl | rfl | rfl
      all_goals (first | assumption | (unfold I64; omega))
    case rest =>
    clear HN H59 HLC hv hgl
    obtain ⟨g108, rfl, rfl, rfl, HN, H59, HLC, H28⟩ := hcut
    go_wp2
    go_loopw [110] (fun s110 wr => ∃ j : Nat, j ≤ 4 ∧ s110 = .int .i64 j ∧ Aside0 (N1 w wr AR raw A ch g12 g22 q0 q1 p1) ∧ Aside0 (NB wr g59 #[.slice AR raw.length cR, .slice A ch.length cc, .slice none 0 0] 23) ∧ Aside0 (Kd.C k39 wr Ak lk.length lk) ∧ Aside0 (Rows28 wr g108)) (fun s110 _ => 4 - (intOf s110).toNat)
    case atStart => exact ⟨0, by omega, rfl, HN, H59, HLC, H28⟩
    case round =>
      clear HN H59 HLC H28
      obtain ⟨j, hj, rfl, HN, H59, HLC, H28⟩ := hrel
      by_cases hj4 : j < 4
      case neg =>
        obtain rfl : j = 4 := by omega
        go_wp2
        go_roundw
        case rel => exact ⟨k + 1, by omega, by go_num, HN, H59⟩
        case measure => simp only [intOf]; omega
      case pos =>
      have hj5 : (j : Int) < 4 := by omega
      obtain ⟨cs28, xs, hb28, hl28, he28, hx28⟩ := H28.out
      obtain ⟨y0, hy0, hi0⟩ := rows_at hb28 hl28 he28 hx28 (j * 7) (by omega)
      obtain ⟨y1, hy1, hi1⟩ := rows_at hb28 hl28 he28 hx28 (j * 7 + 1) (by omega)
      obtain ⟨y2, hy2, hi2⟩ := rows_at hb28 hl28 he28 hx28 (j * 7 + 2) (by omega)
      obtain ⟨y3, hy3, hi3⟩ := rows_at hb28 hl28 he28 hx28 (j * 7 + 3) (by omega)
      obtain ⟨y4, hy4, hi4⟩ := rows_at hb28 hl28 he28 hx28 (j * 7 + 4) (by omega)
      obtain ⟨y5, hy5, hi5⟩ := rows_at hb28 hl28 he28 hx28 (j * 7 + 5) (by omega)
      obtain ⟨y6, hy6, hi6⟩ := rows_at hb28 hl28 he28 hx28 (j * 7 + 6) (by omega)
      have hg28 := blk_lt hb28
      have hp0_ : wr.cell? ⟨g12, 0, none⟩ = some (.int .i64 q0) := (blk_cell HN.out.b12 0).trans rfl
      have hp1_ : wr.cell? ⟨g12, 1, none⟩ = some (.int .i64 q1) := (blk_cell HN.out.b12 1).trans rfl
      have hp2_ : wr.cell? ⟨g22, 0, none⟩ = some (.int .i64 1) := (blk_cell HN.out.b22 0).trans rfl
      have hp3_ : wr.cell? ⟨g22, 1, none⟩ = some (.int .i64 p1) := (blk_cell HN.out.b22 1).trans rfl
      have hgl1 := blk_lt HN.out.b12
      have hgl2 := blk_lt HN.out.b22
      have HY := Aside0.mk (And.intro hi0 (And.intro hi1 (And.intro hi2 (And.intro hi3 (And.intro hi4 (And.intro hi5 hi6))))))
      clear hb28 hl28 he28 hx28 hi0 hi1 hi2 hi3 hi4 hi5 hi6
      go_upto_block 4 with fail
      have hbA : Below wr.heap.size wr ((wr.alloc (.cells #[.int .i64 y0, .int .i64 y1, .int .i64 y2, .int .i64 y3, .int .i64 y4, .int .i64 y5, .int .i64 y6] 35)).alloc (.cells #[.int .i64 q0, .int .i64 q1, .int .i64 1, .int .i64 p1] 25)) := below_alloc (below_alloc (Below.refl _ _) _) _
      have HB28 : Aside0 (NB ((wr.alloc (.cells #[.int .i64 y0, .int .i64 y1, .int .i64 y2, .int .i64 y3, .int .i64 y4, .int .i64 y5, .int .i64 y6] 35)).alloc (.cells #[.int .i64 q0, .int .i64 q1, .int .i64 1, .int .i64 p1] 25)) wr.heap.size #[.int .i64 y0, .int .i64 y1, .int .i64 y2, .int .i64 y3, .int .i64 y4, .int .i64 y5, .int .i64 y6] 35) := ⟨⟨blk_alloc (heap_alloc_new wr _) _⟩⟩
      have H116 : Aside0 (NB ((wr.alloc (.cells #[.int .i64 y0, .int .i64 y1, .int .i64 y2, .int .i64 y3, .int .i64 y4, .int .i64 y5, .int .i64 y6] 35)).alloc (.cells #[.int .i64 q0, .int .i64 q1, .int .i64 1, .int .i64 p1] 25)) (wr.heap.size + 1) #[.int .i64 q0, .int .i64 q1, .int .i64 1, .int .i64 p1] 25) := ⟨⟨two_new wr _ _ _ _⟩⟩
      have n1 := Aside0.mk (N1.below HN.out hbA)
      have n2 := Aside0.mk (NB.below H59.out hbA)
      have n3 := Aside0.mk (Kd.C_below HLC.out hbA)
      have n4 := Aside0.mk (Rows28.below H28.out hbA)
      obtain ⟨W9, hW9⟩ : ∃ W9, W9 = (wr.alloc (.cells #[.int .i64 y0, .int .i64 y1, .int .i64 y2, .int .i64 y3, .int .i64 y4, .int .i64 y5, .int .i64 y6] 35)).alloc (.cells #[.int .i64 q0, .int .i64 q1, .int .i64 1, .int .i64 p1] 25) := ⟨_, rfl⟩
      rw [← hW9] at HB28 H116 n1 n2 n3 n4 ⊢
      clear hW9 hbA HN H59 HLC H28 hy0 hy1 hy2 hy3 hy4 hy5 hy6 hg28 hp0_ hp1_ hp2_ hp3_ hgl1 hgl2
      obtain ⟨g116, hg116⟩ : ∃ g116, wr.heap.size + 1 = g116 := ⟨_, rfl⟩
      rw [hg116] at H116 ⊢
      clear hg116
      obtain ⟨g28, hg28⟩ : ∃ g28, wr.heap.size = g28 := ⟨_, rfl⟩
      rw [hg28] at HB28 ⊢
      clear hg28
      go_wp2
      go_loopw [118] (fun s118 wr => ∃ i : Nat, i ≤ 2 ∧ s118 = .int .i64 i ∧ Aside0 (N1 w wr AR raw A ch g12 g22 q0 q1 p1) ∧ Aside0 (NB wr g59 #[.slice AR raw.length cR, .slice A ch.length cc, .slice none 0 0] 23) ∧ Aside0 (Kd.C k39 wr Ak lk.length lk) ∧ Aside0 (Rows28 wr g108) ∧ Aside0 (NB wr g28 #[.int .i64 y0, .int .i64 y1, .int .i64 y2, .int .i64 y3, .int .i64 y4, .int .i64 y5, .int .i64 y6] 35) ∧ Aside0 (NB wr g116 #[.int .i64 q0, .int .i64 q1, .int .i64 1, .int .i64 p1] 25)) (fun s118 _ => 2 - (intOf s118).toNat)
      case atStart => exact ⟨0, by omega, rfl, n1, n2, n3, n4, HB28, H116⟩
      case round =>
        clear n1 n2 n3 n4 HB28 H116
        obtain ⟨i, hi, rfl, HN, H59, HLC, H28, HB28, H116⟩ := hrel
        by_cases hi2 : i < 2
        case neg =>
          obtain rfl : i = 2 := by omega
          go_wp2
          go_roundw
          case rel => exact ⟨j + 1, by omega, by go_num, HN, H59, HLC, H28⟩
          case measure => simp only [intOf]; omega
        case pos =>
        have hi3 : (i : Int) < 2 := by omega
        obtain ⟨a0, a1, ha0, ha1, HA0⟩ : ∃ a0 a1 : Int, wr.cell? ⟨g116, i * 2, none⟩ = some (.int .i64 a0) ∧ wr.cell? ⟨g116, i * 2 + 1, none⟩ = some (.int .i64 a1) ∧ Aside0 (I64 a0) := by
          obtain rfl | rfl : i = 0 ∨ i = 1 := by omega
          · exact ⟨q0, q1, (blk_cell H116.out.b 0).trans rfl, (blk_cell H116.out.b 1).trans rfl, ⟨HI.out.1⟩⟩
          · exact ⟨1, p1, (blk_cell H116.out.b 2).trans rfl, (blk_cell H116.out.b 3).trans rfl, ⟨by unfold I64; omega⟩⟩
        obtain ⟨s, r, hn⟩ : ∃ s r, nxt lk a0 a1 y0 y1 y2 y3 y4 y5 y6 = (s, r) := ⟨_, _, rfl⟩
        obtain ⟨s0, s1, s2, s3, s4, s5, s6, s7, s8, s9, s10⟩ := s
        have HNX := Lib.hid hn
        clear hn
        have hw0_ : wr.cell? ⟨g28, 0, none⟩ = some (.int .i64 y0) := (blk_cell HB28.out.b 0).trans rfl
        have hw1_ : wr.cell? ⟨g28, 1, none⟩ = some (.int .i64 y1) := (blk_cell HB28.out.b 1).trans rfl
        have hw2_ : wr.cell? ⟨g28, 2, none⟩ = some (.int .i64 y2) := (blk_cell HB28.out.b 2).trans rfl
        have hw3_ : wr.cell? ⟨g28, 3, none⟩ = some (.int .i64 y3) := (blk_cell HB28.out.b 3).trans rfl
        have hw4_ : wr.cell? ⟨g28, 4, none⟩ = some (.int .i64 y4) := (blk_cell HB28.out.b 4).trans rfl
        have hw5_ : wr.cell? ⟨g28, 5, none⟩ = some (.int .i64 y5) := (blk_cell HB28.out.b 5).trans rfl
        have hw6_ : wr.cell? ⟨g28, 6, none⟩ = some (.int .i64 y6) := (blk_cell HB28.out.b 6).trans rfl
        have hgl28 := blk_lt HB28.out.b
        have hgl116 := blk_lt H116.out.b
        obtain ⟨j0, j1, j2, j3, j4, j5, j6⟩ := HY.out
        go_wp2_with (first | (go_at_call 14; go_loud (with_reducible refine (next_x Ak ck lk a0 a1 y0 y1 y2 y3 y4 y5 y6 _ (Kd.C_below HLC.out (below_alloc (Below.refl _ _) _)) hlc (HG.out.step (below_step HN.out.hb (below_alloc (Below.refl _ _) _))) HLW.out HA0.out j0 j1 j2 j3 j4 j5 j6 _ r HNX.out).mono ?_); go_loud (rintro e wn ⟨rfl, hb⟩; have hbA : Below wr.heap.size wr wn := below_step (below_alloc (Below.refl _ _) _) hb; have H30 : Aside0 (NB wn wr.heap.size #[.int .i64 a0, .int .i64 a1] 25) := ⟨⟨blk_below (heap_alloc_new wr _) hb⟩⟩; clear hb; have n0_ := Aside0.mk (N1.below HN.out hbA); have n1_ := Aside0.mk (NB.below H59.out hbA); have n2_ := Aside0.mk (Kd.C_below HLC.out hbA); have n3_ := Aside0.mk (Rows28.below H28.out hbA); have n4_ := Aside0.mk (NB.below HB28.out hbA); have n5_ := Aside0.mk (NB.below H116.out hbA); clear HN H59 HLC H28 HB28 H116 hbA; have HN := n0_; have H59 := n1_; have HLC := n2_; have H28 := n3_; have HB28 := n4_; have H116 := n5_; clear n0_ n1_ n2_ n3_ n4_ n5_; have hw0_ : wn.cell? ⟨g28, 0, none⟩ = some (.int .i64 y0) := (blk_cell HB28.out.b 0).trans rfl; have hw1_ : wn.cell? ⟨g28, 1, none⟩ = some (.int .i64 y1) := (blk_cell HB28.out.b 1).trans rfl; have hw2_ : wn.cell? ⟨g28, 2, none⟩ = some (.int .i64 y2) := (blk_cell HB28.out.b 2).trans rfl; have hw3_ : wn.cell? ⟨g28, 3, none⟩ = some (.int .i64 y3) := (blk_cell HB28.out.b 3).trans rfl; have hw4_ : wn.cell? ⟨g28, 4, none⟩ = some (.int .i64 y4) := (blk_cell HB28.out.b 4).trans rfl; have hw5_ : wn.cell? ⟨g28, 5, none⟩ = some (.int .i64 y5) := (blk_cell HB28.out.b 5).trans rfl; have hw6_ : wn.cell? ⟨g28, 6, none⟩ = some (.int .i64 y6) := (blk_cell HB28.out.b 6).trans rfl; have hv0_ : wn.cell? ⟨wr.heap.size, 0, none⟩ = some (.int .i64 a0) := (blk_cell H30.out.b 0).trans rfl; have hv1_ : wn.cell? ⟨wr.heap.size, 1, none⟩ = some (.int .i64 a1) := (blk_cell H30.out.b 1).trans rfl; have hgl28_ := blk_lt HB28.out.b; have hgl30_ := blk_lt H30.out.b; (try dsimp only))) | (go_at_call 15; go_loud (with_reducible refine (rnext_x Ak ck lk a0 a1 y0 y1 y2 y3 y4 y5 y6 _ (Kd.C_below HLC.out (below_alloc (Below.refl _ _) _)) hlc HLW.out HA0.out j0 j1 j2 j3 j4 j5 j6 _ r HNX.out).mono ?_); go_loud (rintro e wm ⟨rfl, hb⟩; have hbA : Below wn.heap.size wn wm := below_step (below_alloc (Below.refl _ _) _) hb; have H31 : Aside0 (NB wm wn.heap.size #[.int .i64 s0, .int .i64 s1, .int .i64 s2, .int .i64 s3, .int .i64 s4, .int .i64 s5, .int .i64 s6, .int .i64 s7, .int .i64 s8, .int .i64 s9, .int .i64 s10] 39) := ⟨⟨blk_below (heap_alloc_new wn _) hb⟩⟩; clear hb H30; have n0_ := Aside0.mk (N1.below HN.out hbA); have n1_ := Aside0.mk (NB.below H59.out hbA); have n2_ := Aside0.mk (Kd.C_below HLC.out hbA); have n3_ := Aside0.mk (Rows28.below H28.out hbA); have n4_ := Aside0.mk (NB.below HB28.out hbA); have n5_ := Aside0.mk (NB.below H116.out hbA); clear HN H59 HLC H28 HB28 H116 hbA; have HN := n0_; have H59 := n1_; have HLC := n2_; have H28 := n3_; have HB28 := n4_; have H116 := n5_; clear n0_ n1_ n2_ n3_ n4_ n5_; have hs0_ : wm.cell? ⟨wn.heap.size, 0, none⟩ = some (.int .i64 s0) := (blk_cell H31.out.b 0).trans rfl; have hs1_ : wm.cell? ⟨wn.heap.size, 1, none⟩ = some (.int .i64 s1) := (blk_cell H31.out.b 1).trans rfl; have hs2_ : wm.cell? ⟨wn.heap.size, 2, none⟩ = some (.int .i64 s2) := (blk_cell H31.out.b 2).trans rfl; have hs3_ : wm.cell? ⟨wn.heap.size, 3, none⟩ = some (.int .i64 s3) := (blk_cell H31.out.b 3).trans rfl; have hs4_ : wm.cell? ⟨wn.heap.size, 4, none⟩ = some (.int .i64 s4) := (blk_cell H31.out.b 4).trans rfl; have hs5_ : wm.cell? ⟨wn.heap.size, 5, none⟩ = some (.int .i64 s5) := (blk_cell H31.out.b 5).trans rfl; have hs6_ : wm.cell? ⟨wn.heap.size, 6, none⟩ = some (.int .i64 s6) := (blk_cell H31.out.b 6).trans rfl; have hs7_ : wm.cell? ⟨wn.heap.size, 7, none⟩ = some (.int .i64 s7) := (blk_cell H31.out.b 7).trans rfl; have hs8_ : wm.cell? ⟨wn.heap.size, 8, none⟩ = some (.int .i64 s8) := (blk_cell H31.out.b 8).trans rfl; have hs9_ : wm.cell? ⟨wn.heap.size, 9, none⟩ = some (.int .i64 s9) := (blk_cell H31.out.b 9).trans rfl; have hs10_ : wm.cell? ⟨wn.heap.size, 10, none⟩ = some (.int .i64 s10) := (blk_cell H31.out.b 10).trans rfl; have hgl31_ := blk_lt H31.out.b; (try dsimp only))))
        have hbA : Below wm.heap.size wm (wm.alloc (.cells #[.int .i64 s0, .int .i64 s1, .int .i64 s2, .int .i64 s3, .int .i64 s4, .int .i64 s5, .int .i64 s6, .int .i64 s7, .int .i64 s8, .int .i64 s9, .int .i64 s10] 39)) := below_alloc (Below.refl _ _) _
        have m0 := Aside0.mk (N1.below HN.out hbA)
        have m1 := Aside0.mk (NB.below H59.out hbA)
        have m2 := Aside0.mk (Kd.C_below HLC.out hbA)
        have m3 := Aside0.mk (Rows28.below H28.out hbA)
        have m4 := Aside0.mk (NB.below HB28.out hbA)
        have m5 := Aside0.mk (NB.below H116.out hbA)
        clear hbA
        go_roundw
        case rel => exact ⟨i + 1, by omega, by go_num, m0, m1, m2, m3, m4, m5⟩
        case measure => simp only [intOf]; omega
end Go.Proofs.YtcalkhlchjjalaaDoor.Gnl

namespace Go.Proofs.YtcalkhlchjjalaaDoor.Grt
open Go Go.ChangeShapes Go.WideShapes Go.ChangeAt Go.RowKit Go.Proofs.YtcalkhlchjjalaaDoor.Gsy
set_option linter.unusedVariables false
theorem at_j {cs : List Value} {j m : Nat} {v : Value} (h : (cs.drop j).take m = [v]) : cs[j]? = some v := by
  have h0 : ((cs.drop j).take m)[0]? = some v := by rw [h]; rfl
  rw [List.getElem?_take] at h0
  split at h0
  · rw [List.getElem?_drop] at h0
    simpa using h0
  · cases h0
theorem i64_wf {n : Int} (h : (Lit.int .i64 n).wf = true) : I64 n := by
  have : -9223372036854775808 ≤ n ∧ n ≤ 9223372036854775807 := by simpa [Lit.wf, IntKind.min, IntKind.max, IntKind.signed, IntKind.bits] using h
  exact this
theorem rd_sts {H : Type} {enc : TypeId × Value → H} {W : World} {fuel : Nat} {cs : List Value} {x : DataW H × List MemPlace} (hf : DataW.trod enc Tryd.prog W 0 (fun _ => true) true fuel 23 cs = some x) :
    ∃ A len cap, ∃ xs : List Q.S39, cs = [.slice A len cap] ∧ xs.length = len ∧ Go.Proofs.YtcalkhlchjjalaaDoorW.PrintWords.Kd.C Q.k39 W A xs.length xs ∧ xs.length ≤ cap ∧ ∀ p ∈ xs, W64 p := by
  rcases Go.Deep.open_slice Tryd.underlying23 hf with ⟨hcs, -⟩ | ⟨a, len, cap, m, n, D, Pl, hcs, hb, hl, hm, hmm, -, hi⟩
  · exact ⟨none, 0, 0, [], hcs, rfl, Go.Proofs.YtcalkhlchjjalaaDoorW.PrintWords.Kd.C_nil _ _, Nat.le_refl _, fun p hp => by cases hp⟩
  · have hlm : len ≤ m := by rw [hmm]; simp; exact hl
    have hof : Tryd.prog.cellsOf 39 = 11 := by kernel_rfl
    rw [hof] at hi
    have each : ∀ i, i < len → ∃ q : Q.S39, (∀ j u, ([.int .i64 q.f0, .int .i64 q.f1, .int .i64 q.f2, .int .i64 q.f3, .int .i64 q.f4, .int .i64 q.f5, .int .i64 q.f6, .int .i64 q.f7, .int .i64 q.f8, .int .i64 q.f9, .int .i64 q.f10] : List Value)[j]? = some u → W.cell? (a.add (i * 11 + j)) = some u) ∧ W64 q := by
      intro i hil
      obtain ⟨cs', hc, ht⟩ := hi i (by omega)
      obtain ⟨xs, n', -, -, hl', hlen, hf'⟩ := DataW.trod_struct Tryd.underlying39 ht
      match xs, hlen with
      | [y0, y1, y2, y3, y4, y5, y6, y7, y8, y9, y10], _ =>
      obtain ⟨b0, hb0, -, wf0⟩ := DataW.trod_int Tryd.underlying3 (hf' 0 _ rfl)
      obtain ⟨b1, hb1, -, wf1⟩ := DataW.trod_int Tryd.underlying3 (hf' 1 _ rfl)
      obtain ⟨b2, hb2, -, wf2⟩ := DataW.trod_int Tryd.underlying3 (hf' 2 _ rfl)
      obtain ⟨b3, hb3, -, wf3⟩ := DataW.trod_int Tryd.underlying3 (hf' 3 _ rfl)
      obtain ⟨b4, hb4, -, wf4⟩ := DataW.trod_int Tryd.underlying3 (hf' 4 _ rfl)
      obtain ⟨b5, hb5, -, wf5⟩ := DataW.trod_int Tryd.underlying3 (hf' 5 _ rfl)
      obtain ⟨b6, hb6, -, wf6⟩ := DataW.trod_int Tryd.underlying3 (hf' 6 _ rfl)
      obtain ⟨b7, hb7, -, wf7⟩ := DataW.trod_int Tryd.underlying3 (hf' 7 _ rfl)
      obtain ⟨b8, hb8, -, wf8⟩ := DataW.trod_int Tryd.underlying3 (hf' 8 _ rfl)
      obtain ⟨b9, hb9, -, wf9⟩ := DataW.trod_int Tryd.underlying3 (hf' 9 _ rfl)
      obtain ⟨b10, hb10, -, wf10⟩ := DataW.trod_int Tryd.underlying3 (hf' 10 _ rfl)
      obtain ⟨-, hlc, hcell⟩ := World.cells?_some hc
      refine ⟨⟨b0, b1, b2, b3, b4, b5, b6, b7, b8, b9, b10⟩, fun j u hu => ?_, ⟨i64_wf wf0, i64_wf wf1, i64_wf wf2, i64_wf wf3, i64_wf wf4, i64_wf wf5, i64_wf wf6, i64_wf wf7, i64_wf wf8, i64_wf wf9, i64_wf wf10⟩⟩
      have hj : j < 11 := by have := (List.getElem?_eq_some_iff.1 hu).1; simpa using this
      have hadd : (a.add (i * 11)).add j = a.add (i * 11 + j) := by by_cases h1 : i * 11 = 0 <;> by_cases h2 : j = 0 <;> simp [Addr.add, h1, h2, Nat.add_assoc]
      rw [← hadd, hcell j hj]
      match j, hu with
      | 0, hu => simp at hu; subst hu; exact at_j hb0
      | 1, hu => simp at hu; subst hu; exact at_j hb1
      | 2, hu => simp at hu; subst hu; exact at_j hb2
      | 3, hu => simp at hu; subst hu; exact at_j hb3
      | 4, hu => simp at hu; subst hu; exact at_j hb4
      | 5, hu => simp at hu; subst hu; exact at_j hb5
      | 6, hu => simp at hu; subst hu; exact at_j hb6
      | 7, hu => simp at hu; subst hu; exact at_j hb7
      | 8, hu => simp at hu; subst hu; exact at_j hb8
      | 9, hu => simp at hu; subst hu; exact at_j hb9
      | 10, hu => simp at hu; subst hu; exact at_j hb10
    haveI : Inhabited Q.S39 := ⟨Q.z39⟩
    obtain ⟨q, hq⟩ := Go.Deep.choose_lt each
    refine ⟨some a, len, cap, (List.range len).map q, hcs, by simp, ⟨rfl, by simp; unfold maxLen at hm; omega, fun _ => ⟨a, rfl, fun j p hj => ?_⟩⟩, by simpa using hl, fun p hp => ?_⟩
    · have hjl : j < len := by
        have := (List.getElem?_eq_some_iff.1 hj).1
        simpa using this
      simp [hjl] at hj
      subst hj
      exact ⟨_, rfl, Q.k39_mk _ (q j), (hq j hjl).1⟩
    · obtain ⟨i, hi2, rfl⟩ := List.mem_map.1 hp
      exact (hq i (List.mem_range.1 hi2)).2
end Go.Proofs.YtcalkhlchjjalaaDoor.Grt

namespace Go.Proofs.YtcalkhlchjjalaaDoor.statementNext
open Go.ChangeShapes Go.WideShapes Go.ChangeAt Go.RowKit
set_option linter.unusedVariables false
theorem own : ownKnob Tryd.prog.godebug = none := by kernel_rfl
theorem laidOut : laidOutB Tryd.prog = true := by kernel_rfl
def IsRow (k : IntKind) (w : World) (a : Option Addr) (len cap : Nat) (zs : List Int) : Prop :=
  (a = none ∧ len = 0 ∧ cap = 0 ∧ zs = []) ∨
  ∃ x, a = some x ∧ len ≤ cap ∧ cap ≤ maxLen ∧ zs.length = cap ∧ (∀ i, i < zs.length → w.cell? (x.add i) = some (.int k (zs.getD i 0))) ∧ ∀ n ∈ zs, (Lit.int k n).wf = true
set_option maxRecDepth 100000 in
theorem lifted (os : Os) (started : os.Started) (H : Type) (enc : TypeId × Value → H) :
    ReturnsInHanded {} Tryd.checked os 3 .any (fun w args => (Rows.statementNextSpec.pre enc Tryd.prog Tryd.f3 Rows.statementNextRow.domain false w args ∧ laidMetH Tryd.prog Gla.Lst w) ∧ sizedMet enc Tryd.prog Tryd.f3 (OpenSpec.ofChange Rows.statementNextSpec) false w args) (Rows.statementNextSpec.post enc Tryd.prog Tryd.f3 false true false false) := by
  refine returnsInHanded_of_change_and (C := Tryd.checked) (X := fun w _ => laidMetH Tryd.prog Gla.Lst w) (fun _ _ _ hh h => h.of_heap hh) own started (by kernel_rfl) Tryd.func3
    (ChangeSpec.witness_shaped (enc := enc) (C := Tryd.checked) (os := os) (X := fun w _ => laidMetH Tryd.prog Gla.Lst w) false (World.laidAll Tryd.prog os Gla.Lst) #[.slice none 0 0, .slice none 0 0, .agg #[.int .i64 0, .int .i64 0], .int .i64 0, .int .i64 0, .int .i64 0, .int .i64 0, .int .i64 0, .int .i64 0, .int .i64 0] 8 (World.laidAll_os _ _ _)
      (World.shaped_of_ZipB (by kernel_rfl) (by kernel_rfl)) (by kernel_rfl) (by kernel_rfl) (by kernel_rfl)
      (by rw [MakeChecks.laidMetH_plain _ _ _ (by kernel_rfl)]; exact laidMet_laidAll _ (by kernel_rfl) (by kernel_rfl))) ?_
  intro W base args ds gs before hval0 hW hcnd hsz0 hL _
  have hval : ∀ (j : Nat) t v, Tryd.f3.params[j]? = some t → args[j]? = some v → Value.okWide Tryd.prog W .any base t v := hval0
  have hW' := hW
  obtain ⟨p, q, hA0, hV, rfl, hfz, hnd⟩ := hW
  have hA : DataW.TrodAll enc Tryd.prog W 0 (fun _ => true) true Tryd.f3.params.toList args.toList ds p := hA0
  rw [Tryd.params3] at hA hval
  obtain ⟨v0, vs0, d0, ds0, p0, q0, hargs, rfl, rfl, h0, r0⟩ := trodAll_cons hA
  obtain ⟨v1, vs1, d1, ds1, p1, q1, rfl, rfl, rfl, h1, r1⟩ := trodAll_cons r0
  obtain ⟨v2, vs2, d2, ds2, p2, q2, rfl, rfl, rfl, h2, r2⟩ := trodAll_cons r1
  obtain ⟨v3, vs3, d3, ds3, p3, q3, rfl, rfl, rfl, h3, r3⟩ := trodAll_cons r2
  obtain ⟨v4, vs4, d4, ds4, p4, q4, rfl, rfl, rfl, h4, r4⟩ := trodAll_cons r3
  obtain ⟨v5, vs5, d5, ds5, p5, q5, rfl, rfl, rfl, h5, r5⟩ := trodAll_cons r4
  obtain ⟨v6, vs6, d6, ds6, p6, q6, rfl, rfl, rfl, h6, r6⟩ := trodAll_cons r5
  obtain ⟨v7, vs7, d7, ds7, p7, q7, rfl, rfl, rfl, h7, r7⟩ := trodAll_cons r6
  obtain ⟨v8, vs8, d8, ds8, p8, q8, rfl, rfl, rfl, h8, r8⟩ := trodAll_cons r7
  obtain ⟨v9, vs9, d9, ds9, p9, q9, rfl, rfl, rfl, h9, r9⟩ := trodAll_cons r8
  obtain ⟨rfl, rfl, rfl⟩ := trodAll_nil r9
  obtain rfl : args = #[v0, v1, v2, v3, v4, v5, v6, v7, v8, v9] := by cases args; simp_all
  obtain ⟨rfl, rfl⟩ := trodVars_none hV
  obtain ⟨a0, len0, cap0, rfl⟩ := okWide_slice Tryd.underlying22 (hval 0 22 v0 rfl rfl)
  have k0 := h0
  have lt0 : ∀ x ∈ p0, x.block < W.heap.size := by obtain ⟨m, hm⟩ := k0; exact DataW.trod_lt m _ _ _ hm
  obtain ⟨z0, w0⟩ : ∃ zs, IsRow .i64 W a0 len0 cap0 zs := by
    obtain ⟨fuel, hf⟩ := h0
    rcases open_ints Tryd.underlying22 Tryd.underlying3 (by kernel_rfl) hf with ⟨hcs, _⟩ | ⟨x, l, c, zs, hcs, _, hl, hm, hz, _, hcell, hwz⟩
    · simp [Value.cells] at hcs
      obtain ⟨rfl, rfl, rfl⟩ := hcs
      exact ⟨[], .inl ⟨rfl, rfl, rfl, rfl⟩⟩
    · simp [Value.cells] at hcs
      obtain ⟨rfl, rfl, rfl⟩ := hcs
      exact ⟨zs, .inr ⟨_, rfl, hl, hm, by simpa using hz, hcell, hwz⟩⟩
  obtain ⟨a1, len1, cap1, rfl⟩ := okWide_slice Tryd.underlying23 (hval 1 23 v1 rfl rfl)
  have k1 := h1
  have lt1 : ∀ x ∈ p1, x.block < W.heap.size := by obtain ⟨m, hm⟩ := k1; exact DataW.trod_lt m _ _ _ hm
  obtain ⟨z1, hz1, w1, hc1, hw1⟩ : ∃ xs : List Q.S39, xs.length = len1 ∧ Go.Proofs.YtcalkhlchjjalaaDoorW.PrintWords.Kd.C Q.k39 W a1 xs.length xs ∧ xs.length ≤ cap1 ∧ ∀ p ∈ xs, Gsy.W64 p := by
    obtain ⟨fuel, hf⟩ := h1
    obtain ⟨A, len, cap, xs, hcs, g1, g2, g3, g4⟩ := Grt.rd_sts hf
    simp [Value.cells] at hcs
    obtain ⟨rfl, rfl, rfl⟩ := hcs
    exact ⟨xs, g1, g2, g3, g4⟩
  have k2 := h2
  have lt2 : ∀ x ∈ p2, x.block < W.heap.size := by obtain ⟨m, hm⟩ := k2; exact DataW.trod_lt m _ _ _ hm
  obtain ⟨c0, c1, x0, x1, n1, rfl, rfl, rfl, t0, t1⟩ := Go.Joins.open_agg2 Tryd.underlying25 (by kernel_rfl) (by kernel_rfl) (hval 2 25 v2 rfl rfl) h2
  obtain ⟨b0, hb0, -, wf0⟩ := DataW.trod_int Tryd.underlying3 t0
  obtain ⟨b1, hb1, -, wf1⟩ := DataW.trod_int Tryd.underlying3 t1
  obtain rfl : c0 = .int .i64 b0 := by simpa using hb0
  obtain rfl : c1 = .int .i64 b1 := by simpa using hb1
  obtain ⟨a3, rfl, rfl, rfl, w3⟩ := open_int Tryd.underlying3 (hval 3 3 v3 rfl rfl) h3
  obtain ⟨a4, rfl, rfl, rfl, w4⟩ := open_int Tryd.underlying3 (hval 4 3 v4 rfl rfl) h4
  obtain ⟨a5, rfl, rfl, rfl, w5⟩ := open_int Tryd.underlying3 (hval 5 3 v5 rfl rfl) h5
  obtain ⟨a6, rfl, rfl, rfl, w6⟩ := open_int Tryd.underlying3 (hval 6 3 v6 rfl rfl) h6
  obtain ⟨a7, rfl, rfl, rfl, w7⟩ := open_int Tryd.underlying3 (hval 7 3 v7 rfl rfl) h7
  obtain ⟨a8, rfl, rfl, rfl, w8⟩ := open_int Tryd.underlying3 (hval 8 3 v8 rfl rfl) h8
  obtain ⟨a9, rfl, rfl, rfl, w9⟩ := open_int Tryd.underlying3 (hval 9 3 v9 rfl rfl) h9
  clear hA0 hval0 hsz0
  obtain ⟨l0, rfl, hr0, hm0, hw0, hc0⟩ := Go.Proofs.YtcalkhlchjjalaaDoorW.PrintWords.ReadsInt.ofRowC w0
  subst hz1
  refine (Gnl.next_law a0 cap0 l0 a1 cap1 z1 b0 b1 a3 a4 a5 a6 a7 a8 a9 W (Go.Proofs.YtcalkhlchjjalaaDoorW.PrintWords.Kd.C_of_reads (d := (0 : Int)) (h1 := fun _ => rfl) hr0) hc0 w1 hc1 hw1 (Grt.i64_wf wf0) (Grt.i64_wf w3) (Grt.i64_wf w4) (Grt.i64_wf w5) (Grt.i64_wf w6) (Grt.i64_wf w7) (Grt.i64_wf w8) (Grt.i64_wf w9) (Gla.GL_of_laid hL)).mono fun e W' ⟨he, bel⟩ => ?_
  subst he
  exact ⟨_, rfl, _, _, _, [], _, [], hW', trodAll_mk1 (shut_bool Tryd.underlying4 _), (trodAll_cons_mk (Below.trod laidOut (by kernel_rfl) (of_decide_eq_true (by kernel_rfl)) k0 bel lt0) (trodAll_cons_mk (Below.trod laidOut (by kernel_rfl) (of_decide_eq_true (by kernel_rfl)) k1 bel lt1) (trodAll_cons_mk (Below.trod laidOut (by kernel_rfl) (of_decide_eq_true (by kernel_rfl)) k2 bel lt2) (trodAll_cons_mk (shut_int Tryd.underlying3 w3) (trodAll_cons_mk (shut_int Tryd.underlying3 w4) (trodAll_cons_mk (shut_int Tryd.underlying3 w5) (trodAll_cons_mk (shut_int Tryd.underlying3 w6) (trodAll_cons_mk (shut_int Tryd.underlying3 w7) (trodAll_cons_mk (shut_int Tryd.underlying3 w8) (trodAll_cons_mk (shut_int Tryd.underlying3 w9) trodAll_mk0)))))))))), rfl, bel.frame _, fun h => by cases h⟩
theorem over : Rows.StatementNextSaid :=
  OpenClaim.holds_of_wide 3 Tryd.f3 rfl rfl rfl rfl rfl rfl rfl ⟨rfl, rfl, rfl, rfl, rfl⟩ rfl rfl rfl rfl rfl (by kernel_rfl) Tryd.func3 (by kernel_rfl)
    (of_decide_eq_true (by kernel_rfl)) (by unfold Func.isWrapper; first | (rw [if_pos (by decide +kernel)]; kernel_rfl) | (rw [if_neg (by decide +kernel)]; exact ⟨rfl, rfl⟩))
    (fun os started H enc _ => lifted os started H enc)
theorem card : Rows.StatementNextCardSaid :=
  Claim7.holds_tied_plain_at .later [] [.wider, .wider, .data] true (true, "5d651258c026d4f3c1937d3a0b343ce8ca524cb81f341bc712b54841b9e85cc9") false over (fun _ h => by cases h) (by kernel_rfl) (fun _ h => by cases h) statementNext_row_tie rfl ⟨rfl, rfl⟩ (by kernel_rfl) rfl
    (fun f fn hf hfn => by
      obtain rfl : f = 3 := Option.some.inj ((show Tryd.prog.funcNamed "storagebarter/storagebarterlaw15.StatementNext" = some 3 by kernel_rfl).symm.trans hf) |>.symm
      obtain rfl : fn = Tryd.f3 := (Option.some.inj (Tryd.func3.symm.trans hfn)).symm
      exact ⟨by kernel_rfl, fun j t ht => by
        rw [Tryd.params3] at ht
        have hm : t ∈ [22, 23, 25, 3] := by have := Array.mem_of_getElem? ht; simp at this; simp; omega
        have hall : ([22, 23, 25, 3].all fun u => !Tryd.prog.wantsStandIn u) = true := by kernel_rfl
        exact (show Tryd.prog.wantsStandIn t = false by simpa using List.all_eq_true.1 hall t hm)⟩)
    (by kernel_rfl)
end Go.Proofs.YtcalkhlchjjalaaDoor.statementNext
namespace Go.Proofs.YtcalkhlchjjalaaDoor
/-- The card, under a short name, for the claim. -/
theorem statementNext_holds : Rows.StatementNextCardSaid := statementNext.card
#print axioms statementNext_holds
end Go.Proofs.YtcalkhlchjjalaaDoor
