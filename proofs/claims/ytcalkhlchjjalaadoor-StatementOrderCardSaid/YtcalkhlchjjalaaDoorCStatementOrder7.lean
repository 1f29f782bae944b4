/- StatementOrderCardSaid -/
import Derived.Test.YtcalkhlchjjalaaDoorCStatementOrder5
import Derived.Test.YtcalkhlchjjalaaDoorCStatementOrder6
import Derived.Deep.DeepCutAuto
import Derived.Deep.CutBlock
import Derived.IntWalk
namespace Go.Proofs.YtcalkhlchjjalaaDoor.Gmy
open Go Go.RowKit Go.Proofs Go.Proofs.YtcalkhlchjjalaaDoor.Gm Go.Proofs.YtcalkhlchjjalaaDoor.Gdm Go.Proofs.YtcalkhlchjjalaaDoor.Gmr Go.Proofs.YtcalkhlchjjalaaDoor.Gpp Go.Proofs.YtcalkhlchjjalaaDoor.Gsy Go.Proofs.YtcalkhlchjjalaaDoor.Gnx Go.Proofs.YtcalkhlchjjalaaDoor.Ggd Go.Proofs.YtcalkhlchjjalaaDoor.Gcw Go.Proofs.YtcalkhlchjjalaaDoor.Grn Go.Proofs.YtcalkhlchjjalaaDoor.Glz Go.Proofs.YtcalkhlchjjalaaDoor.Gat Go.Proofs.YtcalkhlchjjalaaDoor.Gfr Go.Proofs.YtcalkhlchjjalaaDoor.Q Go.Proofs.YtcalkhlchjjalaaDoorW.PrintWords Go.Proofs.YtcalkhlchjjalaaDoorW.PrintLast Go.Proofs.YtcalkhlchjjalaaDoorW.PrintMore
set_option linter.unusedVariables false
theorem I64w (x : Int) : I64 (IntKind.i64.wrap x) := by rw [IntKind.wrap_i64]; unfold I64; omega
structure QW (w w1 W : World) (gd : Nat) (L : List Int) (gl : Nat) (v9 : Value) (ch : List S39) (ok : Nat → Prop) : Prop where
 hb : Below w.heap.size w W
 le : w.heap.size ≤ w1.heap.size
 dk : ∃ at_, 0 ≤ at_ ∧ IsS57 w W gd L at_
 kp : KeepBut w1 W gd none
 b : W.heap[gl]? = some (.cells #[v9] 23 (0, 0))
 cr : Kd.R k39 39 W w.heap.size ok v9 ch
section
variable {w w1 W W' : World} {gd gl : Nat} {L : List Int} {v9 : Value} {ch : List S39} {ok : Nat → Prop}
theorem QW.below (h : QW w w1 W gd L gl v9 ch ok) (hb : Below W.heap.size W W') : QW w w1 W' gd L gl v9 ch ok := by
 obtain ⟨at_, h0, hd⟩ := h.dk
 exact ⟨below_step h.hb hb, h.le, ⟨at_, h0, hd.below hb⟩, h.kp.trans (KeepBut.of_below hb gd none) (.inl rfl), blk_below h.b hb, Kd.R_below h.cr hb⟩
theorem QW.alloc (h : QW w w1 W gd L gl v9 ch ok) (o : Obj) : QW w w1 (W.alloc o) gd L gl v9 ch ok := h.below (below_alloc (Below.refl _ _) o)
theorem QW.ne (h : QW w w1 W gd L gl v9 ch ok) {g : Nat} {t : TypeId} {cs : Array Value} (hc : W.heap[g]? = some (.cells cs t (0, 0))) (ht : t ≠ 57) : g ≠ gd := by
 obtain ⟨at0, -, A0, c0, hbg, -, -⟩ := h.dk
 rintro rfl
 rw [hbg] at hc
 injection hc with hc
 injection hc with _ hc
 exact ht hc.symm
theorem QW.next {at_ : Int} (h : QW w w1 W gd L gl v9 ch ok) (h0 : 0 ≤ at_) (hd : IsS57 w W' gd L at_) (hb : Below w.heap.size w W') (hk : KeepBut W W' gd none) : QW w w1 W' gd L gl v9 ch ok := by
 obtain ⟨at0, -, A0, c0, hbg, -, -⟩ := h.dk
 exact ⟨hb, h.le, ⟨at_, h0, hd⟩, h.kp.trans hk (.inl rfl), hk.blk h.b (h.ne h.b (by decide)) (by simp), Kd.R_mono (Kd.R_keep (Kd.R_types h.cr hbg (by first | decide | (intro q hq; rcases List.mem_cons.1 hq with h_ | h_; (subst h_; decide); (first | (cases h_; done) | (simp [k39] at h_))))) hk (fun _ z => z.2)) (fun _ z => z.1)⟩
theorem QW.far (h : QW w w1 W gd L gl v9 ch ok) {g : Nat} {cs : Array Value} (hc : W.heap[g]? = some (.cells cs 39 (0, 0))) (hl : w1.heap.size ≤ g) (hn : some g ≠ v9.ownBlock) (i : Nat) (v : Value) : QW w w1 (W.setCell ⟨g, i, none⟩ v) gd L gl v9 ch ok := by
 obtain ⟨at_, h0, hd⟩ := h.dk
 have hgd := h.ne hc (by decide)
 have hgl : gl ≠ g := by
  rintro e
  have hb := h.b
  rw [e, hc] at hb
  injection hb with hb
  injection hb with _ hb
  exact absurd hb (by decide)
 have hr : Kd.R k39 39 W w.heap.size (fun k => ok k ∧ k ≠ g) v9 ch := ⟨fun k hk => ⟨h.cr.1 k hk, fun e => hn (by rw [hk, e])⟩, h.cr.2.imp_ (fun p c hm => by rw [k39_openM hm]; exact k39_mkM _ _ _ _)⟩
 exact ⟨below_set h.hb (Nat.le_trans h.le hl), h.le, ⟨at_, h0, hd.far (fun e => hgd e.symm) v⟩, keep_far h.kp (p := ⟨g, i, none⟩) hl v, blk_far (p := ⟨g, i, none⟩) h.b hgl v, Kd.R_mono (Kd.R_far (p := ⟨g, i, none⟩) hr (fun _ hk => hk.2) v) (fun _ hk => hk.1)⟩
end
structure XW (w w1 W : World) (gd : Nat) (L : List Int) (gl : Nat) (v9 : Value) (ch : List S39) (ok : Nat → Prop) (p1 : Int) (g9 g12 : Nat) : Prop where
 q : QW w w1 W gd L gl v9 ch ok
 pb : W.heap[g9]? = some (.cells #[.int .i64 1, .int .i64 p1] 25 (0, 0))
 rb : W.heap[g12]? = some (.cells #[.int .i64 0, .int .i64 0, .int .i64 0, .int .i64 0, .int .i64 0, .int .i64 0, .int .i64 0, .int .i64 0, .int .i64 0, .int .i64 0, .int .i64 0] 39 (0, 0))
 l12 : w1.heap.size ≤ g12
 n12 : some g12 ≠ v9.ownBlock
structure YW (w w1 W : World) (gd : Nat) (L : List Int) (gl : Nat) (v9 : Value) (ch : List S39) (ok : Nat → Prop) (p1 : Int) (g9 g12 g15 g17 : Nat) (cl cs : Array Value) : Prop where
 x : XW w w1 W gd L gl v9 ch ok p1 g9 g12
 lb : W.heap[g15]? = some (.cells cl 82 (0, 0))
 sb : W.heap[g17]? = some (.cells cs 39 (0, 0))
 l17 : w1.heap.size ≤ g17
 n17 : some g17 ≠ v9.ownBlock
 ne : g12 ≠ g17
section
variable {w w1 W W' : World} {gd gl g9 g12 g15 g17 : Nat} {L : List Int} {v9 : Value} {ch : List S39} {ok : Nat → Prop} {p1 : Int} {cl cs : Array Value}
theorem XW.below (h : XW w w1 W gd L gl v9 ch ok p1 g9 g12) (hb : Below W.heap.size W W') : XW w w1 W' gd L gl v9 ch ok p1 g9 g12 := ⟨h.q.below hb, blk_below h.pb hb, blk_below h.rb hb, h.l12, h.n12⟩
theorem XW.turn (h : XW w w1 W gd L gl v9 ch ok p1 g9 g12) (hL : L.length ≤ 1000000) (n : Int) (hn : 1 ≤ n ∧ n ≤ 100000) : Calls Tryd.prog 16 #[.pointer (some ⟨gd, 0, none⟩), .int .i64 n] W fun e w' => ∃ t : Int, e = .returned (.int .i64 t) ∧ 0 ≤ t ∧ t < n ∧ XW w w1 w' gd L gl v9 ch ok p1 g9 g12 ∧ KeepBut W w' gd none := by
 obtain ⟨at_, h0, hd⟩ := h.q.dk
 obtain ⟨t, a1, e, p, q, h1⟩ := next_ok L at_ n hn.1 (by omega) h0 hL
 refine (storagebartermake_Deck_Next.calls gd L at_ n t a1 w W hd h.q.hb e).mono fun e' w' y => ?_
 obtain ⟨rfl, z1, z2, z3⟩ := y
 exact ⟨t, rfl, p, q, ⟨h.q.next h1 z1 z2 z3, z3.blk h.pb (h.q.ne h.pb (by decide)) (by simp), z3.blk h.rb (h.q.ne h.rb (by decide)) (by simp), h.l12, h.n12⟩, z3⟩
theorem YW.below (h : YW w w1 W gd L gl v9 ch ok p1 g9 g12 g15 g17 cl cs) (hb : Below W.heap.size W W') : YW w w1 W' gd L gl v9 ch ok p1 g9 g12 g15 g17 cl cs := ⟨h.x.below hb, blk_below h.lb hb, blk_below h.sb hb, h.l17, h.n17, h.ne⟩
theorem YW.drew (h : YW w w1 W gd L gl v9 ch ok p1 g9 g12 g15 g17 cl cs) : YW w w1 W.drew gd L gl v9 ch ok p1 g9 g12 g15 g17 cl cs := h.below (below_drew1 (Below.refl _ _))
theorem YW.turn (h : YW w w1 W gd L gl v9 ch ok p1 g9 g12 g15 g17 cl cs) (hL : L.length ≤ 1000000) (n : Int) (hn : 1 ≤ n ∧ n ≤ 100000) : Calls Tryd.prog 16 #[.pointer (some ⟨gd, 0, none⟩), .int .i64 n] W fun e w' => ∃ t : Int, e = .returned (.int .i64 t) ∧ 0 ≤ t ∧ t < n ∧ YW w w1 w' gd L gl v9 ch ok p1 g9 g12 g15 g17 cl cs :=
 (h.x.turn hL n hn).mono fun e w' ⟨t, e1, p, q, hx, hk⟩ => ⟨t, e1, p, q, hx, hk.blk h.lb (h.x.q.ne h.lb (by decide)) (by simp), hk.blk h.sb (h.x.q.ne h.sb (by decide)) (by simp), h.l17, h.n17, h.ne⟩
theorem XW.turnAt (h : XW w w1 W gd L gl v9 ch ok p1 g9 g12) {a a1 n t : Int} (hd : IsS57 w W gd L a) (e : storagebartermake_Deck_Next.f L a n = some (t, a1)) (h1 : 0 ≤ a1) : Calls Tryd.prog 16 #[.pointer (some ⟨gd, 0, none⟩), .int .i64 n] W fun e w' => e = .returned (.int .i64 t) ∧ XW w w1 w' gd L gl v9 ch ok p1 g9 g12 ∧ IsS57 w w' gd L a1 := by
 refine (storagebartermake_Deck_Next.calls gd L a n t a1 w W hd h.q.hb e).mono fun e' w' y => ?_
 obtain ⟨rfl, z1, z2, z3⟩ := y
 exact ⟨rfl, ⟨h.q.next h1 z1 z2 z3, z3.blk h.pb (h.q.ne h.pb (by decide)) (by simp), z3.blk h.rb (h.q.ne h.rb (by decide)) (by simp), h.l12, h.n12⟩, z1⟩
theorem YW.turnAt (h : YW w w1 W gd L gl v9 ch ok p1 g9 g12 g15 g17 cl cs) {a a1 n t : Int} (hd : IsS57 w W gd L a) (e : storagebartermake_Deck_Next.f L a n = some (t, a1)) (h1 : 0 ≤ a1) : Calls Tryd.prog 16 #[.pointer (some ⟨gd, 0, none⟩), .int .i64 n] W fun e w' => e = .returned (.int .i64 t) ∧ YW w w1 w' gd L gl v9 ch ok p1 g9 g12 g15 g17 cl cs := by
 refine (storagebartermake_Deck_Next.calls gd L a n t a1 w W hd h.x.q.hb e).mono fun e' w' y => ?_
 obtain ⟨rfl, z1, z2, z3⟩ := y
 exact ⟨rfl, ⟨h.x.q.next h1 z1 z2 z3, z3.blk h.x.pb (h.x.q.ne h.x.pb (by decide)) (by simp), z3.blk h.x.rb (h.x.q.ne h.x.rb (by decide)) (by simp), h.x.l12, h.x.n12⟩, z3.blk h.lb (h.x.q.ne h.lb (by decide)) (by simp), z3.blk h.sb (h.x.q.ne h.sb (by decide)) (by simp), h.l17, h.n17, h.ne⟩
theorem YW.far (h : YW w w1 W gd L gl v9 ch ok p1 g9 g12 g15 g17 cl cs) (i : Nat) (v : Value) : YW w w1 (W.setCell ⟨g17, i, none⟩ v) gd L gl v9 ch ok p1 g9 g12 g15 g17 cl (cs.setIfInBounds i v) :=
 ⟨⟨h.x.q.far h.sb h.l17 h.n17 i v, blk_far (p := ⟨g17, i, none⟩) h.x.pb (blk_ne h.x.pb h.sb (by decide)) v, blk_far (p := ⟨g17, i, none⟩) h.x.rb h.ne v, h.x.l12, h.x.n12⟩, blk_far (p := ⟨g17, i, none⟩) h.lb (blk_ne h.lb h.sb (by decide)) v, blk_put h.sb i v rfl, h.l17, h.n17, h.ne⟩
theorem YW.put11 {a0 a1 a2 a3 a4 a5 a6 a7 a8 a9 aa : Value} (h : YW w w1 W gd L gl v9 ch ok p1 g9 g12 g15 g17 cl #[a0, a1, a2, a3, a4, a5, a6, a7, a8, a9, aa]) (v0 v1 v2 v3 v4 v5 v6 v7 v8 v9_ va : Value) :
 YW w w1 (((((((((((W.setCell ⟨g17, 0, none⟩ v0).setCell ⟨g17, 1, none⟩ v1).setCell ⟨g17, 2, none⟩ v2).setCell ⟨g17, 3, none⟩ v3).setCell ⟨g17, 4, none⟩ v4).setCell ⟨g17, 5, none⟩ v5).setCell ⟨g17, 6, none⟩ v6).setCell ⟨g17, 7, none⟩ v7).setCell ⟨g17, 8, none⟩ v8).setCell ⟨g17, 9, none⟩ v9_).setCell ⟨g17, 10, none⟩ va) gd L gl v9 ch ok p1 g9 g12 g15 g17 cl #[v0, v1, v2, v3, v4, v5, v6, v7, v8, v9_, va] := by
 have h10 := ((((((((((h.far 0 v0).far 1 v1).far 2 v2).far 3 v3).far 4 v4).far 5 v5).far 6 v6).far 7 v7).far 8 v8).far 9 v9_).far 10 va
 exact ⟨h10.x, h10.lb, Gnx.put11 _ _ _ _ _ _ _ _ _ _ _ _ _ _ _ _ _ _ _ _ _ _ h.sb, h10.l17, h10.n17, h10.ne⟩
theorem XW.out11 (h : XW w w1 W gd L gl v9 ch ok p1 g9 g12) (v0 v1 v2 v3 v4 v5 v6 v7 v8 v9_ va : Value) : QW w w1 (((((((((((W.setCell ⟨g12, 0, none⟩ v0).setCell ⟨g12, 1, none⟩ v1).setCell ⟨g12, 2, none⟩ v2).setCell ⟨g12, 3, none⟩ v3).setCell ⟨g12, 4, none⟩ v4).setCell ⟨g12, 5, none⟩ v5).setCell ⟨g12, 6, none⟩ v6).setCell ⟨g12, 7, none⟩ v7).setCell ⟨g12, 8, none⟩ v8).setCell ⟨g12, 9, none⟩ v9_).setCell ⟨g12, 10, none⟩ va) gd L gl v9 ch ok := by
 have c0 := h.q.far h.rb h.l12 h.n12 0 v0
 have r0 := blk_put h.rb 0 v0 rfl
 have c1 := c0.far r0 h.l12 h.n12 1 v1
 have r1 := blk_put r0 1 v1 rfl
 have c2 := c1.far r1 h.l12 h.n12 2 v2
 have r2 := blk_put r1 2 v2 rfl
 have c3 := c2.far r2 h.l12 h.n12 3 v3
 have r3 := blk_put r2 3 v3 rfl
 have c4 := c3.far r3 h.l12 h.n12 4 v4
 have r4 := blk_put r3 4 v4 rfl
 have c5 := c4.far r4 h.l12 h.n12 5 v5
 have r5 := blk_put r4 5 v5 rfl
 have c6 := c5.far r5 h.l12 h.n12 6 v6
 have r6 := blk_put r5 6 v6 rfl
 have c7 := c6.far r6 h.l12 h.n12 7 v7
 have r7 := blk_put r6 7 v7 rfl
 have c8 := c7.far r7 h.l12 h.n12 8 v8
 have r8 := blk_put r7 8 v8 rfl
 have c9 := c8.far r8 h.l12 h.n12 9 v9_
 have r9 := blk_put r8 9 v9_ rfl
 have c10 := c9.far r9 h.l12 h.n12 10 va
 exact c10
theorem YW.rn {A9 : Option Addr} {c9 : Nat} (h : YW w w1 W gd L gl (.slice A9 ch.length c9) ch ok p1 g9 g12 g15 g17 cl cs) (hG : Gd 1 p1 2 ch) {tick : Int} (ht : I64 tick) {kind a b c d : Int} (h5 : I64 kind) (h6 : I64 a) (h7 : I64 b) (h8 : I64 c) (h9 : I64 d) :
 Calls Tryd.prog 15 #[.slice A9 ch.length c9, .agg #[.int .i64 1, .int .i64 p1], .int .i64 2, .int .i64 tick, .int .i64 kind, .int .i64 a, .int .i64 b, .int .i64 c, .int .i64 d] W fun e w' =>
  ∃ (s : S39) (r : Int), (r = 0 → Gd 1 p1 2 (ch ++ [s])) ∧ e = .returned (.tuple #[.agg #[.int .i64 s.f0, .int .i64 s.f1, .int .i64 s.f2, .int .i64 s.f3, .int .i64 s.f4, .int .i64 s.f5, .int .i64 s.f6, .int .i64 s.f7, .int .i64 s.f8, .int .i64 s.f9, .int .i64 s.f10], .int .i64 r]) ∧ YW w w1 w' gd L gl (.slice A9 ch.length c9) ch ok p1 g9 g12 g15 g17 cl cs := by
 obtain ⟨s, r, hn⟩ : ∃ s r, nxt ch 1 p1 2 tick kind a b c d = (s, r) := ⟨_, _, rfl⟩
 refine (rnext_x A9 c9 ch 1 p1 2 tick kind a b c d W (Kd.R_reads' h.x.q.cr).2.2 (Kd.R_reads' h.x.q.cr).2.1 hG.w64 (by unfold I64; omega) (by unfold I64; omega) ht h5 h6 h7 h8 h9 s r hn).mono fun e w' z => ?_
 exact ⟨s, r, fun hr => by subst hr; exact hG.snoc hn (by unfold I64; omega) (by unfold I64; omega) ht h5 h6 h7 h8 h9, z.1, h.below z.2⟩
theorem YW.free {A9 : Option Addr} {c9 : Nat} (h : YW w w1 W gd L gl (.slice A9 ch.length c9) ch ok p1 g9 g12 g15 g17 cl cs) (hG : Gd 1 p1 2 ch) (hl : ch.length ≤ 200) {tick : Int} :
 Calls Tryd.prog 52 #[.slice (some ⟨gl, 0, none⟩) 1 1, .int .i64 4, .int .i64 tick] W fun e w' => ∃ (n : Int) (b : Bool), I64 n ∧ e = .returned (.tuple #[.int .i64 n, .bool b]) ∧ YW w w1 w' gd L gl (.slice A9 ch.length c9) ch ok p1 g9 g12 g15 g17 cl cs := by
 obtain ⟨n, b, hf, hn⟩ := free_ok ch hG.w64 (by omega) tick
 refine (storagebarterref16_Free.calls 400 (some ⟨gl, 0, none⟩) 1 [ch] 4 tick n b W (C_one h.x.q.b (Kd.R_reads' h.x.q.cr).2.1 (Kd.R_reads' h.x.q.cr).2.2) (Nat.le_refl _) hf).mono fun e w' z => ?_
 exact ⟨n, b, by unfold I64; omega, z.1, h.below z.2⟩
theorem YW.kept {A9 : Option Addr} {c9 : Nat} (h : YW w w1 W gd L gl (.slice A9 ch.length c9) ch ok p1 g9 g12 g15 g17 cl cs) (hG : Gd 1 p1 2 ch) (hl : ch.length ≤ 200) {tick : Int} :
 Calls Tryd.prog 53 #[.slice A9 ch.length c9, .int .i64 tick] W fun e w' => ∃ (n c : Int), I64 n ∧ e = .returned (.tuple #[.int .i64 n, .int .i64 c]) ∧ YW w w1 w' gd L gl (.slice A9 ch.length c9) ch ok p1 g9 g12 g15 g17 cl cs := by
 refine (kept_x A9 c9 ch tick W (Kd.R_reads' h.x.q.cr).2.2 (Kd.R_reads' h.x.q.cr).2.1 (by omega) hG.w64).mono fun e w' z => ?_
 obtain ⟨n, c, e1, h1, h2⟩ := z
 exact ⟨n, c, h1, e1, h.below h2⟩
theorem YW.all {x0 x1 x2 x3 x4 x5 x6 : Int} {x7 : Bool} (h : YW w w1 W gd L gl v9 ch ok p1 g9 g12 g15 g17 #[.int .i64 x0, .int .i64 x1, .int .i64 x2, .int .i64 x3, .int .i64 x4, .int .i64 x5, .int .i64 x6, .bool x7] cs) : YW w w1 W gd L gl v9 ch ok p1 g9 g12 g15 g17 #[.int .i64 x0, .int .i64 x1, .int .i64 x2, .int .i64 x3, .int .i64 x4, .int .i64 x5, .int .i64 x6, .bool x7] cs ∧ W.cell? ⟨g9, 0, none⟩ = some (.int .i64 1) ∧ W.cell? ⟨g9, 1, none⟩ = some (.int .i64 p1) ∧ W.cell? ⟨g15, 6, none⟩ = some (.int .i64 x6) :=
 ⟨h, (blk_cell h.x.pb 0).trans rfl, (blk_cell h.x.pb 1).trans rfl, (blk_cell h.lb 6).trans rfl⟩
end
structure SayMk (w w1 : World) (gd : Nat) (L : List Int) (gl : Nat) (v9 : Value) (ch : List S39) (ok : Nat → Prop) (p1 : Int) (e : Ending) (w' : World) : Prop where
 out : ∃ (s : S39) (b : Bool), e = .returned (.tuple #[.agg #[.int .i64 s.f0, .int .i64 s.f1, .int .i64 s.f2, .int .i64 s.f3, .int .i64 s.f4, .int .i64 s.f5, .int .i64 s.f6, .int .i64 s.f7, .int .i64 s.f8, .int .i64 s.f9, .int .i64 s.f10], .bool b]) ∧ (b = true → Gd 1 p1 2 (ch ++ [s])) ∧ QW w w1 w' gd L gl v9 ch ok
set_option maxRecDepth 100000 in
set_option maxHeartbeats 60000000 in
theorem say_mk0 (w w1 W : World) (gd : Nat) (L : List Int) (gl : Nat) (A9 : Option Addr) (c9 : Nat) (ch : List S39) (ok : Nat → Prop) (p1 tick : Int) (h : QW w w1 W gd L gl (.slice A9 ch.length c9) ch ok) (hL : L.length ≤ 1000000) (hG : Gd 1 p1 2 ch) (hl : ch.length ≤ 200) (ht : I64 tick)
 (at0 at1 at2 t3 t8 : Int) (h1 : 0 ≤ at1) (h2 : 0 ≤ at2) (hd0 : IsS57 w W gd L at0) (e3 : storagebartermake_Deck_Next.f L at0 3 = some (t3, at1)) (e8 : storagebartermake_Deck_Next.f L at1 8 = some (t8, at2)) (ht3 : 0 ≤ t3) (ht3' : t3 < 3) (hk : t8 = 0) :
 Calls Tryd.prog 43 #[.pointer (some ⟨gd, 0, none⟩), .slice A9 ch.length c9, .slice (some ⟨gl, 0, none⟩) 1 1, .agg #[.int .i64 1, .int .i64 p1], .int .i64 2, .int .i64 tick] W (SayMk w w1 gd L gl (.slice A9 ch.length c9) ch ok p1) := by
 have mixed : (Tryd.prog).follows .mixedOrders = true := by kernel_rfl
 have hu39 := Tryd.underlying39
 have hu25 := Tryd.underlying25
 have hu82 := Tryd.underlying82
 have HD := Aside0.mk h
 have HG := Aside0.mk hG
 have HT := Aside0.mk ht
 have HX1 : Aside0 (XW w w1 ((W.alloc (.cells #[.int .i64 1, .int .i64 p1] 25)).alloc (.cells #[.int .i64 0, .int .i64 0, .int .i64 0, .int .i64 0, .int .i64 0, .int .i64 0, .int .i64 0, .int .i64 0, .int .i64 0, .int .i64 0, .int .i64 0] 39)) gd L gl (.slice A9 ch.length c9) ch ok p1 W.heap.size (W.heap.size + 1)) := ⟨⟨(h.alloc _).alloc _, blk_alloc (heap_alloc_new W _) _, two_new W _ _ _ _, Nat.le_succ_of_le h.kp.1, Kd.R_ne_new h.cr 1⟩⟩
 have HD1 : Aside0 (IsS57 w ((W.alloc (.cells #[.int .i64 1, .int .i64 p1] 25)).alloc (.cells #[.int .i64 0, .int .i64 0, .int .i64 0, .int .i64 0, .int .i64 0, .int .i64 0, .int .i64 0, .int .i64 0, .int .i64 0, .int .i64 0, .int .i64 0] 39)) gd L at0) := ⟨hd0.below (below_alloc (below_alloc (Below.refl _ _) _) _)⟩
 have E3 := Lib.hid e3
 have E8 := Lib.hid e8
 clear h hG ht HD hd0 e3 e8
 go_enter Tryd.func43, Tryd.ntmps43
 go_upto_region 5 with (first | (go_at_call 16; with_reducible refine (XW.turnAt HX1.out HD1.out E3.out h1).mono ?_; rintro e w2 ⟨rfl, hx, hd⟩; have HX := Aside0.mk hx; clear hx HX1 HD1; have HD1 := Aside0.mk hd; clear hd) | (go_at_call 51; with_reducible refine (at_x A9 c9 ch t3 tick _ (Kd.R_reads' HX.out.q.cr).2.2 (Kd.R_reads' HX.out.q.cr).2.1 (by omega) HG.out.w64).mono ?_; rintro e w3 ⟨⟨x0, x1, x2, x3, x4, x5, x6, x7⟩, okl, rfl, hli, hb⟩; have n_ := Aside0.mk (XW.below HX.out hb); have nd_ := Aside0.mk (HD1.out.below hb); clear HX HD1 hb; have HX := n_; have HD1 := nd_; clear n_ nd_; have HLI := Aside0.mk hli; clear hli; (try dsimp only)))
 obtain ⟨g12, hg12⟩ : ∃ g12, W.heap.size + 1 = g12 := ⟨_, rfl⟩
 rw [hg12] at HX ⊢
 clear hg12
 obtain ⟨g9, hg9⟩ : ∃ g9, W.heap.size = g9 := ⟨_, rfl⟩
 rw [hg9] at HX ⊢
 clear hg9
 have HD2 : Aside0 (IsS57 w ((w3.alloc (.cells #[.int .i64 x0, .int .i64 x1, .int .i64 x2, .int .i64 x3, .int .i64 x4, .int .i64 x5, .int .i64 x6, .bool x7] 82)).alloc (.cells #[.int .i64 0, .int .i64 0, .int .i64 0, .int .i64 0, .int .i64 0, .int .i64 0, .int .i64 0, .int .i64 0, .int .i64 0, .int .i64 0, .int .i64 0] 39)) gd L at1) := ⟨HD1.out.below (below_alloc (below_alloc (Below.refl _ _) _) _)⟩
 have HY : Aside0 (YW w w1 ((w3.alloc (.cells #[.int .i64 x0, .int .i64 x1, .int .i64 x2, .int .i64 x3, .int .i64 x4, .int .i64 x5, .int .i64 x6, .bool x7] 82)).alloc (.cells #[.int .i64 0, .int .i64 0, .int .i64 0, .int .i64 0, .int .i64 0, .int .i64 0, .int .i64 0, .int .i64 0, .int .i64 0, .int .i64 0, .int .i64 0] 39)) gd L gl (.slice A9 ch.length c9) ch ok p1 g9 g12 w3.heap.size (w3.heap.size + 1) #[.int .i64 x0, .int .i64 x1, .int .i64 x2, .int .i64 x3, .int .i64 x4, .int .i64 x5, .int .i64 x6, .bool x7] #[.int .i64 0, .int .i64 0, .int .i64 0, .int .i64 0, .int .i64 0, .int .i64 0, .int .i64 0, .int .i64 0, .int .i64 0, .int .i64 0, .int .i64 0]) :=
  ⟨⟨HX.out.below (below_alloc (below_alloc (Below.refl _ _) _) _), blk_alloc (heap_alloc_new w3 _) _, two_new w3 _ _ _ _, Nat.le_succ_of_le HX.out.q.kp.1, Kd.R_ne_new HX.out.q.cr 1, by have := blk_lt HX.out.rb; omega⟩⟩
 obtain ⟨W4, hW4⟩ : ∃ W4, W4 = (w3.alloc (.cells #[.int .i64 x0, .int .i64 x1, .int .i64 x2, .int .i64 x3, .int .i64 x4, .int .i64 x5, .int .i64 x6, .bool x7] 82)).alloc (.cells #[.int .i64 0, .int .i64 0, .int .i64 0, .int .i64 0, .int .i64 0, .int .i64 0, .int .i64 0, .int .i64 0, .int .i64 0, .int .i64 0, .int .i64 0] 39) := ⟨_, rfl⟩
 rw [← hW4] at HY HD2 ⊢
 clear hW4 HX HD1
 obtain ⟨g17, hg17⟩ : ∃ g17, w3.heap.size + 1 = g17 := ⟨_, rfl⟩
 rw [hg17] at HY ⊢
 clear hg17
 obtain ⟨g15, hg15⟩ : ∃ g15, w3.heap.size = g15 := ⟨_, rfl⟩
 rw [hg15] at HY ⊢
 clear hg15
 have hx3i : I64 x3 := HLI.out.h3
 have hx4i : I64 x4 := HLI.out.h4
 have hch : (0 : Int) ≤ ch.length ∧ (ch.length : Int) ≤ 200 := by omega
 go_upto_block 0 with (first | (go_at_call 16; with_reducible refine (YW.turnAt HY.out HD2.out E8.out h2).mono ?_; rintro e w5 ⟨rfl, hy⟩; clear HY HD2; have HY := Aside0.mk hy; clear hy))
 have hcw := HY.out
 have hp0_ : w5.cell? ⟨g9, 0, none⟩ = some (.int .i64 1) := (blk_cell HY.out.x.pb 0).trans rfl
 have hp1_ : w5.cell? ⟨g9, 1, none⟩ = some (.int .i64 p1) := (blk_cell HY.out.x.pb 1).trans rfl
 have hl6_ : w5.cell? ⟨g15, 6, none⟩ = some (.int .i64 x6) := (blk_cell HY.out.lb 6).trans rfl
 have hl3_ : w5.cell? ⟨g15, 3, none⟩ = some (.int .i64 x3) := (blk_cell HY.out.lb 3).trans rfl
 have hl4_ : w5.cell? ⟨g15, 4, none⟩ = some (.int .i64 x4) := (blk_cell HY.out.lb 4).trans rfl
 go_cut [18] (fun s18 wx => ∃ z0 z1 z2 z3 z4 z5 z6 z7 z8 z9 z10 r : Int, s18 = .int .i64 r ∧ Aside0 (r = 0 → Gd 1 p1 2 (ch ++ [⟨z0, z1, z2, z3, z4, z5, z6, z7, z8, z9, z10⟩])) ∧ Aside0 (YW w w1 wx gd L gl (.slice A9 ch.length c9) ch ok p1 g9 g12 g15 g17 #[.int .i64 x0, .int .i64 x1, .int .i64 x2, .int .i64 x3, .int .i64 x4, .int .i64 x5, .int .i64 x6, .bool x7] #[.int .i64 z0, .int .i64 z1, .int .i64 z2, .int .i64 z3, .int .i64 z4, .int .i64 z5, .int .i64 z6, .int .i64 z7, .int .i64 z8, .int .i64 z9, .int .i64 z10]))
 case first =>
  have NOSAY : Aside0 (∀ s : S39, (2 : Int) = 0 → Gd 1 p1 2 (ch ++ [s])) := ⟨fun s h => absurd h (by decide)⟩
  subst hk
  go_upto_region 10 with (first | (go_at_call 52; with_reducible refine (YW.free hcw HG.out hl (tick := tick)).mono ?_; rintro e w6 ⟨fn, fb, hfn, rfl, hy⟩; clear HY hcw; have HY := Aside0.mk hy; have hcw := hy; clear hy))
  cases fb
  ·go_wp2
   go_meet
   exact ⟨0, 0, 0, 0, 0, 0, 0, 0, 0, 0, 0, 2, rfl, ⟨NOSAY.out _⟩, HY⟩
  ·have hp0_ : w6.cell? ⟨g9, 0, none⟩ = some (.int .i64 1) := (blk_cell HY.out.x.pb 0).trans rfl
   have hp1_ : w6.cell? ⟨g9, 1, none⟩ = some (.int .i64 p1) := (blk_cell HY.out.x.pb 1).trans rfl
   have hl6_ : w6.cell? ⟨g15, 6, none⟩ = some (.int .i64 x6) := (blk_cell HY.out.lb 6).trans rfl
   have hl3_ : w6.cell? ⟨g15, 3, none⟩ = some (.int .i64 x3) := (blk_cell HY.out.lb 3).trans rfl
   have hl4_ : w6.cell? ⟨g15, 4, none⟩ = some (.int .i64 x4) := (blk_cell HY.out.lb 4).trans rfl
   go_upto_region 11 with fail
   go_region_with (first | (go_at_call 16; with_reducible refine (YW.turn (YW.drew hcw) hL 100 (by decide)).mono ?_; rintro e w' ⟨ta, rfl, hta, hta', hcw⟩; have hp0_ : w'.cell? ⟨g9, 0, none⟩ = some (.int .i64 1) := (blk_cell hcw.x.pb 0).trans rfl; have hp1_ : w'.cell? ⟨g9, 1, none⟩ = some (.int .i64 p1) := (blk_cell hcw.x.pb 1).trans rfl; have hl6_ : w'.cell? ⟨g15, 6, none⟩ = some (.int .i64 x6) := (blk_cell hcw.lb 6).trans rfl) | (go_at_call 16; with_reducible refine (YW.turn hcw hL 100 (by decide)).mono ?_; rintro e w' ⟨ta, rfl, hta, hta', hcw⟩; have hp0_ : w'.cell? ⟨g9, 0, none⟩ = some (.int .i64 1) := (blk_cell hcw.x.pb 0).trans rfl; have hp1_ : w'.cell? ⟨g9, 1, none⟩ = some (.int .i64 p1) := (blk_cell hcw.x.pb 1).trans rfl; have hl6_ : w'.cell? ⟨g15, 6, none⟩ = some (.int .i64 x6) := (blk_cell hcw.lb 6).trans rfl) | (go_at_call 16; with_reducible refine (YW.turn (YW.drew hcw) hL 900 (by decide)).mono ?_; rintro e w' ⟨tb, rfl, htb, htb', hcw⟩; have hp0_ : w'.cell? ⟨g9, 0, none⟩ = some (.int .i64 1) := (blk_cell hcw.x.pb 0).trans rfl; have hp1_ : w'.cell? ⟨g9, 1, none⟩ = some (.int .i64 p1) := (blk_cell hcw.x.pb 1).trans rfl; have hl6_ : w'.cell? ⟨g15, 6, none⟩ = some (.int .i64 x6) := (blk_cell hcw.lb 6).trans rfl) | (go_at_call 16; with_reducible refine (YW.turn hcw hL 900 (by decide)).mono ?_; rintro e w' ⟨tb, rfl, htb, htb', hcw⟩; have hp0_ : w'.cell? ⟨g9, 0, none⟩ = some (.int .i64 1) := (blk_cell hcw.x.pb 0).trans rfl; have hp1_ : w'.cell? ⟨g9, 1, none⟩ = some (.int .i64 p1) := (blk_cell hcw.x.pb 1).trans rfl; have hl6_ : w'.cell? ⟨g15, 6, none⟩ = some (.int .i64 x6) := (blk_cell hcw.lb 6).trans rfl) | (go_at_call 16; with_reducible refine (YW.turn (YW.drew hcw) hL 9 (by decide)).mono ?_; rintro e w' ⟨tc, rfl, htc, htc', hcw⟩; have hp0_ : w'.cell? ⟨g9, 0, none⟩ = some (.int .i64 1) := (blk_cell hcw.x.pb 0).trans rfl; have hp1_ : w'.cell? ⟨g9, 1, none⟩ = some (.int .i64 p1) := (blk_cell hcw.x.pb 1).trans rfl; have hl6_ : w'.cell? ⟨g15, 6, none⟩ = some (.int .i64 x6) := (blk_cell hcw.lb 6).trans rfl) | (go_at_call 16; with_reducible refine (YW.turn hcw hL 9 (by decide)).mono ?_; rintro e w' ⟨tc, rfl, htc, htc', hcw⟩; have hp0_ : w'.cell? ⟨g9, 0, none⟩ = some (.int .i64 1) := (blk_cell hcw.x.pb 0).trans rfl; have hp1_ : w'.cell? ⟨g9, 1, none⟩ = some (.int .i64 p1) := (blk_cell hcw.x.pb 1).trans rfl; have hl6_ : w'.cell? ⟨g15, 6, none⟩ = some (.int .i64 x6) := (blk_cell hcw.lb 6).trans rfl) | (go_at_call 15; (try go_split_ands); go_loud (with_reducible refine (YW.rn hcw HG.out HT.out (by first | (with_reducible exact I64w _) | (with_reducible assumption) | (unfold I64; omega)) (by first | (with_reducible exact I64w _) | (with_reducible assumption) | (unfold I64; omega)) (by first | (with_reducible exact I64w _) | (with_reducible assumption) | (unfold I64; omega)) (by first | (with_reducible exact I64w _) | (with_reducible assumption) | (unfold I64; omega)) (by first | (with_reducible exact I64w _) | (with_reducible assumption) | (unfold I64; omega))).mono ?_); rintro e w' ⟨s, r1, hs, rfl, hcn⟩; have HSN := Aside0.mk hs; have HCN := Aside0.mk hcn; clear hs hcn; have hz0_ : w'.cell? ⟨g17, 0, none⟩ = some (.int .i64 0) := (blk_cell HCN.out.sb 0).trans rfl; have hf0_ := blk_frozen HCN.out.sb 0; have hz1_ : w'.cell? ⟨g17, 1, none⟩ = some (.int .i64 0) := (blk_cell HCN.out.sb 1).trans rfl; have hf1_ := blk_frozen HCN.out.sb 1; have hz2_ : w'.cell? ⟨g17, 2, none⟩ = some (.int .i64 0) := (blk_cell HCN.out.sb 2).trans rfl; have hf2_ := blk_frozen HCN.out.sb 2; have hz3_ : w'.cell? ⟨g17, 3, none⟩ = some (.int .i64 0) := (blk_cell HCN.out.sb 3).trans rfl; have hf3_ := blk_frozen HCN.out.sb 3; have hz4_ : w'.cell? ⟨g17, 4, none⟩ = some (.int .i64 0) := (blk_cell HCN.out.sb 4).trans rfl; have hf4_ := blk_frozen HCN.out.sb 4; have hz5_ : w'.cell? ⟨g17, 5, none⟩ = some (.int .i64 0) := (blk_cell HCN.out.sb 5).trans rfl; have hf5_ := blk_frozen HCN.out.sb 5; have hz6_ : w'.cell? ⟨g17, 6, none⟩ = some (.int .i64 0) := (blk_cell HCN.out.sb 6).trans rfl; have hf6_ := blk_frozen HCN.out.sb 6; have hz7_ : w'.cell? ⟨g17, 7, none⟩ = some (.int .i64 0) := (blk_cell HCN.out.sb 7).trans rfl; have hf7_ := blk_frozen HCN.out.sb 7; have hz8_ : w'.cell? ⟨g17, 8, none⟩ = some (.int .i64 0) := (blk_cell HCN.out.sb 8).trans rfl; have hf8_ := blk_frozen HCN.out.sb 8; have hz9_ : w'.cell? ⟨g17, 9, none⟩ = some (.int .i64 0) := (blk_cell HCN.out.sb 9).trans rfl; have hf9_ := blk_frozen HCN.out.sb 9; have hz10_ : w'.cell? ⟨g17, 10, none⟩ = some (.int .i64 0) := (blk_cell HCN.out.sb 10).trans rfl; have hf10_ := blk_frozen HCN.out.sb 10; have hzl_ := blk_lt HCN.out.sb; obtain ⟨s0, s1, s2, s3, s4, s5, s6, s7, s8, s9, s10⟩ := s; (try dsimp only)))
   all_goals (go_wp2_with fail)
   all_goals go_meet
   all_goals (with_reducible exact ⟨s0, s1, s2, s3, s4, s5, s6, s7, s8, s9, s10, r1, rfl, HSN, ⟨YW.put11 HCN.out _ _ _ _ _ _ _ _ _ _ _⟩⟩)
 case rest =>
  clear hcw HY hp0_ hp1_ hl6_ hl3_ hl4_
  obtain ⟨z0, z1, z2, z3, z4, z5, z6, z7, z8, z9, z10, r, rfl, HSN, HY⟩ := hcut
  have hq0_ : wc.cell? ⟨g12, 0, none⟩ = some (.int .i64 0) := (blk_cell HY.out.x.rb 0).trans rfl
  have hf0_ := blk_frozen HY.out.x.rb 0
  have hz0_ : wc.cell? ⟨g17, 0, none⟩ = some (.int .i64 z0) := (blk_cell HY.out.sb 0).trans rfl
  have hq1_ : wc.cell? ⟨g12, 1, none⟩ = some (.int .i64 0) := (blk_cell HY.out.x.rb 1).trans rfl
  have hf1_ := blk_frozen HY.out.x.rb 1
  have hz1_ : wc.cell? ⟨g17, 1, none⟩ = some (.int .i64 z1) := (blk_cell HY.out.sb 1).trans rfl
  have hq2_ : wc.cell? ⟨g12, 2, none⟩ = some (.int .i64 0) := (blk_cell HY.out.x.rb 2).trans rfl
  have hf2_ := blk_frozen HY.out.x.rb 2
  have hz2_ : wc.cell? ⟨g17, 2, none⟩ = some (.int .i64 z2) := (blk_cell HY.out.sb 2).trans rfl
  have hq3_ : wc.cell? ⟨g12, 3, none⟩ = some (.int .i64 0) := (blk_cell HY.out.x.rb 3).trans rfl
  have hf3_ := blk_frozen HY.out.x.rb 3
  have hz3_ : wc.cell? ⟨g17, 3, none⟩ = some (.int .i64 z3) := (blk_cell HY.out.sb 3).trans rfl
  have hq4_ : wc.cell? ⟨g12, 4, none⟩ = some (.int .i64 0) := (blk_cell HY.out.x.rb 4).trans rfl
  have hf4_ := blk_frozen HY.out.x.rb 4
  have hz4_ : wc.cell? ⟨g17, 4, none⟩ = some (.int .i64 z4) := (blk_cell HY.out.sb 4).trans rfl
  have hq5_ : wc.cell? ⟨g12, 5, none⟩ = some (.int .i64 0) := (blk_cell HY.out.x.rb 5).trans rfl
  have hf5_ := blk_frozen HY.out.x.rb 5
  have hz5_ : wc.cell? ⟨g17, 5, none⟩ = some (.int .i64 z5) := (blk_cell HY.out.sb 5).trans rfl
  have hq6_ : wc.cell? ⟨g12, 6, none⟩ = some (.int .i64 0) := (blk_cell HY.out.x.rb 6).trans rfl
  have hf6_ := blk_frozen HY.out.x.rb 6
  have hz6_ : wc.cell? ⟨g17, 6, none⟩ = some (.int .i64 z6) := (blk_cell HY.out.sb 6).trans rfl
  have hq7_ : wc.cell? ⟨g12, 7, none⟩ = some (.int .i64 0) := (blk_cell HY.out.x.rb 7).trans rfl
  have hf7_ := blk_frozen HY.out.x.rb 7
  have hz7_ : wc.cell? ⟨g17, 7, none⟩ = some (.int .i64 z7) := (blk_cell HY.out.sb 7).trans rfl
  have hq8_ : wc.cell? ⟨g12, 8, none⟩ = some (.int .i64 0) := (blk_cell HY.out.x.rb 8).trans rfl
  have hf8_ := blk_frozen HY.out.x.rb 8
  have hz8_ : wc.cell? ⟨g17, 8, none⟩ = some (.int .i64 z8) := (blk_cell HY.out.sb 8).trans rfl
  have hq9_ : wc.cell? ⟨g12, 9, none⟩ = some (.int .i64 0) := (blk_cell HY.out.x.rb 9).trans rfl
  have hf9_ := blk_frozen HY.out.x.rb 9
  have hz9_ : wc.cell? ⟨g17, 9, none⟩ = some (.int .i64 z9) := (blk_cell HY.out.sb 9).trans rfl
  have hq10_ : wc.cell? ⟨g12, 10, none⟩ = some (.int .i64 0) := (blk_cell HY.out.x.rb 10).trans rfl
  have hf10_ := blk_frozen HY.out.x.rb 10
  have hz10_ : wc.cell? ⟨g17, 10, none⟩ = some (.int .i64 z10) := (blk_cell HY.out.sb 10).trans rfl
  have hgl12_ := blk_lt HY.out.x.rb
  go_wp2
  refine bodyPost_ret (results_ct rfl _ _ g12 39 #[.int .i64 z0, .int .i64 z1, .int .i64 z2, .int .i64 z3, .int .i64 z4, .int .i64 z5, .int .i64 z6, .int .i64 z7, .int .i64 z8, .int .i64 z9, .int .i64 z10] (0, 0) _ rfl (by (with_reducible exact Gnx.put11 _ _ _ _ _ _ _ _ _ _ _ _ _ _ _ _ _ _ _ _ _ _ HY.out.x.rb)) Tryd.underlying39 rfl (by kernel_rfl)) rfl ?_
  refine ⟨⟨⟨z0, z1, z2, z3, z4, z5, z6, z7, z8, z9, z10⟩, (r == 0), rfl, fun hb => HSN.out (by simpa using hb), ?_⟩⟩
  with_reducible exact XW.out11 HY.out.x _ _ _ _ _ _ _ _ _ _ _
set_option maxRecDepth 100000 in
set_option maxHeartbeats 60000000 in
theorem say_mk1 (w w1 W : World) (gd : Nat) (L : List Int) (gl : Nat) (A9 : Option Addr) (c9 : Nat) (ch : List S39) (ok : Nat → Prop) (p1 tick : Int) (h : QW w w1 W gd L gl (.slice A9 ch.length c9) ch ok) (hL : L.length ≤ 1000000) (hG : Gd 1 p1 2 ch) (hl : ch.length ≤ 200) (ht : I64 tick)
 (at0 at1 at2 t3 t8 : Int) (h1 : 0 ≤ at1) (h2 : 0 ≤ at2) (hd0 : IsS57 w W gd L at0) (e3 : storagebartermake_Deck_Next.f L at0 3 = some (t3, at1)) (e8 : storagebartermake_Deck_Next.f L at1 8 = some (t8, at2)) (ht3 : 0 ≤ t3) (ht3' : t3 < 3) (hk : t8 = 1) :
 Calls Tryd.prog 43 #[.pointer (some ⟨gd, 0, none⟩), .slice A9 ch.length c9, .slice (some ⟨gl, 0, none⟩) 1 1, .agg #[.int .i64 1, .int .i64 p1], .int .i64 2, .int .i64 tick] W (SayMk w w1 gd L gl (.slice A9 ch.length c9) ch ok p1) := by
 have mixed : (Tryd.prog).follows .mixedOrders = true := by kernel_rfl
 have hu39 := Tryd.underlying39
 have hu25 := Tryd.underlying25
 have hu82 := Tryd.underlying82
 have HD := Aside0.mk h
 have HG := Aside0.mk hG
 have HT := Aside0.mk ht
 have HX1 : Aside0 (XW w w1 ((W.alloc (.cells #[.int .i64 1, .int .i64 p1] 25)).alloc (.cells #[.int .i64 0, .int .i64 0, .int .i64 0, .int .i64 0, .int .i64 0, .int .i64 0, .int .i64 0, .int .i64 0, .int .i64 0, .int .i64 0, .int .i64 0] 39)) gd L gl (.slice A9 ch.length c9) ch ok p1 W.heap.size (W.heap.size + 1)) := ⟨⟨(h.alloc _).alloc _, blk_alloc (heap_alloc_new W _) _, two_new W _ _ _ _, Nat.le_succ_of_le h.kp.1, Kd.R_ne_new h.cr 1⟩⟩
 have HD1 : Aside0 (IsS57 w ((W.alloc (.cells #[.int .i64 1, .int .i64 p1] 25)).alloc (.cells #[.int .i64 0, .int .i64 0, .int .i64 0, .int .i64 0, .int .i64 0, .int .i64 0, .int .i64 0, .int .i64 0, .int .i64 0, .int .i64 0, .int .i64 0] 39)) gd L at0) := ⟨hd0.below (below_alloc (below_alloc (Below.refl _ _) _) _)⟩
 have E3 := Lib.hid e3
 have E8 := Lib.hid e8
 clear h hG ht HD hd0 e3 e8
 go_enter Tryd.func43, Tryd.ntmps43
 go_upto_region 5 with (first | (go_at_call 16; with_reducible refine (XW.turnAt HX1.out HD1.out E3.out h1).mono ?_; rintro e w2 ⟨rfl, hx, hd⟩; have HX := Aside0.mk hx; clear hx HX1 HD1; have HD1 := Aside0.mk hd; clear hd) | (go_at_call 51; with_reducible refine (at_x A9 c9 ch t3 tick _ (Kd.R_reads' HX.out.q.cr).2.2 (Kd.R_reads' HX.out.q.cr).2.1 (by omega) HG.out.w64).mono ?_; rintro e w3 ⟨⟨x0, x1, x2, x3, x4, x5, x6, x7⟩, okl, rfl, hli, hb⟩; have n_ := Aside0.mk (XW.below HX.out hb); have nd_ := Aside0.mk (HD1.out.below hb); clear HX HD1 hb; have HX := n_; have HD1 := nd_; clear n_ nd_; have HLI := Aside0.mk hli; clear hli; (try dsimp only)))
 obtain ⟨g12, hg12⟩ : ∃ g12, W.heap.size + 1 = g12 := ⟨_, rfl⟩
 rw [hg12] at HX ⊢
 clear hg12
 obtain ⟨g9, hg9⟩ : ∃ g9, W.heap.size = g9 := ⟨_, rfl⟩
 rw [hg9] at HX ⊢
 clear hg9
 have HD2 : Aside0 (IsS57 w ((w3.alloc (.cells #[.int .i64 x0, .int .i64 x1, .int .i64 x2, .int .i64 x3, .int .i64 x4, .int .i64 x5, .int .i64 x6, .bool x7] 82)).alloc (.cells #[.int .i64 0, .int .i64 0, .int .i64 0, .int .i64 0, .int .i64 0, .int .i64 0, .int .i64 0, .int .i64 0, .int .i64 0, .int .i64 0, .int .i64 0] 39)) gd L at1) := ⟨HD1.out.below (below_alloc (below_alloc (Below.refl _ _) _) _)⟩
 have HY : Aside0 (YW w w1 ((w3.alloc (.cells #[.int .i64 x0, .int .i64 x1, .int .i64 x2, .int .i64 x3, .int .i64 x4, .int .i64 x5, .int .i64 x6, .bool x7] 82)).alloc (.cells #[.int .i64 0, .int .i64 0, .int .i64 0, .int .i64 0, .int .i64 0, .int .i64 0, .int .i64 0, .int .i64 0, .int .i64 0, .int .i64 0, .int .i64 0] 39)) gd L gl (.slice A9 ch.length c9) ch ok p1 g9 g12 w3.heap.size (w3.heap.size + 1) #[.int .i64 x0, .int .i64 x1, .int .i64 x2, .int .i64 x3, .int .i64 x4, .int .i64 x5, .int .i64 x6, .bool x7] #[.int .i64 0, .int .i64 0, .int .i64 0, .int .i64 0, .int .i64 0, .int .i64 0, .int .i64 0, .int .i64 0, .int .i64 0, .int .i64 0, .int .i64 0]) :=
  ⟨⟨HX.out.below (below_alloc (below_alloc (Below.refl _ _) _) _), blk_alloc (heap_alloc_new w3 _) _, two_new w3 _ _ _ _, Nat.le_succ_of_le HX.out.q.kp.1, Kd.R_ne_new HX.out.q.cr 1, by have := blk_lt HX.out.rb; omega⟩⟩
 obtain ⟨W4, hW4⟩ : ∃ W4, W4 = (w3.alloc (.cells #[.int .i64 x0, .int .i64 x1, .int .i64 x2, .int .i64 x3, .int .i64 x4, .int .i64 x5, .int .i64 x6, .bool x7] 82)).alloc (.cells #[.int .i64 0, .int .i64 0, .int .i64 0, .int .i64 0, .int .i64 0, .int .i64 0, .int .i64 0, .int .i64 0, .int .i64 0, .int .i64 0, .int .i64 0] 39) := ⟨_, rfl⟩
 rw [← hW4] at HY HD2 ⊢
 clear hW4 HX HD1
 obtain ⟨g17, hg17⟩ : ∃ g17, w3.heap.size + 1 = g17 := ⟨_, rfl⟩
 rw [hg17] at HY ⊢
 clear hg17
 obtain ⟨g15, hg15⟩ : ∃ g15, w3.heap.size = g15 := ⟨_, rfl⟩
 rw [hg15] at HY ⊢
 clear hg15
 have hx3i : I64 x3 := HLI.out.h3
 have hx4i : I64 x4 := HLI.out.h4
 have hch : (0 : Int) ≤ ch.length ∧ (ch.length : Int) ≤ 200 := by omega
 go_upto_block 0 with (first | (go_at_call 16; with_reducible refine (YW.turnAt HY.out HD2.out E8.out h2).mono ?_; rintro e w5 ⟨rfl, hy⟩; clear HY HD2; have HY := Aside0.mk hy; clear hy))
 have hcw := HY.out
 have hp0_ : w5.cell? ⟨g9, 0, none⟩ = some (.int .i64 1) := (blk_cell HY.out.x.pb 0).trans rfl
 have hp1_ : w5.cell? ⟨g9, 1, none⟩ = some (.int .i64 p1) := (blk_cell HY.out.x.pb 1).trans rfl
 have hl6_ : w5.cell? ⟨g15, 6, none⟩ = some (.int .i64 x6) := (blk_cell HY.out.lb 6).trans rfl
 have hl3_ : w5.cell? ⟨g15, 3, none⟩ = some (.int .i64 x3) := (blk_cell HY.out.lb 3).trans rfl
 have hl4_ : w5.cell? ⟨g15, 4, none⟩ = some (.int .i64 x4) := (blk_cell HY.out.lb 4).trans rfl
 go_cut [18] (fun s18 wx => ∃ z0 z1 z2 z3 z4 z5 z6 z7 z8 z9 z10 r : Int, s18 = .int .i64 r ∧ Aside0 (r = 0 → Gd 1 p1 2 (ch ++ [⟨z0, z1, z2, z3, z4, z5, z6, z7, z8, z9, z10⟩])) ∧ Aside0 (YW w w1 wx gd L gl (.slice A9 ch.length c9) ch ok p1 g9 g12 g15 g17 #[.int .i64 x0, .int .i64 x1, .int .i64 x2, .int .i64 x3, .int .i64 x4, .int .i64 x5, .int .i64 x6, .bool x7] #[.int .i64 z0, .int .i64 z1, .int .i64 z2, .int .i64 z3, .int .i64 z4, .int .i64 z5, .int .i64 z6, .int .i64 z7, .int .i64 z8, .int .i64 z9, .int .i64 z10]))
 case first =>
  have NOSAY : Aside0 (∀ s : S39, (2 : Int) = 0 → Gd 1 p1 2 (ch ++ [s])) := ⟨fun s h => absurd h (by decide)⟩
  subst hk
  go_upto_region 10 with (first | (go_at_call 52; with_reducible refine (YW.free hcw HG.out hl (tick := tick)).mono ?_; rintro e w6 ⟨fn, fb, hfn, rfl, hy⟩; clear HY hcw; have HY := Aside0.mk hy; have hcw := hy; clear hy))
  cases fb
  ·go_wp2
   go_meet
   exact ⟨0, 0, 0, 0, 0, 0, 0, 0, 0, 0, 0, 2, rfl, ⟨NOSAY.out _⟩, HY⟩
  ·have hp0_ : w6.cell? ⟨g9, 0, none⟩ = some (.int .i64 1) := (blk_cell HY.out.x.pb 0).trans rfl
   have hp1_ : w6.cell? ⟨g9, 1, none⟩ = some (.int .i64 p1) := (blk_cell HY.out.x.pb 1).trans rfl
   have hl6_ : w6.cell? ⟨g15, 6, none⟩ = some (.int .i64 x6) := (blk_cell HY.out.lb 6).trans rfl
   have hl3_ : w6.cell? ⟨g15, 3, none⟩ = some (.int .i64 x3) := (blk_cell HY.out.lb 3).trans rfl
   have hl4_ : w6.cell? ⟨g15, 4, none⟩ = some (.int .i64 x4) := (blk_cell HY.out.lb 4).trans rfl
   go_upto_region 11 with fail
   go_region_with (first | (go_at_call 16; with_reducible refine (YW.turn (YW.drew hcw) hL 100 (by decide)).mono ?_; rintro e w' ⟨ta, rfl, hta, hta', hcw⟩; have hp0_ : w'.cell? ⟨g9, 0, none⟩ = some (.int .i64 1) := (blk_cell hcw.x.pb 0).trans rfl; have hp1_ : w'.cell? ⟨g9, 1, none⟩ = some (.int .i64 p1) := (blk_cell hcw.x.pb 1).trans rfl; have hl6_ : w'.cell? ⟨g15, 6, none⟩ = some (.int .i64 x6) := (blk_cell hcw.lb 6).trans rfl) | (go_at_call 16; with_reducible refine (YW.turn hcw hL 100 (by decide)).mono ?_; rintro e w' ⟨ta, rfl, hta, hta', hcw⟩; have hp0_ : w'.cell? ⟨g9, 0, none⟩ = some (.int .i64 1) := (blk_cell hcw.x.pb 0).trans rfl; have hp1_ : w'.cell? ⟨g9, 1, none⟩ = some (.int .i64 p1) := (blk_cell hcw.x.pb 1).trans rfl; have hl6_ : w'.cell? ⟨g15, 6, none⟩ = some (.int .i64 x6) := (blk_cell hcw.lb 6).trans rfl) | (go_at_call 16; with_reducible refine (YW.turn (YW.drew hcw) hL 900 (by decide)).mono ?_; rintro e w' ⟨tb, rfl, htb, htb', hcw⟩; have hp0_ : w'.cell? ⟨g9, 0, none⟩ = some (.int .i64 1) := (blk_cell hcw.x.pb 0).trans rfl; have hp1_ : w'.cell? ⟨g9, 1, none⟩ = some (.int .i64 p1) := (blk_cell hcw.x.pb 1).trans rfl; have hl6_ : w'.cell? ⟨g15, 6, none⟩ = some (.int .i64 x6) := (blk_cell hcw.lb 6).trans rfl) | (go_at_call 16; with_reducible refine (YW.turn hcw hL 900 (by decide)).mono ?_; rintro e w' ⟨tb, rfl, htb, htb', hcw⟩; have hp0_ : w'.cell? ⟨g9, 0, none⟩ = some (.int .i64 1) := (blk_cell hcw.x.pb 0).trans rfl; have hp1_ : w'.cell? ⟨g9, 1, none⟩ = some (.int .i64 p1) := (blk_cell hcw.x.pb 1).trans rfl; have hl6_ : w'.cell? ⟨g15, 6, none⟩ = some (.int .i64 x6) := (blk_cell hcw.lb 6).trans rfl) | (go_at_call 16; with_reducible refine (YW.turn (YW.drew hcw) hL 9 (by decide)).mono ?_; rintro e w' ⟨tc, rfl, htc, htc', hcw⟩; have hp0_ : w'.cell? ⟨g9, 0, none⟩ = some (.int .i64 1) := (blk_cell hcw.x.pb 0).trans rfl; have hp1_ : w'.cell? ⟨g9, 1, none⟩ = some (.int .i64 p1) := (blk_cell hcw.x.pb 1).trans rfl; have hl6_ : w'.cell? ⟨g15, 6, none⟩ = some (.int .i64 x6) := (blk_cell hcw.lb 6).trans rfl) | (go_at_call 16; with_reducible refine (YW.turn hcw hL 9 (by decide)).mono ?_; rintro e w' ⟨tc, rfl, htc, htc', hcw⟩; have hp0_ : w'.cell? ⟨g9, 0, none⟩ = some (.int .i64 1) := (blk_cell hcw.x.pb 0).trans rfl; have hp1_ : w'.cell? ⟨g9, 1, none⟩ = some (.int .i64 p1) := (blk_cell hcw.x.pb 1).trans rfl; have hl6_ : w'.cell? ⟨g15, 6, none⟩ = some (.int .i64 x6) := (blk_cell hcw.lb 6).trans rfl) | (go_at_call 15; (try go_split_ands); go_loud (with_reducible refine (YW.rn hcw HG.out HT.out (by first | (with_reducible exact I64w _) | (with_reducible assumption) | (unfold I64; omega)) (by first | (with_reducible exact I64w _) | (with_reducible assumption) | (unfold I64; omega)) (by first | (with_reducible exact I64w _) | (with_reducible assumption) | (unfold I64; omega)) (by first | (with_reducible exact I64w _) | (with_reducible assumption) | (unfold I64; omega)) (by first | (with_reducible exact I64w _) | (with_reducible assumption) | (unfold I64; omega))).mono ?_); rintro e w' ⟨s, r1, hs, rfl, hcn⟩; have HSN := Aside0.mk hs; have HCN := Aside0.mk hcn; clear hs hcn; have hz0_ : w'.cell? ⟨g17, 0, none⟩ = some (.int .i64 0) := (blk_cell HCN.out.sb 0).trans rfl; have hf0_ := blk_frozen HCN.out.sb 0; have hz1_ : w'.cell? ⟨g17, 1, none⟩ = some (.int .i64 0) := (blk_cell HCN.out.sb 1).trans rfl; have hf1_ := blk_frozen HCN.out.sb 1; have hz2_ : w'.cell? ⟨g17, 2, none⟩ = some (.int .i64 0) := (blk_cell HCN.out.sb 2).trans rfl; have hf2_ := blk_frozen HCN.out.sb 2; have hz3_ : w'.cell? ⟨g17, 3, none⟩ = some (.int .i64 0) := (blk_cell HCN.out.sb 3).trans rfl; have hf3_ := blk_frozen HCN.out.sb 3; have hz4_ : w'.cell? ⟨g17, 4, none⟩ = some (.int .i64 0) := (blk_cell HCN.out.sb 4).trans rfl; have hf4_ := blk_frozen HCN.out.sb 4; have hz5_ : w'.cell? ⟨g17, 5, none⟩ = some (.int .i64 0) := (blk_cell HCN.out.sb 5).trans rfl; have hf5_ := blk_frozen HCN.out.sb 5; have hz6_ : w'.cell? ⟨g17, 6, none⟩ = some (.int .i64 0) := (blk_cell HCN.out.sb 6).trans rfl; have hf6_ := blk_frozen HCN.out.sb 6; have hz7_ : w'.cell? ⟨g17, 7, none⟩ = some (.int .i64 0) := (blk_cell HCN.out.sb 7).trans rfl; have hf7_ := blk_frozen HCN.out.sb 7; have hz8_ : w'.cell? ⟨g17, 8, none⟩ = some (.int .i64 0) := (blk_cell HCN.out.sb 8).trans rfl; have hf8_ := blk_frozen HCN.out.sb 8; have hz9_ : w'.cell? ⟨g17, 9, none⟩ = some (.int .i64 0) := (blk_cell HCN.out.sb 9).trans rfl; have hf9_ := blk_frozen HCN.out.sb 9; have hz10_ : w'.cell? ⟨g17, 10, none⟩ = some (.int .i64 0) := (blk_cell HCN.out.sb 10).trans rfl; have hf10_ := blk_frozen HCN.out.sb 10; have hzl_ := blk_lt HCN.out.sb; obtain ⟨s0, s1, s2, s3, s4, s5, s6, s7, s8, s9, s10⟩ := s; (try dsimp only)))
   all_goals (go_wp2_with fail)
   all_goals go_meet
   all_goals (with_reducible exact ⟨s0, s1, s2, s3, s4, s5, s6, s7, s8, s9, s10, r1, rfl, HSN, ⟨YW.put11 HCN.out _ _ _ _ _ _ _ _ _ _ _⟩⟩)
 case rest =>
  clear hcw HY hp0_ hp1_ hl6_ hl3_ hl4_
  obtain ⟨z0, z1, z2, z3, z4, z5, z6, z7, z8, z9, z10, r, rfl, HSN, HY⟩ := hcut
  have hq0_ : wc.cell? ⟨g12, 0, none⟩ = some (.int .i64 0) := (blk_cell HY.out.x.rb 0).trans rfl
  have hf0_ := blk_frozen HY.out.x.rb 0
  have hz0_ : wc.cell? ⟨g17, 0, none⟩ = some (.int .i64 z0) := (blk_cell HY.out.sb 0).trans rfl
  have hq1_ : wc.cell? ⟨g12, 1, none⟩ = some (.int .i64 0) := (blk_cell HY.out.x.rb 1).trans rfl
  have hf1_ := blk_frozen HY.out.x.rb 1
  have hz1_ : wc.cell? ⟨g17, 1, none⟩ = some (.int .i64 z1) := (blk_cell HY.out.sb 1).trans rfl
  have hq2_ : wc.cell? ⟨g12, 2, none⟩ = some (.int .i64 0) := (blk_cell HY.out.x.rb 2).trans rfl
  have hf2_ := blk_frozen HY.out.x.rb 2
  have hz2_ : wc.cell? ⟨g17, 2, none⟩ = some (.int .i64 z2) := (blk_cell HY.out.sb 2).trans rfl
  have hq3_ : wc.cell? ⟨g12, 3, none⟩ = some (.int .i64 0) := (blk_cell HY.out.x.rb 3).trans rfl
  have hf3_ := blk_frozen HY.out.x.rb 3
  have hz3_ : wc.cell? ⟨g17, 3, none⟩ = some (.int .i64 z3) := (blk_cell HY.out.sb 3).trans rfl
  have hq4_ : wc.cell? ⟨g12, 4, none⟩ = some (.int .i64 0) := (blk_cell HY.out.x.rb 4).trans rfl
  have hf4_ := blk_frozen HY.out.x.rb 4
  have hz4_ : wc.cell? ⟨g17, 4, none⟩ = some (.int .i64 z4) := (blk_cell HY.out.sb 4).trans rfl
  have hq5_ : wc.cell? ⟨g12, 5, none⟩ = some (.int .i64 0) := (blk_cell HY.out.x.rb 5).trans rfl
  have hf5_ := blk_frozen HY.out.x.rb 5
  have hz5_ : wc.cell? ⟨g17, 5, none⟩ = some (.int .i64 z5) := (blk_cell HY.out.sb 5).trans rfl
  have hq6_ : wc.cell? ⟨g12, 6, none⟩ = some (.int .i64 0) := (blk_cell HY.out.x.rb 6).trans rfl
  have hf6_ := blk_frozen HY.out.x.rb 6
  have hz6_ : wc.cell? ⟨g17, 6, none⟩ = some (.int .i64 z6) := (blk_cell HY.out.sb 6).trans rfl
  have hq7_ : wc.cell? ⟨g12, 7, none⟩ = some (.int .i64 0) := (blk_cell HY.out.x.rb 7).trans rfl
  have hf7_ := blk_frozen HY.out.x.rb 7
  have hz7_ : wc.cell? ⟨g17, 7, none⟩ = some (.int .i64 z7) := (blk_cell HY.out.sb 7).trans rfl
  have hq8_ : wc.cell? ⟨g12, 8, none⟩ = some (.int .i64 0) := (blk_cell HY.out.x.rb 8).trans rfl
  have hf8_ := blk_frozen HY.out.x.rb 8
  have hz8_ : wc.cell? ⟨g17, 8, none⟩ = some (.int .i64 z8) := (blk_cell HY.out.sb 8).trans rfl
  have hq9_ : wc.cell? ⟨g12, 9, none⟩ = some (.int .i64 0) := (blk_cell HY.out.x.rb 9).trans rfl
  have hf9_ := blk_frozen HY.out.x.rb 9
  have hz9_ : wc.cell? ⟨g17, 9, none⟩ = some (.int .i64 z9) := (blk_cell HY.out.sb 9).trans rfl
  have hq10_ : wc.cell? ⟨g12, 10, none⟩ = some (.int .i64 0) := (blk_cell HY.out.x.rb 10).trans rfl
  have hf10_ := blk_frozen HY.out.x.rb 10
  have hz10_ : wc.cell? ⟨g17, 10, none⟩ = some (.int .i64 z10) := (blk_cell HY.out.sb 10).trans rfl
  have hgl12_ := blk_lt HY.out.x.rb
  go_wp2
  refine bodyPost_ret (results_ct rfl _ _ g12 39 #[.int .i64 z0, .int .i64 z1, .int .i64 z2, .int .i64 z3, .int .i64 z4, .int .i64 z5, .int .i64 z6, .int .i64 z7, .int .i64 z8, .int .i64 z9, .int .i64 z10] (0, 0) _ rfl (by (with_reducible exact Gnx.put11 _ _ _ _ _ _ _ _ _ _ _ _ _ _ _ _ _ _ _ _ _ _ HY.out.x.rb)) Tryd.underlying39 rfl (by kernel_rfl)) rfl ?_
  refine ⟨⟨⟨z0, z1, z2, z3, z4, z5, z6, z7, z8, z9, z10⟩, (r == 0), rfl, fun hb => HSN.out (by simpa using hb), ?_⟩⟩
  with_reducible exact XW.out11 HY.out.x _ _ _ _ _ _ _ _ _ _ _
set_option maxRecDepth 100000 in
set_option maxHeartbeats 60000000 in
theorem say_mk2 (w w1 W : World) (gd : Nat) (L : List Int) (gl : Nat) (A9 : Option Addr) (c9 : Nat) (ch : List S39) (ok : Nat → Prop) (p1 tick : Int) (h : QW w w1 W gd L gl (.slice A9 ch.length c9) ch ok) (hL : L.length ≤ 1000000) (hG : Gd 1 p1 2 ch) (hl : ch.length ≤ 200) (ht : I64 tick)
 (at0 at1 at2 t3 t8 : Int) (h1 : 0 ≤ at1) (h2 : 0 ≤ at2) (hd0 : IsS57 w W gd L at0) (e3 : storagebartermake_Deck_Next.f L at0 3 = some (t3, at1)) (e8 : storagebartermake_Deck_Next.f L at1 8 = some (t8, at2)) (ht3 : 0 ≤ t3) (ht3' : t3 < 3) (hk : t8 = 2) :
 Calls Tryd.prog 43 #[.pointer (some ⟨gd, 0, none⟩), .slice A9 ch.length c9, .slice (some ⟨gl, 0, none⟩) 1 1, .agg #[.int .i64 1, .int .i64 p1], .int .i64 2, .int .i64 tick] W (SayMk w w1 gd L gl (.slice A9 ch.length c9) ch ok p1) := by
 have mixed : (Tryd.prog).follows .mixedOrders = true := by kernel_rfl
 have hu39 := Tryd.underlying39
 have hu25 := Tryd.underlying25
 have hu82 := Tryd.underlying82
 have HD := Aside0.mk h
 have HG := Aside0.mk hG
 have HT := Aside0.mk ht
 have HX1 : Aside0 (XW w w1 ((W.alloc (.cells #[.int .i64 1, .int .i64 p1] 25)).alloc (.cells #[.int .i64 0, .int .i64 0, .int .i64 0, .int .i64 0, .int .i64 0, .int .i64 0, .int .i64 0, .int .i64 0, .int .i64 0, .int .i64 0, .int .i64 0] 39)) gd L gl (.slice A9 ch.length c9) ch ok p1 W.heap.size (W.heap.size + 1)) := ⟨⟨(h.alloc _).alloc _, blk_alloc (heap_alloc_new W _) _, two_new W _ _ _ _, Nat.le_succ_of_le h.kp.1, Kd.R_ne_new h.cr 1⟩⟩
 have HD1 : Aside0 (IsS57 w ((W.alloc (.cells #[.int .i64 1, .int .i64 p1] 25)).alloc (.cells #[.int .i64 0, .int .i64 0, .int .i64 0, .int .i64 0, .int .i64 0, .int .i64 0, .int .i64 0, .int .i64 0, .int .i64 0, .int .i64 0, .int .i64 0] 39)) gd L at0) := ⟨hd0.below (below_alloc (below_alloc (Below.refl _ _) _) _)⟩
 have E3 := Lib.hid e3
 have E8 := Lib.hid e8
 clear h hG ht HD hd0 e3 e8
 go_enter Tryd.func43, Tryd.ntmps43
 go_upto_region 5 with (first | (go_at_call 16; with_reducible refine (XW.turnAt HX1.out HD1.out E3.out h1).mono ?_; rintro e w2 ⟨rfl, hx, hd⟩; have HX := Aside0.mk hx; clear hx HX1 HD1; have HD1 := Aside0.mk hd; clear hd) | (go_at_call 51; with_reducible refine (at_x A9 c9 ch t3 tick _ (Kd.R_reads' HX.out.q.cr).2.2 (Kd.R_reads' HX.out.q.cr).2.1 (by omega) HG.out.w64).mono ?_; rintro e w3 ⟨⟨x0, x1, x2, x3, x4, x5, x6, x7⟩, okl, rfl, hli, hb⟩; have n_ := Aside0.mk (XW.below HX.out hb); have nd_ := Aside0.mk (HD1.out.below hb); clear HX HD1 hb; have HX := n_; have HD1 := nd_; clear n_ nd_; have HLI := Aside0.mk hli; clear hli; (try dsimp only)))
 obtain ⟨g12, hg12⟩ : ∃ g12, W.heap.size + 1 = g12 := ⟨_, rfl⟩
 rw [hg12] at HX ⊢
 clear hg12
 obtain ⟨g9, hg9⟩ : ∃ g9, W.heap.size = g9 := ⟨_, rfl⟩
 rw [hg9] at HX ⊢
 clear hg9
 have HD2 : Aside0 (IsS57 w ((w3.alloc (.cells #[.int .i64 x0, .int .i64 x1, .int .i64 x2, .int .i64 x3, .int .i64 x4, .int .i64 x5, .int .i64 x6, .bool x7] 82)).alloc (.cells #[.int .i64 0, .int .i64 0, .int .i64 0, .int .i64 0, .int .i64 0, .int .i64 0, .int .i64 0, .int .i64 0, .int .i64 0, .int .i64 0, .int .i64 0] 39)) gd L at1) := ⟨HD1.out.below (below_alloc (below_alloc (Below.refl _ _) _) _)⟩
 have HY : Aside0 (YW w w1 ((w3.alloc (.cells #[.int .i64 x0, .int .i64 x1, .int .i64 x2, .int .i64 x3, .int .i64 x4, .int .i64 x5, .int .i64 x6, .bool x7] 82)).alloc (.cells #[.int .i64 0, .int .i64 0, .int .i64 0, .int .i64 0, .int .i64 0, .int .i64 0, .int .i64 0, .int .i64 0, .int .i64 0, .int .i64 0, .int .i64 0] 39)) gd L gl (.slice A9 ch.length c9) ch ok p1 g9 g12 w3.heap.size (w3.heap.size + 1) #[.int .i64 x0, .int .i64 x1, .int .i64 x2, .int .i64 x3, .int .i64 x4, .int .i64 x5, .int .i64 x6, .bool x7] #[.int .i64 0, .int .i64 0, .int .i64 0, .int .i64 0, .int .i64 0, .int .i64 0, .int .i64 0, .int .i64 0, .int .i64 0, .int .i64 0, .int .i64 0]) :=
  ⟨⟨HX.out.below (below_alloc (below_alloc (Below.refl _ _) _) _), blk_alloc (heap_alloc_new w3 _) _, two_new w3 _ _ _ _, Nat.le_succ_of_le HX.out.q.kp.1, Kd.R_ne_new HX.out.q.cr 1, by have := blk_lt HX.out.rb; omega⟩⟩
 obtain ⟨W4, hW4⟩ : ∃ W4, W4 = (w3.alloc (.cells #[.int .i64 x0, .int .i64 x1, .int .i64 x2, .int .i64 x3, .int .i64 x4, .int .i64 x5, .int .i64 x6, .bool x7] 82)).alloc (.cells #[.int .i64 0, .int .i64 0, .int .i64 0, .int .i64 0, .int .i64 0, .int .i64 0, .int .i64 0, .int .i64 0, .int .i64 0, .int .i64 0, .int .i64 0] 39) := ⟨_, rfl⟩
 rw [← hW4] at HY HD2 ⊢
 clear hW4 HX HD1
 obtain ⟨g17, hg17⟩ : ∃ g17, w3.heap.size + 1 = g17 := ⟨_, rfl⟩
 rw [hg17] at HY ⊢
 clear hg17
 obtain ⟨g15, hg15⟩ : ∃ g15, w3.heap.size = g15 := ⟨_, rfl⟩
 rw [hg15] at HY ⊢
 clear hg15
 have hx3i : I64 x3 := HLI.out.h3
 have hx4i : I64 x4 := HLI.out.h4
 have hch : (0 : Int) ≤ ch.length ∧ (ch.length : Int) ≤ 200 := by omega
 go_upto_block 0 with (first | (go_at_call 16; with_reducible refine (YW.turnAt HY.out HD2.out E8.out h2).mono ?_; rintro e w5 ⟨rfl, hy⟩; clear HY HD2; have HY := Aside0.mk hy; clear hy))
 have hcw := HY.out
 have hp0_ : w5.cell? ⟨g9, 0, none⟩ = some (.int .i64 1) := (blk_cell HY.out.x.pb 0).trans rfl
 have hp1_ : w5.cell? ⟨g9, 1, none⟩ = some (.int .i64 p1) := (blk_cell HY.out.x.pb 1).trans rfl
 have hl6_ : w5.cell? ⟨g15, 6, none⟩ = some (.int .i64 x6) := (blk_cell HY.out.lb 6).trans rfl
 have hl3_ : w5.cell? ⟨g15, 3, none⟩ = some (.int .i64 x3) := (blk_cell HY.out.lb 3).trans rfl
 have hl4_ : w5.cell? ⟨g15, 4, none⟩ = some (.int .i64 x4) := (blk_cell HY.out.lb 4).trans rfl
 go_cut [18] (fun s18 wx => ∃ z0 z1 z2 z3 z4 z5 z6 z7 z8 z9 z10 r : Int, s18 = .int .i64 r ∧ Aside0 (r = 0 → Gd 1 p1 2 (ch ++ [⟨z0, z1, z2, z3, z4, z5, z6, z7, z8, z9, z10⟩])) ∧ Aside0 (YW w w1 wx gd L gl (.slice A9 ch.length c9) ch ok p1 g9 g12 g15 g17 #[.int .i64 x0, .int .i64 x1, .int .i64 x2, .int .i64 x3, .int .i64 x4, .int .i64 x5, .int .i64 x6, .bool x7] #[.int .i64 z0, .int .i64 z1, .int .i64 z2, .int .i64 z3, .int .i64 z4, .int .i64 z5, .int .i64 z6, .int .i64 z7, .int .i64 z8, .int .i64 z9, .int .i64 z10]))
 case first =>
  have NOSAY : Aside0 (∀ s : S39, (2 : Int) = 0 → Gd 1 p1 2 (ch ++ [s])) := ⟨fun s h => absurd h (by decide)⟩
  subst hk
  cases okl
  ·go_wp2
   go_meet
   exact ⟨0, 0, 0, 0, 0, 0, 0, 0, 0, 0, 0, 2, rfl, ⟨NOSAY.out _⟩, HY⟩
  ·go_wp2_with (first | (go_at_call 15; (try go_split_ands); go_loud (with_reducible refine (YW.rn hcw HG.out HT.out (by first | (with_reducible exact I64w _) | (with_reducible assumption) | (unfold I64; omega)) (by first | (with_reducible exact I64w _) | (with_reducible assumption) | (unfold I64; omega)) (by first | (with_reducible exact I64w _) | (with_reducible assumption) | (unfold I64; omega)) (by first | (with_reducible exact I64w _) | (with_reducible assumption) | (unfold I64; omega)) (by first | (with_reducible exact I64w _) | (with_reducible assumption) | (unfold I64; omega))).mono ?_); rintro e w' ⟨s, r1, hs, rfl, hcn⟩; have HSN := Aside0.mk hs; have HCN := Aside0.mk hcn; clear hs hcn; have hz0_ : w'.cell? ⟨g17, 0, none⟩ = some (.int .i64 0) := (blk_cell HCN.out.sb 0).trans rfl; have hf0_ := blk_frozen HCN.out.sb 0; have hz1_ : w'.cell? ⟨g17, 1, none⟩ = some (.int .i64 0) := (blk_cell HCN.out.sb 1).trans rfl; have hf1_ := blk_frozen HCN.out.sb 1; have hz2_ : w'.cell? ⟨g17, 2, none⟩ = some (.int .i64 0) := (blk_cell HCN.out.sb 2).trans rfl; have hf2_ := blk_frozen HCN.out.sb 2; have hz3_ : w'.cell? ⟨g17, 3, none⟩ = some (.int .i64 0) := (blk_cell HCN.out.sb 3).trans rfl; have hf3_ := blk_frozen HCN.out.sb 3; have hz4_ : w'.cell? ⟨g17, 4, none⟩ = some (.int .i64 0) := (blk_cell HCN.out.sb 4).trans rfl; have hf4_ := blk_frozen HCN.out.sb 4; have hz5_ : w'.cell? ⟨g17, 5, none⟩ = some (.int .i64 0) := (blk_cell HCN.out.sb 5).trans rfl; have hf5_ := blk_frozen HCN.out.sb 5; have hz6_ : w'.cell? ⟨g17, 6, none⟩ = some (.int .i64 0) := (blk_cell HCN.out.sb 6).trans rfl; have hf6_ := blk_frozen HCN.out.sb 6; have hz7_ : w'.cell? ⟨g17, 7, none⟩ = some (.int .i64 0) := (blk_cell HCN.out.sb 7).trans rfl; have hf7_ := blk_frozen HCN.out.sb 7; have hz8_ : w'.cell? ⟨g17, 8, none⟩ = some (.int .i64 0) := (blk_cell HCN.out.sb 8).trans rfl; have hf8_ := blk_frozen HCN.out.sb 8; have hz9_ : w'.cell? ⟨g17, 9, none⟩ = some (.int .i64 0) := (blk_cell HCN.out.sb 9).trans rfl; have hf9_ := blk_frozen HCN.out.sb 9; have hz10_ : w'.cell? ⟨g17, 10, none⟩ = some (.int .i64 0) := (blk_cell HCN.out.sb 10).trans rfl; have hf10_ := blk_frozen HCN.out.sb 10; have hzl_ := blk_lt HCN.out.sb; obtain ⟨s0, s1, s2, s3, s4, s5, s6, s7, s8, s9, s10⟩ := s; (try dsimp only)))
   go_meet
   exact ⟨s0, s1, s2, s3, s4, s5, s6, s7, s8, s9, s10, r1, rfl, HSN, ⟨YW.put11 HCN.out _ _ _ _ _ _ _ _ _ _ _⟩⟩
 case rest =>
  clear hcw HY hp0_ hp1_ hl6_ hl3_ hl4_
  obtain ⟨z0, z1, z2, z3, z4, z5, z6, z7, z8, z9, z10, r, rfl, HSN, HY⟩ := hcut
  have hq0_ : wc.cell? ⟨g12, 0, none⟩ = some (.int .i64 0) := (blk_cell HY.out.x.rb 0).trans rfl
  have hf0_ := blk_frozen HY.out.x.rb 0
  have hz0_ : wc.cell? ⟨g17, 0, none⟩ = some (.int .i64 z0) := (blk_cell HY.out.sb 0).trans rfl
  have hq1_ : wc.cell? ⟨g12, 1, none⟩ = some (.int .i64 0) := (blk_cell HY.out.x.rb 1).trans rfl
  have hf1_ := blk_frozen HY.out.x.rb 1
  have hz1_ : wc.cell? ⟨g17, 1, none⟩ = some (.int .i64 z1) := (blk_cell HY.out.sb 1).trans rfl
  have hq2_ : wc.cell? ⟨g12, 2, none⟩ = some (.int .i64 0) := (blk_cell HY.out.x.rb 2).trans rfl
  have hf2_ := blk_frozen HY.out.x.rb 2
  have hz2_ : wc.cell? ⟨g17, 2, none⟩ = some (.int .i64 z2) := (blk_cell HY.out.sb 2).trans rfl
  have hq3_ : wc.cell? ⟨g12, 3, none⟩ = some (.int .i64 0) := (blk_cell HY.out.x.rb 3).trans rfl
  have hf3_ := blk_frozen HY.out.x.rb 3
  have hz3_ : wc.cell? ⟨g17, 3, none⟩ = some (.int .i64 z3) := (blk_cell HY.out.sb 3).trans rfl
  have hq4_ : wc.cell? ⟨g12, 4, none⟩ = some (.int .i64 0) := (blk_cell HY.out.x.rb 4).trans rfl
  have hf4_ := blk_frozen HY.out.x.rb 4
  have hz4_ : wc.cell? ⟨g17, 4, none⟩ = some (.int .i64 z4) := (blk_cell HY.out.sb 4).trans rfl
  have hq5_ : wc.cell? ⟨g12, 5, none⟩ = some (.int .i64 0) := (blk_cell HY.out.x.rb 5).trans rfl
  have hf5_ := blk_frozen HY.out.x.rb 5
  have hz5_ : wc.cell? ⟨g17, 5, none⟩ = some (.int .i64 z5) := (blk_cell HY.out.sb 5).trans rfl
  have hq6_ : wc.cell? ⟨g12, 6, none⟩ = some (.int .i64 0) := (blk_cell HY.out.x.rb 6).trans rfl
  have hf6_ := blk_frozen HY.out.x.rb 6
  have hz6_ : wc.cell? ⟨g17, 6, none⟩ = some (.int .i64 z6) := (blk_cell HY.out.sb 6).trans rfl
  have hq7_ : wc.cell? ⟨g12, 7, none⟩ = some (.int .i64 0) := (blk_cell HY.out.x.rb 7).trans rfl
  have hf7_ := blk_frozen HY.out.x.rb 7
  have hz7_ : wc.cell? ⟨g17, 7, none⟩ = some (.int .i64 z7) := (blk_cell HY.out.sb 7).trans rfl
  have hq8_ : wc.cell? ⟨g12, 8, none⟩ = some (.int .i64 0) := (blk_cell HY.out.x.rb 8).trans rfl
  have hf8_ := blk_frozen HY.out.x.rb 8
  have hz8_ : wc.cell? ⟨g17, 8, none⟩ = some (.int .i64 z8) := (blk_cell HY.out.sb 8).trans rfl
  have hq9_ : wc.cell? ⟨g12, 9, none⟩ = some (.int .i64 0) := (blk_cell HY.out.x.rb 9).trans rfl
  have hf9_ := blk_frozen HY.out.x.rb 9
  have hz9_ : wc.cell? ⟨g17, 9, none⟩ = some (.int .i64 z9) := (blk_cell HY.out.sb 9).trans rfl
  have hq10_ : wc.cell? ⟨g12, 10, none⟩ = some (.int .i64 0) := (blk_cell HY.out.x.rb 10).trans rfl
  have hf10_ := blk_frozen HY.out.x.rb 10
  have hz10_ : wc.cell? ⟨g17, 10, none⟩ = some (.int .i64 z10) := (blk_cell HY.out.sb 10).trans rfl
  have hgl12_ := blk_lt HY.out.x.rb
  go_wp2
  refine bodyPost_ret (results_ct rfl _ _ g12 39 #[.int .i64 z0, .int .i64 z1, .int .i64 z2, .int .i64 z3, .int .i64 z4, .int .i64 z5, .int .i64 z6, .int .i64 z7, .int .i64 z8, .int .i64 z9, .int .i64 z10] (0, 0) _ rfl (by (with_reducible exact Gnx.put11 _ _ _ _ _ _ _ _ _ _ _ _ _ _ _ _ _ _ _ _ _ _ HY.out.x.rb)) Tryd.underlying39 rfl (by kernel_rfl)) rfl ?_
  refine ⟨⟨⟨z0, z1, z2, z3, z4, z5, z6, z7, z8, z9, z10⟩, (r == 0), rfl, fun hb => HSN.out (by simpa using hb), ?_⟩⟩
  with_reducible exact XW.out11 HY.out.x _ _ _ _ _ _ _ _ _ _ _
set_option maxRecDepth 100000 in
set_option maxHeartbeats 60000000 in
theorem say_mk4 (w w1 W : World) (gd : Nat) (L : List Int) (gl : Nat) (A9 : Option Addr) (c9 : Nat) (ch : List S39) (ok : Nat → Prop) (p1 tick : Int) (h : QW w w1 W gd L gl (.slice A9 ch.length c9) ch ok) (hL : L.length ≤ 1000000) (hG : Gd 1 p1 2 ch) (hl : ch.length ≤ 200) (ht : I64 tick)
 (at0 at1 at2 t3 t8 : Int) (h1 : 0 ≤ at1) (h2 : 0 ≤ at2) (hd0 : IsS57 w W gd L at0) (e3 : storagebartermake_Deck_Next.f L at0 3 = some (t3, at1)) (e8 : storagebartermake_Deck_Next.f L at1 8 = some (t8, at2)) (ht3 : 0 ≤ t3) (ht3' : t3 < 3) (hk : t8 = 4) :
 Calls Tryd.prog 43 #[.pointer (some ⟨gd, 0, none⟩), .slice A9 ch.length c9, .slice (some ⟨gl, 0, none⟩) 1 1, .agg #[.int .i64 1, .int .i64 p1], .int .i64 2, .int .i64 tick] W (SayMk w w1 gd L gl (.slice A9 ch.length c9) ch ok p1) := by
 have mixed : (Tryd.prog).follows .mixedOrders = true := by kernel_rfl
 have hu39 := Tryd.underlying39
 have hu25 := Tryd.underlying25
 have hu82 := Tryd.underlying82
 have HD := Aside0.mk h
 have HG := Aside0.mk hG
 have HT := Aside0.mk ht
 have HX1 : Aside0 (XW w w1 ((W.alloc (.cells #[.int .i64 1, .int .i64 p1] 25)).alloc (.cells #[.int .i64 0, .int .i64 0, .int .i64 0, .int .i64 0, .int .i64 0, .int .i64 0, .int .i64 0, .int .i64 0, .int .i64 0, .int .i64 0, .int .i64 0] 39)) gd L gl (.slice A9 ch.length c9) ch ok p1 W.heap.size (W.heap.size + 1)) := ⟨⟨(h.alloc _).alloc _, blk_alloc (heap_alloc_new W _) _, two_new W _ _ _ _, Nat.le_succ_of_le h.kp.1, Kd.R_ne_new h.cr 1⟩⟩
 have HD1 : Aside0 (IsS57 w ((W.alloc (.cells #[.int .i64 1, .int .i64 p1] 25)).alloc (.cells #[.int .i64 0, .int .i64 0, .int .i64 0, .int .i64 0, .int .i64 0, .int .i64 0, .int .i64 0, .int .i64 0, .int .i64 0, .int .i64 0, .int .i64 0] 39)) gd L at0) := ⟨hd0.below (below_alloc (below_alloc (Below.refl _ _) _) _)⟩
 have E3 := Lib.hid e3
 have E8 := Lib.hid e8
 clear h hG ht HD hd0 e3 e8
 go_enter Tryd.func43, Tryd.ntmps43
 go_upto_region 5 with (first | (go_at_call 16; with_reducible refine (XW.turnAt HX1.out HD1.out E3.out h1).mono ?_; rintro e w2 ⟨rfl, hx, hd⟩; have HX := Aside0.mk hx; clear hx HX1 HD1; have HD1 := Aside0.mk hd; clear hd) | (go_at_call 51; with_reducible refine (at_x A9 c9 ch t3 tick _ (Kd.R_reads' HX.out.q.cr).2.2 (Kd.R_reads' HX.out.q.cr).2.1 (by omega) HG.out.w64).mono ?_; rintro e w3 ⟨⟨x0, x1, x2, x3, x4, x5, x6, x7⟩, okl, rfl, hli, hb⟩; have n_ := Aside0.mk (XW.below HX.out hb); have nd_ := Aside0.mk (HD1.out.below hb); clear HX HD1 hb; have HX := n_; have HD1 := nd_; clear n_ nd_; have HLI := Aside0.mk hli; clear hli; (try dsimp only)))
 obtain ⟨g12, hg12⟩ : ∃ g12, W.heap.size + 1 = g12 := ⟨_, rfl⟩
 rw [hg12] at HX ⊢
 clear hg12
 obtain ⟨g9, hg9⟩ : ∃ g9, W.heap.size = g9 := ⟨_, rfl⟩
 rw [hg9] at HX ⊢
 clear hg9
 have HD2 : Aside0 (IsS57 w ((w3.alloc (.cells #[.int .i64 x0, .int .i64 x1, .int .i64 x2, .int .i64 x3, .int .i64 x4, .int .i64 x5, .int .i64 x6, .bool x7] 82)).alloc (.cells #[.int .i64 0, .int .i64 0, .int .i64 0, .int .i64 0, .int .i64 0, .int .i64 0, .int .i64 0, .int .i64 0, .int .i64 0, .int .i64 0, .int .i64 0] 39)) gd L at1) := ⟨HD1.out.below (below_alloc (below_alloc (Below.refl _ _) _) _)⟩
 have HY : Aside0 (YW w w1 ((w3.alloc (.cells #[.int .i64 x0, .int .i64 x1, .int .i64 x2, .int .i64 x3, .int .i64 x4, .int .i64 x5, .int .i64 x6, .bool x7] 82)).alloc (.cells #[.int .i64 0, .int .i64 0, .int .i64 0, .int .i64 0, .int .i64 0, .int .i64 0, .int .i64 0, .int .i64 0, .int .i64 0, .int .i64 0, .int .i64 0] 39)) gd L gl (.slice A9 ch.length c9) ch ok p1 g9 g12 w3.heap.size (w3.heap.size + 1) #[.int .i64 x0, .int .i64 x1, .int .i64 x2, .int .i64 x3, .int .i64 x4, .int .i64 x5, .int .i64 x6, .bool x7] #[.int .i64 0, .int .i64 0, .int .i64 0, .int .i64 0, .int .i64 0, .int .i64 0, .int .i64 0, .int .i64 0, .int .i64 0, .int .i64 0, .int .i64 0]) :=
  ⟨⟨HX.out.below (below_alloc (below_alloc (Below.refl _ _) _) _), blk_alloc (heap_alloc_new w3 _) _, two_new w3 _ _ _ _, Nat.le_succ_of_le HX.out.q.kp.1, Kd.R_ne_new HX.out.q.cr 1, by have := blk_lt HX.out.rb; omega⟩⟩
 obtain ⟨W4, hW4⟩ : ∃ W4, W4 = (w3.alloc (.cells #[.int .i64 x0, .int .i64 x1, .int .i64 x2, .int .i64 x3, .int .i64 x4, .int .i64 x5, .int .i64 x6, .bool x7] 82)).alloc (.cells #[.int .i64 0, .int .i64 0, .int .i64 0, .int .i64 0, .int .i64 0, .int .i64 0, .int .i64 0, .int .i64 0, .int .i64 0, .int .i64 0, .int .i64 0] 39) := ⟨_, rfl⟩
 rw [← hW4] at HY HD2 ⊢
 clear hW4 HX HD1
 obtain ⟨g17, hg17⟩ : ∃ g17, w3.heap.size + 1 = g17 := ⟨_, rfl⟩
 rw [hg17] at HY ⊢
 clear hg17
 obtain ⟨g15, hg15⟩ : ∃ g15, w3.heap.size = g15 := ⟨_, rfl⟩
 rw [hg15] at HY ⊢
 clear hg15
 have hx3i : I64 x3 := HLI.out.h3
 have hx4i : I64 x4 := HLI.out.h4
 have hch : (0 : Int) ≤ ch.length ∧ (ch.length : Int) ≤ 200 := by omega
 go_upto_block 0 with (first | (go_at_call 16; with_reducible refine (YW.turnAt HY.out HD2.out E8.out h2).mono ?_; rintro e w5 ⟨rfl, hy⟩; clear HY HD2; have HY := Aside0.mk hy; clear hy))
 have hcw := HY.out
 have hp0_ : w5.cell? ⟨g9, 0, none⟩ = some (.int .i64 1) := (blk_cell HY.out.x.pb 0).trans rfl
 have hp1_ : w5.cell? ⟨g9, 1, none⟩ = some (.int .i64 p1) := (blk_cell HY.out.x.pb 1).trans rfl
 have hl6_ : w5.cell? ⟨g15, 6, none⟩ = some (.int .i64 x6) := (blk_cell HY.out.lb 6).trans rfl
 have hl3_ : w5.cell? ⟨g15, 3, none⟩ = some (.int .i64 x3) := (blk_cell HY.out.lb 3).trans rfl
 have hl4_ : w5.cell? ⟨g15, 4, none⟩ = some (.int .i64 x4) := (blk_cell HY.out.lb 4).trans rfl
 go_cut [18] (fun s18 wx => ∃ z0 z1 z2 z3 z4 z5 z6 z7 z8 z9 z10 r : Int, s18 = .int .i64 r ∧ Aside0 (r = 0 → Gd 1 p1 2 (ch ++ [⟨z0, z1, z2, z3, z4, z5, z6, z7, z8, z9, z10⟩])) ∧ Aside0 (YW w w1 wx gd L gl (.slice A9 ch.length c9) ch ok p1 g9 g12 g15 g17 #[.int .i64 x0, .int .i64 x1, .int .i64 x2, .int .i64 x3, .int .i64 x4, .int .i64 x5, .int .i64 x6, .bool x7] #[.int .i64 z0, .int .i64 z1, .int .i64 z2, .int .i64 z3, .int .i64 z4, .int .i64 z5, .int .i64 z6, .int .i64 z7, .int .i64 z8, .int .i64 z9, .int .i64 z10]))
 case first =>
  have NOSAY : Aside0 (∀ s : S39, (2 : Int) = 0 → Gd 1 p1 2 (ch ++ [s])) := ⟨fun s h => absurd h (by decide)⟩
  subst hk
  cases okl
  ·go_wp2
   go_meet
   exact ⟨0, 0, 0, 0, 0, 0, 0, 0, 0, 0, 0, 2, rfl, ⟨NOSAY.out _⟩, HY⟩
  ·go_upto_region 20 with fail
   go_region_with (first | (go_at_call 16; with_reducible refine (YW.turn (YW.drew hcw) hL 2 (by decide)).mono ?_; rintro e w' ⟨ta, rfl, hta, hta', hcw⟩; have hp0_ : w'.cell? ⟨g9, 0, none⟩ = some (.int .i64 1) := (blk_cell hcw.x.pb 0).trans rfl; have hp1_ : w'.cell? ⟨g9, 1, none⟩ = some (.int .i64 p1) := (blk_cell hcw.x.pb 1).trans rfl; have hl6_ : w'.cell? ⟨g15, 6, none⟩ = some (.int .i64 x6) := (blk_cell hcw.lb 6).trans rfl) | (go_at_call 16; with_reducible refine (YW.turn hcw hL 2 (by decide)).mono ?_; rintro e w' ⟨ta, rfl, hta, hta', hcw⟩; have hp0_ : w'.cell? ⟨g9, 0, none⟩ = some (.int .i64 1) := (blk_cell hcw.x.pb 0).trans rfl; have hp1_ : w'.cell? ⟨g9, 1, none⟩ = some (.int .i64 p1) := (blk_cell hcw.x.pb 1).trans rfl; have hl6_ : w'.cell? ⟨g15, 6, none⟩ = some (.int .i64 x6) := (blk_cell hcw.lb 6).trans rfl) | (go_at_call 15; (try go_split_ands); go_loud (with_reducible refine (YW.rn hcw HG.out HT.out (by first | (with_reducible exact I64w _) | (with_reducible assumption) | (unfold I64; omega)) (by first | (with_reducible exact I64w _) | (with_reducible assumption) | (unfold I64; omega)) (by first | (with_reducible exact I64w _) | (with_reducible assumption) | (unfold I64; omega)) (by first | (with_reducible exact I64w _) | (with_reducible assumption) | (unfold I64; omega)) (by first | (with_reducible exact I64w _) | (with_reducible assumption) | (unfold I64; omega))).mono ?_); rintro e w' ⟨s, r1, hs, rfl, hcn⟩; have HSN := Aside0.mk hs; have HCN := Aside0.mk hcn; clear hs hcn; have hz0_ : w'.cell? ⟨g17, 0, none⟩ = some (.int .i64 0) := (blk_cell HCN.out.sb 0).trans rfl; have hf0_ := blk_frozen HCN.out.sb 0; have hz1_ : w'.cell? ⟨g17, 1, none⟩ = some (.int .i64 0) := (blk_cell HCN.out.sb 1).trans rfl; have hf1_ := blk_frozen HCN.out.sb 1; have hz2_ : w'.cell? ⟨g17, 2, none⟩ = some (.int .i64 0) := (blk_cell HCN.out.sb 2).trans rfl; have hf2_ := blk_frozen HCN.out.sb 2; have hz3_ : w'.cell? ⟨g17, 3, none⟩ = some (.int .i64 0) := (blk_cell HCN.out.sb 3).trans rfl; have hf3_ := blk_frozen HCN.out.sb 3; have hz4_ : w'.cell? ⟨g17, 4, none⟩ = some (.int .i64 0) := (blk_cell HCN.out.sb 4).trans rfl; have hf4_ := blk_frozen HCN.out.sb 4; have hz5_ : w'.cell? ⟨g17, 5, none⟩ = some (.int .i64 0) := (blk_cell HCN.out.sb 5).trans rfl; have hf5_ := blk_frozen HCN.out.sb 5; have hz6_ : w'.cell? ⟨g17, 6, none⟩ = some (.int .i64 0) := (blk_cell HCN.out.sb 6).trans rfl; have hf6_ := blk_frozen HCN.out.sb 6; have hz7_ : w'.cell? ⟨g17, 7, none⟩ = some (.int .i64 0) := (blk_cell HCN.out.sb 7).trans rfl; have hf7_ := blk_frozen HCN.out.sb 7; have hz8_ : w'.cell? ⟨g17, 8, none⟩ = some (.int .i64 0) := (blk_cell HCN.out.sb 8).trans rfl; have hf8_ := blk_frozen HCN.out.sb 8; have hz9_ : w'.cell? ⟨g17, 9, none⟩ = some (.int .i64 0) := (blk_cell HCN.out.sb 9).trans rfl; have hf9_ := blk_frozen HCN.out.sb 9; have hz10_ : w'.cell? ⟨g17, 10, none⟩ = some (.int .i64 0) := (blk_cell HCN.out.sb 10).trans rfl; have hf10_ := blk_frozen HCN.out.sb 10; have hzl_ := blk_lt HCN.out.sb; obtain ⟨s0, s1, s2, s3, s4, s5, s6, s7, s8, s9, s10⟩ := s; (try dsimp only)))
   all_goals (go_wp2_with fail)
   all_goals go_meet
   all_goals (with_reducible exact ⟨s0, s1, s2, s3, s4, s5, s6, s7, s8, s9, s10, r1, rfl, HSN, ⟨YW.put11 HCN.out _ _ _ _ _ _ _ _ _ _ _⟩⟩)
 case rest =>
  clear hcw HY hp0_ hp1_ hl6_ hl3_ hl4_
  obtain ⟨z0, z1, z2, z3, z4, z5, z6, z7, z8, z9, z10, r, rfl, HSN, HY⟩ := hcut
  have hq0_ : wc.cell? ⟨g12, 0, none⟩ = some (.int .i64 0) := (blk_cell HY.out.x.rb 0).trans rfl
  have hf0_ := blk_frozen HY.out.x.rb 0
  have hz0_ : wc.cell? ⟨g17, 0, none⟩ = some (.int .i64 z0) := (blk_cell HY.out.sb 0).trans rfl
  have hq1_ : wc.cell? ⟨g12, 1, none⟩ = some (.int .i64 0) := (blk_cell HY.out.x.rb 1).trans rfl
  have hf1_ := blk_frozen HY.out.x.rb 1
  have hz1_ : wc.cell? ⟨g17, 1, none⟩ = some (.int .i64 z1) := (blk_cell HY.out.sb 1).trans rfl
  have hq2_ : wc.cell? ⟨g12, 2, none⟩ = some (.int .i64 0) := (blk_cell HY.out.x.rb 2).trans rfl
  have hf2_ := blk_frozen HY.out.x.rb 2
  have hz2_ : wc.cell? ⟨g17, 2, none⟩ = some (.int .i64 z2) := (blk_cell HY.out.sb 2).trans rfl
  have hq3_ : wc.cell? ⟨g12, 3, none⟩ = some (.int .i64 0) := (blk_cell HY.out.x.rb 3).trans rfl
  have hf3_ := blk_frozen HY.out.x.rb 3
  have hz3_ : wc.cell? ⟨g17, 3, none⟩ = some (.int .i64 z3) := (blk_cell HY.out.sb 3).trans rfl
  have hq4_ : wc.cell? ⟨g12, 4, none⟩ = some (.int .i64 0) := (blk_cell HY.out.x.rb 4).trans rfl
  have hf4_ := blk_frozen HY.out.x.rb 4
  have hz4_ : wc.cell? ⟨g17, 4, none⟩ = some (.int .i64 z4) := (blk_cell HY.out.sb 4).trans rfl
  have hq5_ : wc.cell? ⟨g12, 5, none⟩ = some (.int .i64 0) := (blk_cell HY.out.x.rb 5).trans rfl
  have hf5_ := blk_frozen HY.out.x.rb 5
  have hz5_ : wc.cell? ⟨g17, 5, none⟩ = some (.int .i64 z5) := (blk_cell HY.out.sb 5).trans rfl
  have hq6_ : wc.cell? ⟨g12, 6, none⟩ = some (.int .i64 0) := (blk_cell HY.out.x.rb 6).trans rfl
  have hf6_ := blk_frozen HY.out.x.rb 6
  have hz6_ : wc.cell? ⟨g17, 6, none⟩ = some (.int .i64 z6) := (blk_cell HY.out.sb 6).trans rfl
  have hq7_ : wc.cell? ⟨g12, 7, none⟩ = some (.int .i64 0) := (blk_cell HY.out.x.rb 7).trans rfl
  have hf7_ := blk_frozen HY.out.x.rb 7
  have hz7_ : wc.cell? ⟨g17, 7, none⟩ = some (.int .i64 z7) := (blk_cell HY.out.sb 7).trans rfl
  have hq8_ : wc.cell? ⟨g12, 8, none⟩ = some (.int .i64 0) := (blk_cell HY.out.x.rb 8).trans rfl
  have hf8_ := blk_frozen HY.out.x.rb 8
  have hz8_ : wc.cell? ⟨g17, 8, none⟩ = some (.int .i64 z8) := (blk_cell HY.out.sb 8).trans rfl
  have hq9_ : wc.cell? ⟨g12, 9, none⟩ = some (.int .i64 0) := (blk_cell HY.out.x.rb 9).trans rfl
  have hf9_ := blk_frozen HY.out.x.rb 9
  have hz9_ : wc.cell? ⟨g17, 9, none⟩ = some (.int .i64 z9) := (blk_cell HY.out.sb 9).trans rfl
  have hq10_ : wc.cell? ⟨g12, 10, none⟩ = some (.int .i64 0) := (blk_cell HY.out.x.rb 10).trans rfl
  have hf10_ := blk_frozen HY.out.x.rb 10
  have hz10_ : wc.cell? ⟨g17, 10, none⟩ = some (.int .i64 z10) := (blk_cell HY.out.sb 10).trans rfl
  have hgl12_ := blk_lt HY.out.x.rb
  go_wp2
  refine bodyPost_ret (results_ct rfl _ _ g12 39 #[.int .i64 z0, .int .i64 z1, .int .i64 z2, .int .i64 z3, .int .i64 z4, .int .i64 z5, .int .i64 z6, .int .i64 z7, .int .i64 z8, .int .i64 z9, .int .i64 z10] (0, 0) _ rfl (by (with_reducible exact Gnx.put11 _ _ _ _ _ _ _ _ _ _ _ _ _ _ _ _ _ _ _ _ _ _ HY.out.x.rb)) Tryd.underlying39 rfl (by kernel_rfl)) rfl ?_
  refine ⟨⟨⟨z0, z1, z2, z3, z4, z5, z6, z7, z8, z9, z10⟩, (r == 0), rfl, fun hb => HSN.out (by simpa using hb), ?_⟩⟩
  with_reducible exact XW.out11 HY.out.x _ _ _ _ _ _ _ _ _ _ _
set_option maxRecDepth 100000 in
set_option maxHeartbeats 60000000 in
theorem say_mk5 (w w1 W : World) (gd : Nat) (L : List Int) (gl : Nat) (A9 : Option Addr) (c9 : Nat) (ch : List S39) (ok : Nat → Prop) (p1 tick : Int) (h : QW w w1 W gd L gl (.slice A9 ch.length c9) ch ok) (hL : L.length ≤ 1000000) (hG : Gd 1 p1 2 ch) (hl : ch.length ≤ 200) (ht : I64 tick)
 (at0 at1 at2 t3 t8 : Int) (h1 : 0 ≤ at1) (h2 : 0 ≤ at2) (hd0 : IsS57 w W gd L at0) (e3 : storagebartermake_Deck_Next.f L at0 3 = some (t3, at1)) (e8 : storagebartermake_Deck_Next.f L at1 8 = some (t8, at2)) (ht3 : 0 ≤ t3) (ht3' : t3 < 3) (hk : t8 = 5) :
 Calls Tryd.prog 43 #[.pointer (some ⟨gd, 0, none⟩), .slice A9 ch.length c9, .slice (some ⟨gl, 0, none⟩) 1 1, .agg #[.int .i64 1, .int .i64 p1], .int .i64 2, .int .i64 tick] W (SayMk w w1 gd L gl (.slice A9 ch.length c9) ch ok p1) := by
 have mixed : (Tryd.prog).follows .mixedOrders = true := by kernel_rfl
 have hu39 := Tryd.underlying39
 have hu25 := Tryd.underlying25
 have hu82 := Tryd.underlying82
 have HD := Aside0.mk h
 have HG := Aside0.mk hG
 have HT := Aside0.mk ht
 have HX1 : Aside0 (XW w w1 ((W.alloc (.cells #[.int .i64 1, .int .i64 p1] 25)).alloc (.cells #[.int .i64 0, .int .i64 0, .int .i64 0, .int .i64 0, .int .i64 0, .int .i64 0, .int .i64 0, .int .i64 0, .int .i64 0, .int .i64 0, .int .i64 0] 39)) gd L gl (.slice A9 ch.length c9) ch ok p1 W.heap.size (W.heap.size + 1)) := ⟨⟨(h.alloc _).alloc _, blk_alloc (heap_alloc_new W _) _, two_new W _ _ _ _, Nat.le_succ_of_le h.kp.1, Kd.R_ne_new h.cr 1⟩⟩
 have HD1 : Aside0 (IsS57 w ((W.alloc (.cells #[.int .i64 1, .int .i64 p1] 25)).alloc (.cells #[.int .i64 0, .int .i64 0, .int .i64 0, .int .i64 0, .int .i64 0, .int .i64 0, .int .i64 0, .int .i64 0, .int .i64 0, .int .i64 0, .int .i64 0] 39)) gd L at0) := ⟨hd0.below (below_alloc (below_alloc (Below.refl _ _) _) _)⟩
 have E3 := Lib.hid e3
 have E8 := Lib.hid e8
 clear h hG ht HD hd0 e3 e8
 go_enter Tryd.func43, Tryd.ntmps43
 go_upto_region 5 with (first | (go_at_call 16; with_reducible refine (XW.turnAt HX1.out HD1.out E3.out h1).mono ?_; rintro e w2 ⟨rfl, hx, hd⟩; have HX := Aside0.mk hx; clear hx HX1 HD1; have HD1 := Aside0.mk hd; clear hd) | (go_at_call 51; with_reducible refine (at_x A9 c9 ch t3 tick _ (Kd.R_reads' HX.out.q.cr).2.2 (Kd.R_reads' HX.out.q.cr).2.1 (by omega) HG.out.w64).mono ?_; rintro e w3 ⟨⟨x0, x1, x2, x3, x4, x5, x6, x7⟩, okl, rfl, hli, hb⟩; have n_ := Aside0.mk (XW.below HX.out hb); have nd_ := Aside0.mk (HD1.out.below hb); clear HX HD1 hb; have HX := n_; have HD1 := nd_; clear n_ nd_; have HLI := Aside0.mk hli; clear hli; (try dsimp only)))
 obtain ⟨g12, hg12⟩ : ∃ g12, W.heap.size + 1 = g12 := ⟨_, rfl⟩
 rw [hg12] at HX ⊢
 clear hg12
 obtain ⟨g9, hg9⟩ : ∃ g9, W.heap.size = g9 := ⟨_, rfl⟩
 rw [hg9] at HX ⊢
 clear hg9
 have HD2 : Aside0 (IsS57 w ((w3.alloc (.cells #[.int .i64 x0, .int .i64 x1, .int .i64 x2, .int .i64 x3, .int .i64 x4, .int .i64 x5, .int .i64 x6, .bool x7] 82)).alloc (.cells #[.int .i64 0, .int .i64 0, .int .i64 0, .int .i64 0, .int .i64 0, .int .i64 0, .int .i64 0, .int .i64 0, .int .i64 0, .int .i64 0, .int .i64 0] 39)) gd L at1) := ⟨HD1.out.below (below_alloc (below_alloc (Below.refl _ _) _) _)⟩
 have HY : Aside0 (YW w w1 ((w3.alloc (.cells #[.int .i64 x0, .int .i64 x1, .int .i64 x2, .int .i64 x3, .int .i64 x4, .int .i64 x5, .int .i64 x6, .bool x7] 82)).alloc (.cells #[.int .i64 0, .int .i64 0, .int .i64 0, .int .i64 0, .int .i64 0, .int .i64 0, .int .i64 0, .int .i64 0, .int .i64 0, .int .i64 0, .int .i64 0] 39)) gd L gl (.slice A9 ch.length c9) ch ok p1 g9 g12 w3.heap.size (w3.heap.size + 1) #[.int .i64 x0, .int .i64 x1, .int .i64 x2, .int .i64 x3, .int .i64 x4, .int .i64 x5, .int .i64 x6, .bool x7] #[.int .i64 0, .int .i64 0, .int .i64 0, .int .i64 0, .int .i64 0, .int .i64 0, .int .i64 0, .int .i64 0, .int .i64 0, .int .i64 0, .int .i64 0]) :=
  ⟨⟨HX.out.below (below_alloc (below_alloc (Below.refl _ _) _) _), blk_alloc (heap_alloc_new w3 _) _, two_new w3 _ _ _ _, Nat.le_succ_of_le HX.out.q.kp.1, Kd.R_ne_new HX.out.q.cr 1, by have := blk_lt HX.out.rb; omega⟩⟩
 obtain ⟨W4, hW4⟩ : ∃ W4, W4 = (w3.alloc (.cells #[.int .i64 x0, .int .i64 x1, .int .i64 x2, .int .i64 x3, .int .i64 x4, .int .i64 x5, .int .i64 x6, .bool x7] 82)).alloc (.cells #[.int .i64 0, .int .i64 0, .int .i64 0, .int .i64 0, .int .i64 0, .int .i64 0, .int .i64 0, .int .i64 0, .int .i64 0, .int .i64 0, .int .i64 0] 39) := ⟨_, rfl⟩
 rw [← hW4] at HY HD2 ⊢
 clear hW4 HX HD1
 obtain ⟨g17, hg17⟩ : ∃ g17, w3.heap.size + 1 = g17 := ⟨_, rfl⟩
 rw [hg17] at HY ⊢
 clear hg17
 obtain ⟨g15, hg15⟩ : ∃ g15, w3.heap.size = g15 := ⟨_, rfl⟩
 rw [hg15] at HY ⊢
 clear hg15
 have hx3i : I64 x3 := HLI.out.h3
 have hx4i : I64 x4 := HLI.out.h4
 have hch : (0 : Int) ≤ ch.length ∧ (ch.length : Int) ≤ 200 := by omega
 go_upto_block 0 with (first | (go_at_call 16; with_reducible refine (YW.turnAt HY.out HD2.out E8.out h2).mono ?_; rintro e w5 ⟨rfl, hy⟩; clear HY HD2; have HY := Aside0.mk hy; clear hy))
 have hcw := HY.out
 have hp0_ : w5.cell? ⟨g9, 0, none⟩ = some (.int .i64 1) := (blk_cell HY.out.x.pb 0).trans rfl
 have hp1_ : w5.cell? ⟨g9, 1, none⟩ = some (.int .i64 p1) := (blk_cell HY.out.x.pb 1).trans rfl
 have hl6_ : w5.cell? ⟨g15, 6, none⟩ = some (.int .i64 x6) := (blk_cell HY.out.lb 6).trans rfl
 have hl3_ : w5.cell? ⟨g15, 3, none⟩ = some (.int .i64 x3) := (blk_cell HY.out.lb 3).trans rfl
 have hl4_ : w5.cell? ⟨g15, 4, none⟩ = some (.int .i64 x4) := (blk_cell HY.out.lb 4).trans rfl
 go_cut [18] (fun s18 wx => ∃ z0 z1 z2 z3 z4 z5 z6 z7 z8 z9 z10 r : Int, s18 = .int .i64 r ∧ Aside0 (r = 0 → Gd 1 p1 2 (ch ++ [⟨z0, z1, z2, z3, z4, z5, z6, z7, z8, z9, z10⟩])) ∧ Aside0 (YW w w1 wx gd L gl (.slice A9 ch.length c9) ch ok p1 g9 g12 g15 g17 #[.int .i64 x0, .int .i64 x1, .int .i64 x2, .int .i64 x3, .int .i64 x4, .int .i64 x5, .int .i64 x6, .bool x7] #[.int .i64 z0, .int .i64 z1, .int .i64 z2, .int .i64 z3, .int .i64 z4, .int .i64 z5, .int .i64 z6, .int .i64 z7, .int .i64 z8, .int .i64 z9, .int .i64 z10]))
 case first =>
  have NOSAY : Aside0 (∀ s : S39, (2 : Int) = 0 → Gd 1 p1 2 (ch ++ [s])) := ⟨fun s h => absurd h (by decide)⟩
  subst hk
  go_upto_region 23 with (first | (go_at_call 53; with_reducible refine (YW.kept hcw HG.out hl (tick := tick)).mono ?_; rintro e w6 ⟨kn, kc, hkn, rfl, hy⟩; clear HY hcw; have HY := Aside0.mk hy; have hcw := hy; clear hy))
  by_cases hkc : kc = 0
  case neg =>
   have g1 : (kc == 0) = false := beq_eq_false_iff_ne.2 hkc
   clear hkc
   go_wp2
   go_meet
   exact ⟨0, 0, 0, 0, 0, 0, 0, 0, 0, 0, 0, 2, rfl, ⟨NOSAY.out _⟩, HY⟩
  case pos =>
  have g1 : (kc == 0) = true := beq_iff_eq.2 hkc
  clear hkc
  have hp0_ : w6.cell? ⟨g9, 0, none⟩ = some (.int .i64 1) := (blk_cell HY.out.x.pb 0).trans rfl
  have hp1_ : w6.cell? ⟨g9, 1, none⟩ = some (.int .i64 p1) := (blk_cell HY.out.x.pb 1).trans rfl
  have hl6_ : w6.cell? ⟨g15, 6, none⟩ = some (.int .i64 x6) := (blk_cell HY.out.lb 6).trans rfl
  have hl3_ : w6.cell? ⟨g15, 3, none⟩ = some (.int .i64 x3) := (blk_cell HY.out.lb 3).trans rfl
  have hl4_ : w6.cell? ⟨g15, 4, none⟩ = some (.int .i64 x4) := (blk_cell HY.out.lb 4).trans rfl
  go_upto_region 24 with fail
  go_region_with (first | (go_at_call 16; with_reducible refine (YW.turn (YW.drew hcw) hL 900 (by decide)).mono ?_; rintro e w' ⟨ta, rfl, hta, hta', hcw⟩; have hp0_ : w'.cell? ⟨g9, 0, none⟩ = some (.int .i64 1) := (blk_cell hcw.x.pb 0).trans rfl; have hp1_ : w'.cell? ⟨g9, 1, none⟩ = some (.int .i64 p1) := (blk_cell hcw.x.pb 1).trans rfl; have hl6_ : w'.cell? ⟨g15, 6, none⟩ = some (.int .i64 x6) := (blk_cell hcw.lb 6).trans rfl) | (go_at_call 16; with_reducible refine (YW.turn hcw hL 900 (by decide)).mono ?_; rintro e w' ⟨ta, rfl, hta, hta', hcw⟩; have hp0_ : w'.cell? ⟨g9, 0, none⟩ = some (.int .i64 1) := (blk_cell hcw.x.pb 0).trans rfl; have hp1_ : w'.cell? ⟨g9, 1, none⟩ = some (.int .i64 p1) := (blk_cell hcw.x.pb 1).trans rfl; have hl6_ : w'.cell? ⟨g15, 6, none⟩ = some (.int .i64 x6) := (blk_cell hcw.lb 6).trans rfl) | (go_at_call 16; with_reducible refine (YW.turn (YW.drew hcw) hL 9 (by decide)).mono ?_; rintro e w' ⟨tb, rfl, htb, htb', hcw⟩; have hp0_ : w'.cell? ⟨g9, 0, none⟩ = some (.int .i64 1) := (blk_cell hcw.x.pb 0).trans rfl; have hp1_ : w'.cell? ⟨g9, 1, none⟩ = some (.int .i64 p1) := (blk_cell hcw.x.pb 1).trans rfl; have hl6_ : w'.cell? ⟨g15, 6, none⟩ = some (.int .i64 x6) := (blk_cell hcw.lb 6).trans rfl) | (go_at_call 16; with_reducible refine (YW.turn hcw hL 9 (by decide)).mono ?_; rintro e w' ⟨tb, rfl, htb, htb', hcw⟩; have hp0_ : w'.cell? ⟨g9, 0, none⟩ = some (.int .i64 1) := (blk_cell hcw.x.pb 0).trans rfl; have hp1_ : w'.cell? ⟨g9, 1, none⟩ = some (.int .i64 p1) := (blk_cell hcw.x.pb 1).trans rfl; have hl6_ : w'.cell? ⟨g15, 6, none⟩ = some (.int .i64 x6) := (blk_cell hcw.lb 6).trans rfl) | (go_at_call 15; (try go_split_ands); go_loud (with_reducible refine (YW.rn hcw HG.out HT.out (by first | (with_reducible exact I64w _) | (with_reducible assumption) | (unfold I64; omega)) (by first | (with_reducible exact I64w _) | (with_reducible assumption) | (unfold I64; omega)) (by first | (with_reducible exact I64w _) | (with_reducible assumption) | (unfold I64; omega)) (by first | (with_reducible exact I64w _) | (with_reducible assumption) | (unfold I64; omega)) (by first | (with_reducible exact I64w _) | (with_reducible assumption) | (unfold I64; omega))).mono ?_); rintro e w' ⟨s, r1, hs, rfl, hcn⟩; have HSN := Aside0.mk hs; have HCN := Aside0.mk hcn; clear hs hcn; have hz0_ : w'.cell? ⟨g17, 0, none⟩ = some (.int .i64 0) := (blk_cell HCN.out.sb 0).trans rfl; have hf0_ := blk_frozen HCN.out.sb 0; have hz1_ : w'.cell? ⟨g17, 1, none⟩ = some (.int .i64 0) := (blk_cell HCN.out.sb 1).trans rfl; have hf1_ := blk_frozen HCN.out.sb 1; have hz2_ : w'.cell? ⟨g17, 2, none⟩ = some (.int .i64 0) := (blk_cell HCN.out.sb 2).trans rfl; have hf2_ := blk_frozen HCN.out.sb 2; have hz3_ : w'.cell? ⟨g17, 3, none⟩ = some (.int .i64 0) := (blk_cell HCN.out.sb 3).trans rfl; have hf3_ := blk_frozen HCN.out.sb 3; have hz4_ : w'.cell? ⟨g17, 4, none⟩ = some (.int .i64 0) := (blk_cell HCN.out.sb 4).trans rfl; have hf4_ := blk_frozen HCN.out.sb 4; have hz5_ : w'.cell? ⟨g17, 5, none⟩ = some (.int .i64 0) := (blk_cell HCN.out.sb 5).trans rfl; have hf5_ := blk_frozen HCN.out.sb 5; have hz6_ : w'.cell? ⟨g17, 6, none⟩ = some (.int .i64 0) := (blk_cell HCN.out.sb 6).trans rfl; have hf6_ := blk_frozen HCN.out.sb 6; have hz7_ : w'.cell? ⟨g17, 7, none⟩ = some (.int .i64 0) := (blk_cell HCN.out.sb 7).trans rfl; have hf7_ := blk_frozen HCN.out.sb 7; have hz8_ : w'.cell? ⟨g17, 8, none⟩ = some (.int .i64 0) := (blk_cell HCN.out.sb 8).trans rfl; have hf8_ := blk_frozen HCN.out.sb 8; have hz9_ : w'.cell? ⟨g17, 9, none⟩ = some (.int .i64 0) := (blk_cell HCN.out.sb 9).trans rfl; have hf9_ := blk_frozen HCN.out.sb 9; have hz10_ : w'.cell? ⟨g17, 10, none⟩ = some (.int .i64 0) := (blk_cell HCN.out.sb 10).trans rfl; have hf10_ := blk_frozen HCN.out.sb 10; have hzl_ := blk_lt HCN.out.sb; obtain ⟨s0, s1, s2, s3, s4, s5, s6, s7, s8, s9, s10⟩ := s; (try dsimp only)))
  all_goals (go_wp2_with fail)
  all_goals go_meet
  all_goals (with_reducible exact ⟨s0, s1, s2, s3, s4, s5, s6, s7, s8, s9, s10, r1, rfl, HSN, ⟨YW.put11 HCN.out _ _ _ _ _ _ _ _ _ _ _⟩⟩)
 case rest =>
  clear hcw HY hp0_ hp1_ hl6_ hl3_ hl4_
  obtain ⟨z0, z1, z2, z3, z4, z5, z6, z7, z8, z9, z10, r, rfl, HSN, HY⟩ := hcut
  have hq0_ : wc.cell? ⟨g12, 0, none⟩ = some (.int .i64 0) := (blk_cell HY.out.x.rb 0).trans rfl
  have hf0_ := blk_frozen HY.out.x.rb 0
  have hz0_ : wc.cell? ⟨g17, 0, none⟩ = some (.int .i64 z0) := (blk_cell HY.out.sb 0).trans rfl
  have hq1_ : wc.cell? ⟨g12, 1, none⟩ = some (.int .i64 0) := (blk_cell HY.out.x.rb 1).trans rfl
  have hf1_ := blk_frozen HY.out.x.rb 1
  have hz1_ : wc.cell? ⟨g17, 1, none⟩ = some (.int .i64 z1) := (blk_cell HY.out.sb 1).trans rfl
  have hq2_ : wc.cell? ⟨g12, 2, none⟩ = some (.int .i64 0) := (blk_cell HY.out.x.rb 2).trans rfl
  have hf2_ := blk_frozen HY.out.x.rb 2
  have hz2_ : wc.cell? ⟨g17, 2, none⟩ = some (.int .i64 z2) := (blk_cell HY.out.sb 2).trans rfl
  have hq3_ : wc.cell? ⟨g12, 3, none⟩ = some (.int .i64 0) := (blk_cell HY.out.x.rb 3).trans rfl
  have hf3_ := blk_frozen HY.out.x.rb 3
  have hz3_ : wc.cell? ⟨g17, 3, none⟩ = some (.int .i64 z3) := (blk_cell HY.out.sb 3).trans rfl
  have hq4_ : wc.cell? ⟨g12, 4, none⟩ = some (.int .i64 0) := (blk_cell HY.out.x.rb 4).trans rfl
  have hf4_ := blk_frozen HY.out.x.rb 4
  have hz4_ : wc.cell? ⟨g17, 4, none⟩ = some (.int .i64 z4) := (blk_cell HY.out.sb 4).trans rfl
  have hq5_ : wc.cell? ⟨g12, 5, none⟩ = some (.int .i64 0) := (blk_cell HY.out.x.rb 5).trans rfl
  have hf5_ := blk_frozen HY.out.x.rb 5
  have hz5_ : wc.cell? ⟨g17, 5, none⟩ = some (.int .i64 z5) := (blk_cell HY.out.sb 5).trans rfl
  have hq6_ : wc.cell? ⟨g12, 6, none⟩ = some (.int .i64 0) := (blk_cell HY.out.x.rb 6).trans rfl
  have hf6_ := blk_frozen HY.out.x.rb 6
  have hz6_ : wc.cell? ⟨g17, 6, none⟩ = some (.int .i64 z6) := (blk_cell HY.out.sb 6).trans rfl
  have hq7_ : wc.cell? ⟨g12, 7, none⟩ = some (.int .i64 0) := (blk_cell HY.out.x.rb 7).trans rfl
  have hf7_ := blk_frozen HY.out.x.rb 7
  have hz7_ : wc.cell? ⟨g17, 7, none⟩ = some (.int .i64 z7) := (blk_cell HY.out.sb 7).trans rfl
  have hq8_ : wc.cell? ⟨g12, 8, none⟩ = some (.int .i64 0) := (blk_cell HY.out.x.rb 8).trans rfl
  have hf8_ := blk_frozen HY.out.x.rb 8
  have hz8_ : wc.cell? ⟨g17, 8, none⟩ = some (.int .i64 z8) := (blk_cell HY.out.sb 8).trans rfl
  have hq9_ : wc.cell? ⟨g12, 9, none⟩ = some (.int .i64 0) := (blk_cell HY.out.x.rb 9).trans rfl
  have hf9_ := blk_frozen HY.out.x.rb 9
  have hz9_ : wc.cell? ⟨g17, 9, none⟩ = some (.int .i64 z9) := (blk_cell HY.out.sb 9).trans rfl
  have hq10_ : wc.cell? ⟨g12, 10, none⟩ = some (.int .i64 0) := (blk_cell HY.out.x.rb 10).trans rfl
  have hf10_ := blk_frozen HY.out.x.rb 10
  have hz10_ : wc.cell? ⟨g17, 10, none⟩ = some (.int .i64 z10) := (blk_cell HY.out.sb 10).trans rfl
  have hgl12_ := blk_lt HY.out.x.rb
  go_wp2
  refine bodyPost_ret (results_ct rfl _ _ g12 39 #[.int .i64 z0, .int .i64 z1, .int .i64 z2, .int .i64 z3, .int .i64 z4, .int .i64 z5, .int .i64 z6, .int .i64 z7, .int .i64 z8, .int .i64 z9, .int .i64 z10] (0, 0) _ rfl (by (with_reducible exact Gnx.put11 _ _ _ _ _ _ _ _ _ _ _ _ _ _ _ _ _ _ _ _ _ _ HY.out.x.rb)) Tryd.underlying39 rfl (by kernel_rfl)) rfl ?_
  refine ⟨⟨⟨z0, z1, z2, z3, z4, z5, z6, z7, z8, z9, z10⟩, (r == 0), rfl, fun hb => HSN.out (by simpa using hb), ?_⟩⟩
  with_reducible exact XW.out11 HY.out.x _ _ _ _ _ _ _ _ _ _ _
set_option maxRecDepth 100000 in
set_option maxHeartbeats 60000000 in
theorem say_mk6 (w w1 W : World) (gd : Nat) (L : List Int) (gl : Nat) (A9 : Option Addr) (c9 : Nat) (ch : List S39) (ok : Nat → Prop) (p1 tick : Int) (h : QW w w1 W gd L gl (.slice A9 ch.length c9) ch ok) (hL : L.length ≤ 1000000) (hG : Gd 1 p1 2 ch) (hl : ch.length ≤ 200) (ht : I64 tick)
 (at0 at1 at2 t3 t8 : Int) (h1 : 0 ≤ at1) (h2 : 0 ≤ at2) (hd0 : IsS57 w W gd L at0) (e3 : storagebartermake_Deck_Next.f L at0 3 = some (t3, at1)) (e8 : storagebartermake_Deck_Next.f L at1 8 = some (t8, at2)) (ht3 : 0 ≤ t3) (ht3' : t3 < 3) (hk : t8 = 6 ∨ t8 = 7) :
 Calls Tryd.prog 43 #[.pointer (some ⟨gd, 0, none⟩), .slice A9 ch.length c9, .slice (some ⟨gl, 0, none⟩) 1 1, .agg #[.int .i64 1, .int .i64 p1], .int .i64 2, .int .i64 tick] W (SayMk w w1 gd L gl (.slice A9 ch.length c9) ch ok p1) := by
 have mixed : (Tryd.prog).follows .mixedOrders = true := by kernel_rfl
 have hu39 := Tryd.underlying39
 have hu25 := Tryd.underlying25
 have hu82 := Tryd.underlying82
 have HD := Aside0.mk h
 have HG := Aside0.mk hG
 have HT := Aside0.mk ht
 have HX1 : Aside0 (XW w w1 ((W.alloc (.cells #[.int .i64 1, .int .i64 p1] 25)).alloc (.cells #[.int .i64 0, .int .i64 0, .int .i64 0, .int .i64 0, .int .i64 0, .int .i64 0, .int .i64 0, .int .i64 0, .int .i64 0, .int .i64 0, .int .i64 0] 39)) gd L gl (.slice A9 ch.length c9) ch ok p1 W.heap.size (W.heap.size + 1)) := ⟨⟨(h.alloc _).alloc _, blk_alloc (heap_alloc_new W _) _, two_new W _ _ _ _, Nat.le_succ_of_le h.kp.1, Kd.R_ne_new h.cr 1⟩⟩
 have HD1 : Aside0 (IsS57 w ((W.alloc (.cells #[.int .i64 1, .int .i64 p1] 25)).alloc (.cells #[.int .i64 0, .int .i64 0, .int .i64 0, .int .i64 0, .int .i64 0, .int .i64 0, .int .i64 0, .int .i64 0, .int .i64 0, .int .i64 0, .int .i64 0] 39)) gd L at0) := ⟨hd0.below (below_alloc (below_alloc (Below.refl _ _) _) _)⟩
 have E3 := Lib.hid e3
 have E8 := Lib.hid e8
 clear h hG ht HD hd0 e3 e8
 go_enter Tryd.func43, Tryd.ntmps43
 go_upto_region 5 with (first | (go_at_call 16; with_reducible refine (XW.turnAt HX1.out HD1.out E3.out h1).mono ?_; rintro e w2 ⟨rfl, hx, hd⟩; have HX := Aside0.mk hx; clear hx HX1 HD1; have HD1 := Aside0.mk hd; clear hd) | (go_at_call 51; with_reducible refine (at_x A9 c9 ch t3 tick _ (Kd.R_reads' HX.out.q.cr).2.2 (Kd.R_reads' HX.out.q.cr).2.1 (by omega) HG.out.w64).mono ?_; rintro e w3 ⟨⟨x0, x1, x2, x3, x4, x5, x6, x7⟩, okl, rfl, hli, hb⟩; have n_ := Aside0.mk (XW.below HX.out hb); have nd_ := Aside0.mk (HD1.out.below hb); clear HX HD1 hb; have HX := n_; have HD1 := nd_; clear n_ nd_; have HLI := Aside0.mk hli; clear hli; (try dsimp only)))
 obtain ⟨g12, hg12⟩ : ∃ g12, W.heap.size + 1 = g12 := ⟨_, rfl⟩
 rw [hg12] at HX ⊢
 clear hg12
 obtain ⟨g9, hg9⟩ : ∃ g9, W.heap.size = g9 := ⟨_, rfl⟩
 rw [hg9] at HX ⊢
 clear hg9
 have HD2 : Aside0 (IsS57 w ((w3.alloc (.cells #[.int .i64 x0, .int .i64 x1, .int .i64 x2, .int .i64 x3, .int .i64 x4, .int .i64 x5, .int .i64 x6, .bool x7] 82)).alloc (.cells #[.int .i64 0, .int .i64 0, .int .i64 0, .int .i64 0, .int .i64 0, .int .i64 0, .int .i64 0, .int .i64 0, .int .i64 0, .int .i64 0, .int .i64 0] 39)) gd L at1) := ⟨HD1.out.below (below_alloc (below_alloc (Below.refl _ _) _) _)⟩
 have HY : Aside0 (YW w w1 ((w3.alloc (.cells #[.int .i64 x0, .int .i64 x1, .int .i64 x2, .int .i64 x3, .int .i64 x4, .int .i64 x5, .int .i64 x6, .bool x7] 82)).alloc (.cells #[.int .i64 0, .int .i64 0, .int .i64 0, .int .i64 0, .int .i64 0, .int .i64 0, .int .i64 0, .int .i64 0, .int .i64 0, .int .i64 0, .int .i64 0] 39)) gd L gl (.slice A9 ch.length c9) ch ok p1 g9 g12 w3.heap.size (w3.heap.size + 1) #[.int .i64 x0, .int .i64 x1, .int .i64 x2, .int .i64 x3, .int .i64 x4, .int .i64 x5, .int .i64 x6, .bool x7] #[.int .i64 0, .int .i64 0, .int .i64 0, .int .i64 0, .int .i64 0, .int .i64 0, .int .i64 0, .int .i64 0, .int .i64 0, .int .i64 0, .int .i64 0]) :=
  ⟨⟨HX.out.below (below_alloc (below_alloc (Below.refl _ _) _) _), blk_alloc (heap_alloc_new w3 _) _, two_new w3 _ _ _ _, Nat.le_succ_of_le HX.out.q.kp.1, Kd.R_ne_new HX.out.q.cr 1, by have := blk_lt HX.out.rb; omega⟩⟩
 obtain ⟨W4, hW4⟩ : ∃ W4, W4 = (w3.alloc (.cells #[.int .i64 x0, .int .i64 x1, .int .i64 x2, .int .i64 x3, .int .i64 x4, .int .i64 x5, .int .i64 x6, .bool x7] 82)).alloc (.cells #[.int .i64 0, .int .i64 0, .int .i64 0, .int .i64 0, .int .i64 0, .int .i64 0, .int .i64 0, .int .i64 0, .int .i64 0, .int .i64 0, .int .i64 0] 39) := ⟨_, rfl⟩
 rw [← hW4] at HY HD2 ⊢
 clear hW4 HX HD1
 obtain ⟨g17, hg17⟩ : ∃ g17, w3.heap.size + 1 = g17 := ⟨_, rfl⟩
 rw [hg17] at HY ⊢
 clear hg17
 obtain ⟨g15, hg15⟩ : ∃ g15, w3.heap.size = g15 := ⟨_, rfl⟩
 rw [hg15] at HY ⊢
 clear hg15
 have hx3i : I64 x3 := HLI.out.h3
 have hx4i : I64 x4 := HLI.out.h4
 have hch : (0 : Int) ≤ ch.length ∧ (ch.length : Int) ≤ 200 := by omega
 go_upto_block 0 with (first | (go_at_call 16; with_reducible refine (YW.turnAt HY.out HD2.out E8.out h2).mono ?_; rintro e w5 ⟨rfl, hy⟩; clear HY HD2; have HY := Aside0.mk hy; clear hy))
 have hcw := HY.out
 have hp0_ : w5.cell? ⟨g9, 0, none⟩ = some (.int .i64 1) := (blk_cell HY.out.x.pb 0).trans rfl
 have hp1_ : w5.cell? ⟨g9, 1, none⟩ = some (.int .i64 p1) := (blk_cell HY.out.x.pb 1).trans rfl
 have hl6_ : w5.cell? ⟨g15, 6, none⟩ = some (.int .i64 x6) := (blk_cell HY.out.lb 6).trans rfl
 have hl3_ : w5.cell? ⟨g15, 3, none⟩ = some (.int .i64 x3) := (blk_cell HY.out.lb 3).trans rfl
 have hl4_ : w5.cell? ⟨g15, 4, none⟩ = some (.int .i64 x4) := (blk_cell HY.out.lb 4).trans rfl
 go_cut [18] (fun s18 wx => ∃ z0 z1 z2 z3 z4 z5 z6 z7 z8 z9 z10 r : Int, s18 = .int .i64 r ∧ Aside0 (r = 0 → Gd 1 p1 2 (ch ++ [⟨z0, z1, z2, z3, z4, z5, z6, z7, z8, z9, z10⟩])) ∧ Aside0 (YW w w1 wx gd L gl (.slice A9 ch.length c9) ch ok p1 g9 g12 g15 g17 #[.int .i64 x0, .int .i64 x1, .int .i64 x2, .int .i64 x3, .int .i64 x4, .int .i64 x5, .int .i64 x6, .bool x7] #[.int .i64 z0, .int .i64 z1, .int .i64 z2, .int .i64 z3, .int .i64 z4, .int .i64 z5, .int .i64 z6, .int .i64 z7, .int .i64 z8, .int .i64 z9, .int .i64 z10]))
 case first =>
  have NOSAY : Aside0 (∀ s : S39, (2 : Int) = 0 → Gd 1 p1 2 (ch ++ [s])) := ⟨fun s h => absurd h (by decide)⟩
  have g0 : (t8 == 0) = false := beq_eq_false_iff_ne.2 (by omega)
  have g1 : (t8 == 1) = false := beq_eq_false_iff_ne.2 (by omega)
  have g2 : (t8 == 2) = false := beq_eq_false_iff_ne.2 (by omega)
  have g3 : (t8 == 3) = false := beq_eq_false_iff_ne.2 (by omega)
  have g4 : (t8 == 4) = false := beq_eq_false_iff_ne.2 (by omega)
  have g5 : (t8 == 5) = false := beq_eq_false_iff_ne.2 (by omega)
  go_upto_region 6 with fail
  go_region_with (first | (go_at_call 16; with_reducible refine (YW.turn (YW.drew hcw) hL 100 (by decide)).mono ?_; rintro e w' ⟨ta, rfl, hta, hta', hcw⟩; have hp0_ : w'.cell? ⟨g9, 0, none⟩ = some (.int .i64 1) := (blk_cell hcw.x.pb 0).trans rfl; have hp1_ : w'.cell? ⟨g9, 1, none⟩ = some (.int .i64 p1) := (blk_cell hcw.x.pb 1).trans rfl; have hl6_ : w'.cell? ⟨g15, 6, none⟩ = some (.int .i64 x6) := (blk_cell hcw.lb 6).trans rfl) | (go_at_call 16; with_reducible refine (YW.turn hcw hL 100 (by decide)).mono ?_; rintro e w' ⟨ta, rfl, hta, hta', hcw⟩; have hp0_ : w'.cell? ⟨g9, 0, none⟩ = some (.int .i64 1) := (blk_cell hcw.x.pb 0).trans rfl; have hp1_ : w'.cell? ⟨g9, 1, none⟩ = some (.int .i64 p1) := (blk_cell hcw.x.pb 1).trans rfl; have hl6_ : w'.cell? ⟨g15, 6, none⟩ = some (.int .i64 x6) := (blk_cell hcw.lb 6).trans rfl) | (go_at_call 16; with_reducible refine (YW.turn (YW.drew hcw) hL 9 (by decide)).mono ?_; rintro e w' ⟨tb, rfl, htb, htb', hcw⟩; have hp0_ : w'.cell? ⟨g9, 0, none⟩ = some (.int .i64 1) := (blk_cell hcw.x.pb 0).trans rfl; have hp1_ : w'.cell? ⟨g9, 1, none⟩ = some (.int .i64 p1) := (blk_cell hcw.x.pb 1).trans rfl; have hl6_ : w'.cell? ⟨g15, 6, none⟩ = some (.int .i64 x6) := (blk_cell hcw.lb 6).trans rfl) | (go_at_call 16; with_reducible refine (YW.turn hcw hL 9 (by decide)).mono ?_; rintro e w' ⟨tb, rfl, htb, htb', hcw⟩; have hp0_ : w'.cell? ⟨g9, 0, none⟩ = some (.int .i64 1) := (blk_cell hcw.x.pb 0).trans rfl; have hp1_ : w'.cell? ⟨g9, 1, none⟩ = some (.int .i64 p1) := (blk_cell hcw.x.pb 1).trans rfl; have hl6_ : w'.cell? ⟨g15, 6, none⟩ = some (.int .i64 x6) := (blk_cell hcw.lb 6).trans rfl) | (go_at_call 16; with_reducible refine (YW.turn (YW.drew hcw) hL 40 (by decide)).mono ?_; rintro e w' ⟨tc, rfl, htc, htc', hcw⟩; have hp0_ : w'.cell? ⟨g9, 0, none⟩ = some (.int .i64 1) := (blk_cell hcw.x.pb 0).trans rfl; have hp1_ : w'.cell? ⟨g9, 1, none⟩ = some (.int .i64 p1) := (blk_cell hcw.x.pb 1).trans rfl; have hl6_ : w'.cell? ⟨g15, 6, none⟩ = some (.int .i64 x6) := (blk_cell hcw.lb 6).trans rfl) | (go_at_call 16; with_reducible refine (YW.turn hcw hL 40 (by decide)).mono ?_; rintro e w' ⟨tc, rfl, htc, htc', hcw⟩; have hp0_ : w'.cell? ⟨g9, 0, none⟩ = some (.int .i64 1) := (blk_cell hcw.x.pb 0).trans rfl; have hp1_ : w'.cell? ⟨g9, 1, none⟩ = some (.int .i64 p1) := (blk_cell hcw.x.pb 1).trans rfl; have hl6_ : w'.cell? ⟨g15, 6, none⟩ = some (.int .i64 x6) := (blk_cell hcw.lb 6).trans rfl) | (go_at_call 15; (try go_split_ands); go_loud (with_reducible refine (YW.rn hcw HG.out HT.out (by first | (with_reducible exact I64w _) | (with_reducible assumption) | (unfold I64; omega)) (by first | (with_reducible exact I64w _) | (with_reducible assumption) | (unfold I64; omega)) (by first | (with_reducible exact I64w _) | (with_reducible assumption) | (unfold I64; omega)) (by first | (with_reducible exact I64w _) | (with_reducible assumption) | (unfold I64; omega)) (by first | (with_reducible exact I64w _) | (with_reducible assumption) | (unfold I64; omega))).mono ?_); rintro e w' ⟨s, r1, hs, rfl, hcn⟩; have HSN := Aside0.mk hs; have HCN := Aside0.mk hcn; clear hs hcn; have hz0_ : w'.cell? ⟨g17, 0, none⟩ = some (.int .i64 0) := (blk_cell HCN.out.sb 0).trans rfl; have hf0_ := blk_frozen HCN.out.sb 0; have hz1_ : w'.cell? ⟨g17, 1, none⟩ = some (.int .i64 0) := (blk_cell HCN.out.sb 1).trans rfl; have hf1_ := blk_frozen HCN.out.sb 1; have hz2_ : w'.cell? ⟨g17, 2, none⟩ = some (.int .i64 0) := (blk_cell HCN.out.sb 2).trans rfl; have hf2_ := blk_frozen HCN.out.sb 2; have hz3_ : w'.cell? ⟨g17, 3, none⟩ = some (.int .i64 0) := (blk_cell HCN.out.sb 3).trans rfl; have hf3_ := blk_frozen HCN.out.sb 3; have hz4_ : w'.cell? ⟨g17, 4, none⟩ = some (.int .i64 0) := (blk_cell HCN.out.sb 4).trans rfl; have hf4_ := blk_frozen HCN.out.sb 4; have hz5_ : w'.cell? ⟨g17, 5, none⟩ = some (.int .i64 0) := (blk_cell HCN.out.sb 5).trans rfl; have hf5_ := blk_frozen HCN.out.sb 5; have hz6_ : w'.cell? ⟨g17, 6, none⟩ = some (.int .i64 0) := (blk_cell HCN.out.sb 6).trans rfl; have hf6_ := blk_frozen HCN.out.sb 6; have hz7_ : w'.cell? ⟨g17, 7, none⟩ = some (.int .i64 0) := (blk_cell HCN.out.sb 7).trans rfl; have hf7_ := blk_frozen HCN.out.sb 7; have hz8_ : w'.cell? ⟨g17, 8, none⟩ = some (.int .i64 0) := (blk_cell HCN.out.sb 8).trans rfl; have hf8_ := blk_frozen HCN.out.sb 8; have hz9_ : w'.cell? ⟨g17, 9, none⟩ = some (.int .i64 0) := (blk_cell HCN.out.sb 9).trans rfl; have hf9_ := blk_frozen HCN.out.sb 9; have hz10_ : w'.cell? ⟨g17, 10, none⟩ = some (.int .i64 0) := (blk_cell HCN.out.sb 10).trans rfl; have hf10_ := blk_frozen HCN.out.sb 10; have hzl_ := blk_lt HCN.out.sb; obtain ⟨s0, s1, s2, s3, s4, s5, s6, s7, s8, s9, s10⟩ := s; (try dsimp only)))
  all_goals (go_wp2_with fail)
  all_goals go_meet
  all_goals (with_reducible exact ⟨s0, s1, s2, s3, s4, s5, s6, s7, s8, s9, s10, r1, rfl, HSN, ⟨YW.put11 HCN.out _ _ _ _ _ _ _ _ _ _ _⟩⟩)
 case rest =>
  clear hcw HY hp0_ hp1_ hl6_ hl3_ hl4_
  obtain ⟨z0, z1, z2, z3, z4, z5, z6, z7, z8, z9, z10, r, rfl, HSN, HY⟩ := hcut
  have hq0_ : wc.cell? ⟨g12, 0, none⟩ = some (.int .i64 0) := (blk_cell HY.out.x.rb 0).trans rfl
  have hf0_ := blk_frozen HY.out.x.rb 0
  have hz0_ : wc.cell? ⟨g17, 0, none⟩ = some (.int .i64 z0) := (blk_cell HY.out.sb 0).trans rfl
  have hq1_ : wc.cell? ⟨g12, 1, none⟩ = some (.int .i64 0) := (blk_cell HY.out.x.rb 1).trans rfl
  have hf1_ := blk_frozen HY.out.x.rb 1
  have hz1_ : wc.cell? ⟨g17, 1, none⟩ = some (.int .i64 z1) := (blk_cell HY.out.sb 1).trans rfl
  have hq2_ : wc.cell? ⟨g12, 2, none⟩ = some (.int .i64 0) := (blk_cell HY.out.x.rb 2).trans rfl
  have hf2_ := blk_frozen HY.out.x.rb 2
  have hz2_ : wc.cell? ⟨g17, 2, none⟩ = some (.int .i64 z2) := (blk_cell HY.out.sb 2).trans rfl
  have hq3_ : wc.cell? ⟨g12, 3, none⟩ = some (.int .i64 0) := (blk_cell HY.out.x.rb 3).trans rfl
  have hf3_ := blk_frozen HY.out.x.rb 3
  have hz3_ : wc.cell? ⟨g17, 3, none⟩ = some (.int .i64 z3) := (blk_cell HY.out.sb 3).trans rfl
  have hq4_ : wc.cell? ⟨g12, 4, none⟩ = some (.int .i64 0) := (blk_cell HY.out.x.rb 4).trans rfl
  have hf4_ := blk_frozen HY.out.x.rb 4
  have hz4_ : wc.cell? ⟨g17, 4, none⟩ = some (.int .i64 z4) := (blk_cell HY.out.sb 4).trans rfl
  have hq5_ : wc.cell? ⟨g12, 5, none⟩ = some (.int .i64 0) := (blk_cell HY.out.x.rb 5).trans rfl
  have hf5_ := blk_frozen HY.out.x.rb 5
  have hz5_ : wc.cell? ⟨g17, 5, none⟩ = some (.int .i64 z5) := (blk_cell HY.out.sb 5).trans rfl
  have hq6_ : wc.cell? ⟨g12, 6, none⟩ = some (.int .i64 0) := (blk_cell HY.out.x.rb 6).trans rfl
  have hf6_ := blk_frozen HY.out.x.rb 6
  have hz6_ : wc.cell? ⟨g17, 6, none⟩ = some (.int .i64 z6) := (blk_cell HY.out.sb 6).trans rfl
  have hq7_ : wc.cell? ⟨g12, 7, none⟩ = some (.int .i64 0) := (blk_cell HY.out.x.rb 7).trans rfl
  have hf7_ := blk_frozen HY.out.x.rb 7
  have hz7_ : wc.cell? ⟨g17, 7, none⟩ = some (.int .i64 z7) := (blk_cell HY.out.sb 7).trans rfl
  have hq8_ : wc.cell? ⟨g12, 8, none⟩ = some (.int .i64 0) := (blk_cell HY.out.x.rb 8).trans rfl
  have hf8_ := blk_frozen HY.out.x.rb 8
  have hz8_ : wc.cell? ⟨g17, 8, none⟩ = some (.int .i64 z8) := (blk_cell HY.out.sb 8).trans rfl
  have hq9_ : wc.cell? ⟨g12, 9, none⟩ = some (.int .i64 0) := (blk_cell HY.out.x.rb 9).trans rfl
  have hf9_ := blk_frozen HY.out.x.rb 9
  have hz9_ : wc.cell? ⟨g17, 9, none⟩ = some (.int .i64 z9) := (blk_cell HY.out.sb 9).trans rfl
  have hq10_ : wc.cell? ⟨g12, 10, none⟩ = some (.int .i64 0) := (blk_cell HY.out.x.rb 10).trans rfl
  have hf10_ := blk_frozen HY.out.x.rb 10
  have hz10_ : wc.cell? ⟨g17, 10, none⟩ = some (.int .i64 z10) := (blk_cell HY.out.sb 10).trans rfl
  have hgl12_ := blk_lt HY.out.x.rb
  go_wp2
  refine bodyPost_ret (results_ct rfl _ _ g12 39 #[.int .i64 z0, .int .i64 z1, .int .i64 z2, .int .i64 z3, .int .i64 z4, .int .i64 z5, .int .i64 z6, .int .i64 z7, .int .i64 z8, .int .i64 z9, .int .i64 z10] (0, 0) _ rfl (by (with_reducible exact Gnx.put11 _ _ _ _ _ _ _ _ _ _ _ _ _ _ _ _ _ _ _ _ _ _ HY.out.x.rb)) Tryd.underlying39 rfl (by kernel_rfl)) rfl ?_
  refine ⟨⟨⟨z0, z1, z2, z3, z4, z5, z6, z7, z8, z9, z10⟩, (r == 0), rfl, fun hb => HSN.out (by simpa using hb), ?_⟩⟩
  with_reducible exact XW.out11 HY.out.x _ _ _ _ _ _ _ _ _ _ _
end Go.Proofs.YtcalkhlchjjalaaDoor.Gmy
