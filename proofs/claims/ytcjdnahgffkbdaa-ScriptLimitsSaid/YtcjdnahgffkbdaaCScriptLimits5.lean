/- ScriptLimitsSaid -/
import Derived.Test.YtcjdnahgffkbdaaCScriptLimits4
import Derived.Deep.RegionLaw
namespace Go.Proofs.Ytcjdnahgffkbdaa.Sev
open Go Go.RowKit Go.Proofs Go.Proofs.Ytcjdnahgffkbdaa.Gm Go.Proofs.Ytcjdnahgffkbdaa.Gwa Go.Proofs.Ytcjdnahgffkbdaa.Gwb Go.Proofs.Ytcjdnahgffkbdaa.Gwd Go.Proofs.Ytcjdnahgffkbdaa.Srd Go.Proofs.Ytcjdnahgffkbdaa.Srs Go.Proofs.Ytcjdnahgffkbdaa.Sst Go.Proofs.Ytcjdnahgffkbdaa.Q Go.Proofs.YtcjdnahgffkbdaaW.PrintWords Go.Proofs.YtcjdnahgffkbdaaW.PrintLast Go.Proofs.YtcjdnahgffkbdaaW.PrintMore
set_option linter.unusedVariables false
/-- The reader behind some numbers; the numbers. -/
def stI (l : List UInt8) (a er : Int) : Nat → Int × Int
  | 0 => (a, er)
  | i + 1 => (rI l (stI l a er i).1 (stI l a er i).2).2
def nmI (l : List UInt8) (a er : Int) (i : Nat) : Int := (rI l (stI l a er i).1 (stI l a er i).2).1
theorem nm_step (l : List UInt8) (a er : Int) (i : Nat) : rI l (stI l a er i).1 (stI l a er i).2 = (nmI l a er i, (stI l a er (i + 1)).1, (stI l a er (i + 1)).2) := rfl
/-- Statements, unless there was an error. -/
def rSs (l : List UInt8) : Nat → List S64 → Int → Int → List S64 × Int × Int
  | 0, acc, a, er => (acc, a, er)
  | n + 1, acc, a, er => if er = 0 then rSs l n (acc ++ [(rS l a er).1]) (rS l a er).2.1 (rS l a er).2.2 else (acc, a, er)
def evT (l : List UInt8) (a er : Int) : ByteArray × Int × Int := th (⟨#[]⟩ : ByteArray) (textAt l (stI l a er 4).1 16384) (stI l a er 4).1 (stI l a er 4).2
def evC (l : List UInt8) (a er : Int) : Int × Int × Int := rC l (stI l (evT l a er).2.1 (evT l a er).2.2 2).1 (stI l (evT l a er).2.1 (evT l a er).2.2 2).2 256
/-- An event, unless there was an error. -/
def rE (l : List UInt8) (a er : Int) : S28 × Int × Int :=
  let t := evT l a er
  let ss := rSs l (evC l a er).1.toNat [] (evC l a er).2.1 (evC l a er).2.2
  (⟨nmI l a er 0, nmI l a er 1, nmI l a er 2, nmI l a er 3, t.1, ⟨nmI l t.2.1 t.2.2 0, nmI l t.2.1 t.2.2 1, ss.1⟩⟩, ss.2.1, ss.2.2)
def part4 (f : Nat → Int) (k : Nat) : Array Value := #[.int .i64 (if 0 < k then f 0 else 0), .int .i64 (if 1 < k then f 1 else 0), .int .i64 (if 2 < k then f 2 else 0), .int .i64 (if 3 < k then f 3 else 0), .string ⟨#[]⟩, .int .i64 0, .int .i64 0, .slice none 0 0]
theorem part4_zero (f : Nat → Int) : part4 f 0 = #[.int .i64 0, .int .i64 0, .int .i64 0, .int .i64 0, .string ⟨#[]⟩, .int .i64 0, .int .i64 0, .slice none 0 0] := by simp [part4]
theorem part4_full (f : Nat → Int) : part4 f 4 = #[.int .i64 (f 0), .int .i64 (f 1), .int .i64 (f 2), .int .i64 (f 3), .string ⟨#[]⟩, .int .i64 0, .int .i64 0, .slice none 0 0] := by simp [part4]
theorem k4 {k : Nat} (h : k < 4) : k = 0 ∨ k = 1 ∨ k = 2 ∨ k = 3 := by omega
theorem part4_set (f : Nat → Int) (k : Nat) (h : k < 4) : (part4 f k).setIfInBounds k (.int .i64 (f k)) = part4 f (k + 1) := by
  obtain rfl | rfl | rfl | rfl := k4 h <;> simp [part4]
theorem part4_at (f : Nat → Int) (k : Nat) (h : k < 4) : (part4 f k)[k]? = some (.int .i64 0) := by
  obtain rfl | rfl | rfl | rfl := k4 h <;> simp [part4]
theorem ix4 (ge k : Nat) (hk : k < 4) (W : World) : (Instr.index 86 (.agg #[.pointer (some ⟨ge, 0, none⟩), .pointer (some ⟨ge, 1, none⟩), .pointer (some ⟨ge, 2, none⟩), .pointer (some ⟨ge, 3, none⟩)]) (.int .i64 (k : Int))).run Try.prog W = .ok (.pointer (some ⟨ge, k, none⟩)) W := by
  have h := Try.underlying86
  have hi0 : (Try.prog.info? 65).map (fun i => i.size) = some 1 := by kernel_rfl
  obtain ⟨i0, hi, hsz⟩ := Option.map_eq_some_iff.1 hi0
  obtain rfl | rfl | rfl | rfl := k4 hk <;> simp [Instr.index, run_underlying h, asIntOf, sizeOf, typeInfo, go_sem, hi, hsz]
/-- What stands while an event is read: the reader, the answer's block, the event's block, its statements. -/
structure VW (w W0 W : World) (g : Nat) (l : List UInt8) (a er : Int) (gz ge : Nat) (cs : Array Value) (v : Value) (ss : List S64) : Prop where
  rd : RD w W g l a er
  kp : KeepBut W0 W g none
  bz : W.heap[gz]? = some (.cells #[.int .i64 0, .int .i64 0, .int .i64 0, .int .i64 0, .string ⟨#[]⟩, .int .i64 0, .int .i64 0, .slice none 0 0] 28 (0, 0))
  lz : W0.heap.size ≤ gz
  be : W.heap[ge]? = some (.cells cs 28 (0, 0))
  le : W0.heap.size ≤ ge
  nz : gz ≠ ge
  cr : Kd.R k64 64 W W0.heap.size (fun _ => True) v ss
section
variable {w W0 W W' : World} {g : Nat} {l : List UInt8} {a er a1 w1 : Int} {gz ge : Nat} {cs : Array Value} {v : Value} {ss : List S64}
theorem VW.below (h : VW w W0 W g l a er gz ge cs v ss) (hb : Below W.heap.size W W') : VW w W0 W' g l a er gz ge cs v ss :=
  ⟨h.rd.below hb, h.kp.trans (KeepBut.of_below hb g none) (.inl rfl), blk_below h.bz hb, h.lz, blk_below h.be hb, h.le, h.nz, Kd.R_below h.cr hb⟩
theorem VW.drew (h : VW w W0 W g l a er gz ge cs v ss) : VW w W0 W.drew g l a er gz ge cs v ss := h.below (below_drew1 (Below.refl _ _))
/-- Behind a call that turned the reader alone. -/
theorem VW.step (h : VW w W0 W g l a er gz ge cs v ss) (hg : g < W0.heap.size) (hd : RD w W' g l a1 w1) (hk : KeepBut W W' g none) : VW w W0 W' g l a1 w1 gz ge cs v ss :=
  ⟨hd, h.kp.trans hk (.inl rfl), hk.blk h.bz (by have := h.lz; omega) (by simp), h.lz, hk.blk h.be (by have := h.le; omega) (by simp), h.le, h.nz, Kd.R_mono (Kd.R_keep (Kd.R_types h.cr h.rd.bk (by first | decide | (intro q hq; rcases List.mem_cons.1 hq with h_ | h_; (subst h_; decide); (first | (cases h_; done) | (simp [k64] at h_))))) hk (fun _ z => z.2)) (fun _ z => z.1)⟩
theorem VW.set (h : VW w W0 W g l a er gz ge cs v ss) (h0 : w.heap.size ≤ W0.heap.size) (hg : g < W0.heap.size) (i : Nat) (u : Value) : VW w W0 (W.setCell ⟨ge, i, none⟩ u) g l a er gz ge (cs.setIfInBounds i u) v ss :=
  ⟨rd_far h.rd (p := ⟨ge, i, none⟩) (show g ≠ ge by have := h.le; omega) (Nat.le_trans h0 h.le) u, keep_far h.kp (p := ⟨ge, i, none⟩) h.le u, blk_far h.bz h.nz u, h.lz, blk_put h.be i u rfl, h.le, h.nz,
    Kd.R_mono (Kd.R_far (p := ⟨ge, i, none⟩) (Kd.R_types h.cr h.be (by first | decide | (intro q hq; rcases List.mem_cons.1 hq with h_ | h_; (subst h_; decide); (first | (cases h_; done) | (simp [k64] at h_))))) (fun _ hk => hk.2) u) (fun _ z => z.1)⟩
theorem VW.app {W' : World} {v1 : Value} {ss' : List S64} (h : VW w W0 W g l a er gz ge cs v ss) (h0 : w.heap.size ≤ W0.heap.size) (hr : Kd.R k64 64 W' W0.heap.size (fun _ => True) v1 ss') (hg : W.grownBy W' v.ownBlock) : VW w W0 W' g l a er gz ge cs v1 ss' := by
  have hb : ∀ b, v.ownBlock = some b → W0.heap.size ≤ b := fun b e => by
    obtain ⟨hok, inner, ho, hr⟩ := h.cr
    rcases ho.2 with ⟨rfl, -⟩ | ⟨g', cap, cur, rfl, hg', -⟩
    · cases e
    · simp [Value.ownBlock] at e
      subst e
      exact hg'
  exact ⟨⟨h.rd.hb.grown hg h.rd.hb.size (fun b e => Nat.le_trans h0 (hb b e)), h.rd.lo, blk_grown h.rd.bk hg (Kd.R_ne h.cr h.rd.bk (by decide))⟩, h.kp.trans (KeepBut.of_grown hg g) (by
    cases hv : v.ownBlock with
    | none => exact .inl rfl
    | some b => exact .inr ⟨b, rfl, hb b hv⟩), blk_grown h.bz hg (Kd.R_ne h.cr h.bz (by decide)), h.lz, blk_grown h.be hg (Kd.R_ne h.cr h.be (by decide)), h.le, h.nz, hr⟩
end
theorem info64 : (Try.prog.info? 64).map (fun i => (i.zero, i.size, i.bytes)) = some (some (.agg #[.int .i64 0, .int .i64 0, .int .i64 0, .int .i64 0, .int .i64 0, .int .i64 0, .int .i64 0, .int .i64 0, .int .i64 0, .int .i64 0, .int .i64 0]), 11, 88) := by kernel_rfl
theorem put8 {W : World} {g : Nat} {t : TypeId} (x0 x1 x2 x3 x4 x5 x6 x7 v0 v1 v2 v3 v4 v5 v6 v7 : Value) (h : W.heap[g]? = some (.cells #[x0, x1, x2, x3, x4, x5, x6, x7] t (0, 0))) : ((((((((W.setCell ⟨g, 0, none⟩ v0).setCell ⟨g, 1, none⟩ v1).setCell ⟨g, 2, none⟩ v2).setCell ⟨g, 3, none⟩ v3).setCell ⟨g, 4, none⟩ v4).setCell ⟨g, 5, none⟩ v5).setCell ⟨g, 6, none⟩ v6).setCell ⟨g, 7, none⟩ v7).heap[g]? = some (.cells #[v0, v1, v2, v3, v4, v5, v6, v7] t (0, 0)) := by
  have h0_ : (W.setCell ⟨g, 0, none⟩ v0).heap[g]? = some (.cells #[v0, x1, x2, x3, x4, x5, x6, x7] t (0, 0)) := blk_put h 0 v0 rfl
  have h1_ : ((W.setCell ⟨g, 0, none⟩ v0).setCell ⟨g, 1, none⟩ v1).heap[g]? = some (.cells #[v0, v1, x2, x3, x4, x5, x6, x7] t (0, 0)) := blk_put h0_ 1 v1 rfl
  have h2_ : (((W.setCell ⟨g, 0, none⟩ v0).setCell ⟨g, 1, none⟩ v1).setCell ⟨g, 2, none⟩ v2).heap[g]? = some (.cells #[v0, v1, v2, x3, x4, x5, x6, x7] t (0, 0)) := blk_put h1_ 2 v2 rfl
  have h3_ : ((((W.setCell ⟨g, 0, none⟩ v0).setCell ⟨g, 1, none⟩ v1).setCell ⟨g, 2, none⟩ v2).setCell ⟨g, 3, none⟩ v3).heap[g]? = some (.cells #[v0, v1, v2, v3, x4, x5, x6, x7] t (0, 0)) := blk_put h2_ 3 v3 rfl
  have h4_ : (((((W.setCell ⟨g, 0, none⟩ v0).setCell ⟨g, 1, none⟩ v1).setCell ⟨g, 2, none⟩ v2).setCell ⟨g, 3, none⟩ v3).setCell ⟨g, 4, none⟩ v4).heap[g]? = some (.cells #[v0, v1, v2, v3, v4, x5, x6, x7] t (0, 0)) := blk_put h3_ 4 v4 rfl
  have h5_ : ((((((W.setCell ⟨g, 0, none⟩ v0).setCell ⟨g, 1, none⟩ v1).setCell ⟨g, 2, none⟩ v2).setCell ⟨g, 3, none⟩ v3).setCell ⟨g, 4, none⟩ v4).setCell ⟨g, 5, none⟩ v5).heap[g]? = some (.cells #[v0, v1, v2, v3, v4, v5, x6, x7] t (0, 0)) := blk_put h4_ 5 v5 rfl
  have h6_ : (((((((W.setCell ⟨g, 0, none⟩ v0).setCell ⟨g, 1, none⟩ v1).setCell ⟨g, 2, none⟩ v2).setCell ⟨g, 3, none⟩ v3).setCell ⟨g, 4, none⟩ v4).setCell ⟨g, 5, none⟩ v5).setCell ⟨g, 6, none⟩ v6).heap[g]? = some (.cells #[v0, v1, v2, v3, v4, v5, v6, x7] t (0, 0)) := blk_put h5_ 6 v6 rfl
  have h7_ : ((((((((W.setCell ⟨g, 0, none⟩ v0).setCell ⟨g, 1, none⟩ v1).setCell ⟨g, 2, none⟩ v2).setCell ⟨g, 3, none⟩ v3).setCell ⟨g, 4, none⟩ v4).setCell ⟨g, 5, none⟩ v5).setCell ⟨g, 6, none⟩ v6).setCell ⟨g, 7, none⟩ v7).heap[g]? = some (.cells #[v0, v1, v2, v3, v4, v5, v6, v7] t (0, 0)) := blk_put h6_ 7 v7 rfl
  exact h7_
theorem far8 {w W0 W : World} {g gz : Nat} {l : List UInt8} {a wr : Int} {v : Value} {ss : List S64} {ge : Nat} {cs : Array Value} (h : VW w W0 W g l a wr gz ge cs v ss) (h0 : w.heap.size ≤ W0.heap.size) (hg : g < W0.heap.size) (v0 v1 v2 v3 v4 v5 v6 v7 : Value) : RD w ((((((((W.setCell ⟨gz, 0, none⟩ v0).setCell ⟨gz, 1, none⟩ v1).setCell ⟨gz, 2, none⟩ v2).setCell ⟨gz, 3, none⟩ v3).setCell ⟨gz, 4, none⟩ v4).setCell ⟨gz, 5, none⟩ v5).setCell ⟨gz, 6, none⟩ v6).setCell ⟨gz, 7, none⟩ v7) g l a wr ∧ KeepBut W0 ((((((((W.setCell ⟨gz, 0, none⟩ v0).setCell ⟨gz, 1, none⟩ v1).setCell ⟨gz, 2, none⟩ v2).setCell ⟨gz, 3, none⟩ v3).setCell ⟨gz, 4, none⟩ v4).setCell ⟨gz, 5, none⟩ v5).setCell ⟨gz, 6, none⟩ v6).setCell ⟨gz, 7, none⟩ v7) g none ∧ Kd.R k64 64 ((((((((W.setCell ⟨gz, 0, none⟩ v0).setCell ⟨gz, 1, none⟩ v1).setCell ⟨gz, 2, none⟩ v2).setCell ⟨gz, 3, none⟩ v3).setCell ⟨gz, 4, none⟩ v4).setCell ⟨gz, 5, none⟩ v5).setCell ⟨gz, 6, none⟩ v6).setCell ⟨gz, 7, none⟩ v7) W0.heap.size (fun _ => True) v ss := by
  have hne : g ≠ gz := by have := h.lz; omega
  have hw : w.heap.size ≤ gz := Nat.le_trans h0 h.lz
  have hz := h.lz
  have b0 := h.bz
  have r0 := h.rd
  have k0 := h.kp
  have c0 := Kd.R_mono (Kd.R_types h.cr h.bz (by first | decide | (intro q hq; rcases List.mem_cons.1 hq with h_ | h_; (subst h_; decide); (first | (cases h_; done) | (simp [k64] at h_))))) (fun k z => (z : True ∧ k ≠ gz))
  have r1 := rd_far r0 (p := ⟨gz, 0, none⟩) hne hw v0
  have k1 := keep_far k0 (p := ⟨gz, 0, none⟩) hz v0
  have c1 := Kd.R_far (p := ⟨gz, 0, none⟩) c0 (fun _ hk => hk.2) v0
  have r2 := rd_far r1 (p := ⟨gz, 1, none⟩) hne hw v1
  have k2 := keep_far k1 (p := ⟨gz, 1, none⟩) hz v1
  have c2 := Kd.R_far (p := ⟨gz, 1, none⟩) c1 (fun _ hk => hk.2) v1
  have r3 := rd_far r2 (p := ⟨gz, 2, none⟩) hne hw v2
  have k3 := keep_far k2 (p := ⟨gz, 2, none⟩) hz v2
  have c3 := Kd.R_far (p := ⟨gz, 2, none⟩) c2 (fun _ hk => hk.2) v2
  have r4 := rd_far r3 (p := ⟨gz, 3, none⟩) hne hw v3
  have k4 := keep_far k3 (p := ⟨gz, 3, none⟩) hz v3
  have c4 := Kd.R_far (p := ⟨gz, 3, none⟩) c3 (fun _ hk => hk.2) v3
  have r5 := rd_far r4 (p := ⟨gz, 4, none⟩) hne hw v4
  have k5 := keep_far k4 (p := ⟨gz, 4, none⟩) hz v4
  have c5 := Kd.R_far (p := ⟨gz, 4, none⟩) c4 (fun _ hk => hk.2) v4
  have r6 := rd_far r5 (p := ⟨gz, 5, none⟩) hne hw v5
  have k6 := keep_far k5 (p := ⟨gz, 5, none⟩) hz v5
  have c6 := Kd.R_far (p := ⟨gz, 5, none⟩) c5 (fun _ hk => hk.2) v5
  have r7 := rd_far r6 (p := ⟨gz, 6, none⟩) hne hw v6
  have k7 := keep_far k6 (p := ⟨gz, 6, none⟩) hz v6
  have c7 := Kd.R_far (p := ⟨gz, 6, none⟩) c6 (fun _ hk => hk.2) v6
  have r8 := rd_far r7 (p := ⟨gz, 7, none⟩) hne hw v7
  have k8 := keep_far k7 (p := ⟨gz, 7, none⟩) hz v7
  have c8 := Kd.R_far (p := ⟨gz, 7, none⟩) c7 (fun _ hk => hk.2) v7
  exact ⟨r8, k8, Kd.R_mono c8 (fun _ z => z.1)⟩
theorem rC_range {l : List UInt8} {a er n b v : Int} (h : rC l a er 256 = (n, b, v)) : 0 ≤ n ∧ n ≤ 256 := by
  unfold rC at h
  split at h
  · simp only [Prod.mk.injEq] at h
    omega
  case isFalse hn =>
    rw [h] at hn
    simp only at hn
    unfold rI th at h
    split at h
    · simp only [Prod.mk.injEq] at h
      omega
    · split at h
      · simp only [Prod.mk.injEq] at h
        omega
      · simp only [Prod.mk.injEq] at h
        have h3 : v = 0 := h.2.2.symm
        have h4 : ¬ (n < 0 ∨ 256 < n) := fun z => hn ⟨h3, z⟩
        omega
set_option maxRecDepth 100000 in
set_option maxHeartbeats 8000000 in
theorem revent_x (w W : World) (g : Nat) (l : List UInt8) (a er : Int) (h : RD w W g l a er) (hs : l.length ≤ 17592186044416) (x : S28) (a1 w1 : Int) (hr : rE l a er = (x, a1, w1)) :
    Calls Try.prog 27 #[.pointer (some ⟨g, 0, none⟩)] W fun e w' => ∃ v : Value, e = .returned (.agg #[.int .i64 x.f0, .int .i64 x.f1, .int .i64 x.f2, .int .i64 x.f3, .string x.f4, .int .i64 x.f5.f0, .int .i64 x.f5.f1, v]) ∧ Kd.R k64 64 w' W.heap.size (fun _ => True) v x.f5.f2 ∧ RD w w' g l a1 w1 ∧ KeepBut W w' g none := by
  have mixed : (Try.prog).follows .mixedOrders = true := by kernel_rfl
  have hu55 := Try.underlying55
  have hu28 := Try.underlying28
  have hu26 := Try.underlying26
  have huP := Try.underlying86
  obtain ⟨t, tb, te, hT⟩ : ∃ t tb te, evT l a er = (t, tb, te) := ⟨_, _, _, rfl⟩
  obtain ⟨n, nb, ne_, hC⟩ : ∃ n nb ne_, evC l a er = (n, nb, ne_) := ⟨_, _, _, rfl⟩
  obtain ⟨ss, sb, se, hS⟩ : ∃ ss sb se, rSs l n.toNat [] nb ne_ = (ss, sb, se) := ⟨_, _, _, rfl⟩
  have HTX : Hid (th (⟨#[]⟩ : ByteArray) (textAt l (stI l a er 4).1 16384) (stI l a er 4).1 (stI l a er 4).2 = (t, tb, te)) := Lib.hid hT
  have HCX : Hid (rC l (stI l tb te 2).1 (stI l tb te 2).2 256 = (n, nb, ne_)) := Lib.hid (by have h := hC; unfold evC at h; rw [hT] at h; exact h)
  have HSX := Lib.hid hS
  have hnr := rC_range HCX.out
  obtain ⟨rfl, rfl, rfl⟩ : (⟨nmI l a er 0, nmI l a er 1, nmI l a er 2, nmI l a er 3, t, ⟨nmI l tb te 0, nmI l tb te 1, ss⟩⟩ : S28) = x ∧ sb = a1 ∧ se = w1 := by
    have h := hr
    unfold rE at h
    simp only [hT, hC, hS, Prod.mk.injEq] at h
    exact ⟨h.1, h.2.1, h.2.2⟩
  have HG : Aside0 (g < W.heap.size) := ⟨rd_lt h⟩
  have HW : Aside0 (w.heap.size ≤ W.heap.size) := ⟨h.hb.size⟩
  have HX : Aside0 (VW w W ((W.alloc (.cells #[.int .i64 0, .int .i64 0, .int .i64 0, .int .i64 0, .string ⟨#[]⟩, .int .i64 0, .int .i64 0, .slice none 0 0] 28)).alloc (.cells #[.int .i64 0, .int .i64 0, .int .i64 0, .int .i64 0, .string ⟨#[]⟩, .int .i64 0, .int .i64 0, .slice none 0 0] 28)) g l a er W.heap.size (W.heap.size + 1) #[.int .i64 0, .int .i64 0, .int .i64 0, .int .i64 0, .string ⟨#[]⟩, .int .i64 0, .int .i64 0, .slice none 0 0] (.slice none 0 0) []) :=
    ⟨⟨(h.alloc _).alloc _, KeepBut.of_below (below_alloc (below_alloc (Below.refl _ _) _) _) g none, blk_alloc (heap_alloc_new W _) _, Nat.le_refl _, by have := heap_alloc_new (W.alloc (.cells #[.int .i64 0, .int .i64 0, .int .i64 0, .int .i64 0, .string ⟨#[]⟩, .int .i64 0, .int .i64 0, .slice none 0 0] 28)) (.cells #[.int .i64 0, .int .i64 0, .int .i64 0, .int .i64 0, .string ⟨#[]⟩, .int .i64 0, .int .i64 0, .slice none 0 0] 28); simpa using this, Nat.le_succ _, by omega, Kd.R_nil _ _ _ _ _⟩⟩
  clear h hr hT hC hS
  have HN0 : Hid (rI l tb te = (nmI l tb te 0, (stI l tb te 1).1, (stI l tb te 1).2)) := Lib.hid (nm_step l tb te 0)
  have HN1 : Hid (rI l (stI l tb te 1).1 (stI l tb te 1).2 = (nmI l tb te 1, (stI l tb te 2).1, (stI l tb te 2).2)) := Lib.hid (nm_step l tb te 1)
  go_enter Try.func27, Try.ntmps27
  go_upto_region 2 with fail
  obtain ⟨W1, hW1⟩ : ∃ W1, W1 = (W.alloc (.cells #[.int .i64 0, .int .i64 0, .int .i64 0, .int .i64 0, .string ⟨#[]⟩, .int .i64 0, .int .i64 0, .slice none 0 0] 28)).alloc (.cells #[.int .i64 0, .int .i64 0, .int .i64 0, .int .i64 0, .string ⟨#[]⟩, .int .i64 0, .int .i64 0, .slice none 0 0] 28) := ⟨_, rfl⟩
  rw [← hW1] at HX ⊢
  clear hW1
  obtain ⟨ge, hge⟩ : ∃ ge, W.heap.size + 1 = ge := ⟨_, rfl⟩
  rw [hge] at HX ⊢
  clear hge
  obtain ⟨gz, hgz⟩ : ∃ gz, W.heap.size = gz := ⟨_, rfl⟩
  have HX2 : Aside0 (VW w W W1 g l a er gz ge #[.int .i64 0, .int .i64 0, .int .i64 0, .int .i64 0, .string ⟨#[]⟩, .int .i64 0, .int .i64 0, .slice none 0 0] (.slice none 0 0) []) := ⟨by rw [← hgz]; exact HX.out⟩
  rw [hgz]
  clear HX hgz
  go_wp2
  go_loopw [12] (fun s12 wr => ∃ k : Nat, k ≤ 4 ∧ s12 = .int .i64 k ∧ Aside0 (VW w W wr g l (stI l a er k).1 (stI l a er k).2 gz ge (part4 (nmI l a er) k) (.slice none 0 0) [])) (fun s12 _ => 4 - (intOf s12).toNat)
  case atStart => exact ⟨0, by omega, rfl, by rw [part4_zero]; exact HX2⟩
  case round =>
    clear HX2
    obtain ⟨k, hk, rfl, HX⟩ := hrel
    have hgl := rd_lt HX.out.rd
    by_cases hk4 : k < 4
    case pos =>
      have hk4i : (k : Int) < 4 := by omega
      have hrix : ∀ W', (Instr.index 86 (.agg #[.pointer (some ⟨ge, 0, none⟩), .pointer (some ⟨ge, 1, none⟩), .pointer (some ⟨ge, 2, none⟩), .pointer (some ⟨ge, 3, none⟩)]) (.int .i64 (k : Int))).run Try.prog W' = .ok (.pointer (some ⟨ge, k, none⟩)) W' := fun W' => ix4 ge k hk4 W'
      go_wp2_with (first | (go_at_call 43; with_reducible refine (rint_x w _ g l _ _ HX.out.rd hs _ _ _ (nm_step l a er k)).mono ?_; rintro e w' ⟨rfl, hd, hk⟩; have n_ := Aside0.mk (VW.step HX.out HG.out hd hk); clear HX hd hk; have HX := n_; clear n_ hgl; have hgl := rd_lt HX.out.rd; have hc_ : w'.cell? ⟨ge, k, none⟩ = some (.int .i64 0) := (blk_cell HX.out.be k).trans (part4_at _ k hk4); have hf_ := blk_frozen HX.out.be k))
      go_roundw
      case rel => exact ⟨k + 1, by omega, by go_num, ⟨by have h := HX.out.set HW.out HG.out k (.int .i64 (nmI l a er k)); rw [part4_set _ k hk4] at h; exact h⟩⟩
      case measure => simp only [intOf]; omega
    case neg =>
    obtain rfl : k = 4 := by omega
    rw [part4_full] at HX
    go_upto_region 8 with (first | (go_at_call 44; with_reducible refine (then_text w _ g l _ _ HX.out.rd hs t tb te HTX.out).mono ?_; rintro e w' ⟨rfl, hd, hk⟩; have n_ := Aside0.mk (VW.step HX.out HG.out hd hk); clear HX hd hk; have HX := n_; clear n_ hgl; have hgl := rd_lt HX.out.rd; have hc4_ : w'.cell? ⟨ge, 4, none⟩ = some (.string ⟨#[]⟩) := (blk_cell HX.out.be 4).trans rfl; have hf4_ := blk_frozen HX.out.be 4))
    have HX1 : Aside0 (VW w W (w'.setCell ⟨ge, 4, none⟩ (.string t)) g l tb te gz ge #[.int .i64 (nmI l a er 0), .int .i64 (nmI l a er 1), .int .i64 (nmI l a er 2), .int .i64 (nmI l a er 3), .string t, .int .i64 0, .int .i64 0, .slice none 0 0] (.slice none 0 0) []) := ⟨by have h := HX.out.set HW.out HG.out 4 (.string t); exact h⟩
    clear HX hgl hc4_ hf4_
    have HX := HX1
    clear HX1
    generalize w'.setCell ⟨ge, 4, none⟩ (.string t) = W4 at HX ⊢
    go_upto_region 9 with (first | (go_at_call 43; go_loud (with_reducible refine (rint_x w W4 g l tb te HX.out.rd hs (nmI l tb te 0) (stI l tb te 1).1 (stI l tb te 1).2 HN0.out).mono ?_); go_loud (rintro e w' ⟨rfl, hd, hk⟩; have n_ := Aside0.mk (VW.step HX.out HG.out hd hk); clear HX hd hk; have HX := n_; clear n_); have hgl := rd_lt HX.out.rd) | (go_at_call 43; with_reducible refine (rint_x w _ g l _ _ HX.out.rd hs (nmI l tb te 1) (stI l tb te 2).1 (stI l tb te 2).2 HN1.out).mono ?_; rintro e w' ⟨rfl, hd, hk⟩; have n_ := Aside0.mk (VW.step HX.out HG.out hd hk); clear HX hd hk; have HX := n_; clear n_ hgl; have hgl := rd_lt HX.out.rd; have hc5_ : w'.cell? ⟨ge, 5, none⟩ = some (.int .i64 0) := (blk_cell HX.out.be 5).trans rfl; have hf5_ := blk_frozen HX.out.be 5; have hc6_ : w'.cell? ⟨ge, 6, none⟩ = some (.int .i64 0) := (blk_cell HX.out.be 6).trans rfl; have hf6_ := blk_frozen HX.out.be 6))
    have HX1 : Aside0 (VW w W ((w'.setCell ⟨ge, 5, none⟩ (.int .i64 (nmI l tb te 0))).setCell ⟨ge, 6, none⟩ (.int .i64 (nmI l tb te 1))) g l (stI l tb te 2).1 (stI l tb te 2).2 gz ge #[.int .i64 (nmI l a er 0), .int .i64 (nmI l a er 1), .int .i64 (nmI l a er 2), .int .i64 (nmI l a er 3), .string t, .int .i64 (nmI l tb te 0), .int .i64 (nmI l tb te 1), .slice none 0 0] (.slice none 0 0) []) := ⟨by have h := (HX.out.set HW.out HG.out 5 (.int .i64 (nmI l tb te 0))).set HW.out HG.out 6 (.int .i64 (nmI l tb te 1)); exact h⟩
    clear HX hgl hc5_ hf5_ hc6_ hf6_
    have HX := HX1
    clear HX1
    generalize (w'.setCell ⟨ge, 5, none⟩ (.int .i64 (nmI l tb te 0))).setCell ⟨ge, 6, none⟩ (.int .i64 (nmI l tb te 1)) = W6 at HX ⊢
    go_wp2_with (first | (go_at_call 26; with_reducible refine (rcount_x w _ g l _ _ 256 HX.out.rd hs n nb ne_ HCX.out).mono ?_; rintro e w' ⟨rfl, hd, hk⟩; have n_ := Aside0.mk (VW.step HX.out HG.out hd hk); clear HX hd hk; have HX := n_; clear n_; have hgl := rd_lt HX.out.rd))
    obtain ⟨m0, rfl⟩ : ∃ m0 : Nat, n = (m0 : Int) := ⟨n.toNat, by omega⟩
    have HSX2 : Hid (rSs l m0 [] nb ne_ = (ss, sb, se)) := Lib.hid (by have h := HSX.out; rw [Int.toNat_natCast] at h; exact h)
    clear HSX hgl
    go_loopw [6] (fun s6 wr => ∃ (m : Nat) (acc : List S64) (v : Value) (aa ee : Int), s6 = .int .i64 m ∧ m ≤ 256 ∧ acc.length + m ≤ 256 ∧ Hid (rSs l m acc aa ee = (ss, sb, se)) ∧ Aside0 (VW w W wr g l aa ee gz ge #[.int .i64 (nmI l a er 0), .int .i64 (nmI l a er 1), .int .i64 (nmI l a er 2), .int .i64 (nmI l a er 3), .string t, .int .i64 (nmI l tb te 0), .int .i64 (nmI l tb te 1), v] v acc)) (fun s6 _ => (intOf s6).toNat)
    case atStart => exact ⟨m0, [], _, nb, ne_, rfl, by omega, by simp; omega, HSX2, HX⟩
    case round =>
      clear HX HSX2
      obtain ⟨m, acc, v, aa, ee, rfl, hm, hac, HS, HX⟩ := hrel
      obtain ⟨A, c, hv⟩ := Kd.R_slice HX.out.cr
      subst hv
      have hgl := rd_lt HX.out.rd
      have hq2 : wr.cell? ⟨g, 2, none⟩ = some (.int .i64 ee) := (blk_cell HX.out.rd.bk 2).trans rfl
      by_cases hm0 : m = 0
      case pos =>
        subst hm0
        obtain ⟨rfl, rfl, rfl⟩ : acc = ss ∧ aa = sb ∧ ee = se := by have h := HS.out; rw [rSs] at h; simpa using h
        rw [show ((0 : Nat) : Int) = 0 from rfl]
        have he0_ : wr.cell? ⟨ge, 0, none⟩ = some (.int .i64 (nmI l a er 0)) := (blk_cell HX.out.be 0).trans rfl
        have he1_ : wr.cell? ⟨ge, 1, none⟩ = some (.int .i64 (nmI l a er 1)) := (blk_cell HX.out.be 1).trans rfl
        have he2_ : wr.cell? ⟨ge, 2, none⟩ = some (.int .i64 (nmI l a er 2)) := (blk_cell HX.out.be 2).trans rfl
        have he3_ : wr.cell? ⟨ge, 3, none⟩ = some (.int .i64 (nmI l a er 3)) := (blk_cell HX.out.be 3).trans rfl
        have he4_ : wr.cell? ⟨ge, 4, none⟩ = some (.string t) := (blk_cell HX.out.be 4).trans rfl
        have he5_ : wr.cell? ⟨ge, 5, none⟩ = some (.int .i64 (nmI l tb te 0)) := (blk_cell HX.out.be 5).trans rfl
        have he6_ : wr.cell? ⟨ge, 6, none⟩ = some (.int .i64 (nmI l tb te 1)) := (blk_cell HX.out.be 6).trans rfl
        have he7_ : wr.cell? ⟨ge, 7, none⟩ = some (.slice A acc.length c) := (blk_cell HX.out.be 7).trans rfl
        have hz0_ : wr.cell? ⟨gz, 0, none⟩ = some (.int .i64 0) := (blk_cell HX.out.bz 0).trans rfl
        have hz1_ : wr.cell? ⟨gz, 1, none⟩ = some (.int .i64 0) := (blk_cell HX.out.bz 1).trans rfl
        have hz2_ : wr.cell? ⟨gz, 2, none⟩ = some (.int .i64 0) := (blk_cell HX.out.bz 2).trans rfl
        have hz3_ : wr.cell? ⟨gz, 3, none⟩ = some (.int .i64 0) := (blk_cell HX.out.bz 3).trans rfl
        have hz4_ : wr.cell? ⟨gz, 4, none⟩ = some (.string ⟨#[]⟩) := (blk_cell HX.out.bz 4).trans rfl
        have hz5_ : wr.cell? ⟨gz, 5, none⟩ = some (.int .i64 0) := (blk_cell HX.out.bz 5).trans rfl
        have hz6_ : wr.cell? ⟨gz, 6, none⟩ = some (.int .i64 0) := (blk_cell HX.out.bz 6).trans rfl
        have hz7_ : wr.cell? ⟨gz, 7, none⟩ = some (.slice none 0 0) := (blk_cell HX.out.bz 7).trans rfl
        have hfz0_ := blk_frozen HX.out.bz 0
        have hfz1_ := blk_frozen HX.out.bz 1
        have hfz2_ := blk_frozen HX.out.bz 2
        have hfz3_ := blk_frozen HX.out.bz 3
        have hfz4_ := blk_frozen HX.out.bz 4
        have hfz5_ := blk_frozen HX.out.bz 5
        have hfz6_ := blk_frozen HX.out.bz 6
        have hfz7_ := blk_frozen HX.out.bz 7
        have hgz_ := blk_lt HX.out.bz
        have hge_ := blk_lt HX.out.be
        go_wp2
        refine bodyPost_ret (results_cell_row rfl _ _ gz 28 #[.int .i64 (nmI l a er 0), .int .i64 (nmI l a er 1), .int .i64 (nmI l a er 2), .int .i64 (nmI l a er 3), .string t, .int .i64 (nmI l tb te 0), .int .i64 (nmI l tb te 1), .slice A acc.length c] (0, 0) _ rfl (by with_reducible exact put8 _ _ _ _ _ _ _ _ _ _ _ _ _ _ _ _ HX.out.bz) Try.underlying28 rfl (by kernel_rfl)) rfl ?_
        have hf := far8 HX.out HW.out HG.out (.int .i64 (nmI l a er 0)) (.int .i64 (nmI l a er 1)) (.int .i64 (nmI l a er 2)) (.int .i64 (nmI l a er 3)) (.string t) (.int .i64 (nmI l tb te 0)) (.int .i64 (nmI l tb te 1)) (.slice A acc.length c)
        exact ⟨_, rfl, hf.2.2, hf.1, hf.2.1⟩
      case neg =>
      have d0 : decide (0 < (m : Int)) = true := decide_eq_true (by omega)
      by_cases he : ee = 0
      case neg =>
        obtain ⟨rfl, rfl, rfl⟩ : acc = ss ∧ aa = sb ∧ ee = se := by
          have h := HS.out
          obtain ⟨m', rfl⟩ : ∃ m', m = m' + 1 := ⟨m - 1, by omega⟩
          rw [rSs, if_neg he] at h
          simpa using h
        have g0 := beq_eq_false_iff_ne.2 he
        clear he
        have he0_ : wr.cell? ⟨ge, 0, none⟩ = some (.int .i64 (nmI l a er 0)) := (blk_cell HX.out.be 0).trans rfl
        have he1_ : wr.cell? ⟨ge, 1, none⟩ = some (.int .i64 (nmI l a er 1)) := (blk_cell HX.out.be 1).trans rfl
        have he2_ : wr.cell? ⟨ge, 2, none⟩ = some (.int .i64 (nmI l a er 2)) := (blk_cell HX.out.be 2).trans rfl
        have he3_ : wr.cell? ⟨ge, 3, none⟩ = some (.int .i64 (nmI l a er 3)) := (blk_cell HX.out.be 3).trans rfl
        have he4_ : wr.cell? ⟨ge, 4, none⟩ = some (.string t) := (blk_cell HX.out.be 4).trans rfl
        have he5_ : wr.cell? ⟨ge, 5, none⟩ = some (.int .i64 (nmI l tb te 0)) := (blk_cell HX.out.be 5).trans rfl
        have he6_ : wr.cell? ⟨ge, 6, none⟩ = some (.int .i64 (nmI l tb te 1)) := (blk_cell HX.out.be 6).trans rfl
        have he7_ : wr.cell? ⟨ge, 7, none⟩ = some (.slice A acc.length c) := (blk_cell HX.out.be 7).trans rfl
        have hz0_ : wr.cell? ⟨gz, 0, none⟩ = some (.int .i64 0) := (blk_cell HX.out.bz 0).trans rfl
        have hz1_ : wr.cell? ⟨gz, 1, none⟩ = some (.int .i64 0) := (blk_cell HX.out.bz 1).trans rfl
        have hz2_ : wr.cell? ⟨gz, 2, none⟩ = some (.int .i64 0) := (blk_cell HX.out.bz 2).trans rfl
        have hz3_ : wr.cell? ⟨gz, 3, none⟩ = some (.int .i64 0) := (blk_cell HX.out.bz 3).trans rfl
        have hz4_ : wr.cell? ⟨gz, 4, none⟩ = some (.string ⟨#[]⟩) := (blk_cell HX.out.bz 4).trans rfl
        have hz5_ : wr.cell? ⟨gz, 5, none⟩ = some (.int .i64 0) := (blk_cell HX.out.bz 5).trans rfl
        have hz6_ : wr.cell? ⟨gz, 6, none⟩ = some (.int .i64 0) := (blk_cell HX.out.bz 6).trans rfl
        have hz7_ : wr.cell? ⟨gz, 7, none⟩ = some (.slice none 0 0) := (blk_cell HX.out.bz 7).trans rfl
        have hfz0_ := blk_frozen HX.out.bz 0
        have hfz1_ := blk_frozen HX.out.bz 1
        have hfz2_ := blk_frozen HX.out.bz 2
        have hfz3_ := blk_frozen HX.out.bz 3
        have hfz4_ := blk_frozen HX.out.bz 4
        have hfz5_ := blk_frozen HX.out.bz 5
        have hfz6_ := blk_frozen HX.out.bz 6
        have hfz7_ := blk_frozen HX.out.bz 7
        have hgz_ := blk_lt HX.out.bz
        have hge_ := blk_lt HX.out.be
        go_wp2
        refine bodyPost_ret (results_cell_row rfl _ _ gz 28 #[.int .i64 (nmI l a er 0), .int .i64 (nmI l a er 1), .int .i64 (nmI l a er 2), .int .i64 (nmI l a er 3), .string t, .int .i64 (nmI l tb te 0), .int .i64 (nmI l tb te 1), .slice A acc.length c] (0, 0) _ rfl (by with_reducible exact put8 _ _ _ _ _ _ _ _ _ _ _ _ _ _ _ _ HX.out.bz) Try.underlying28 rfl (by kernel_rfl)) rfl ?_
        have hf := far8 HX.out HW.out HG.out (.int .i64 (nmI l a er 0)) (.int .i64 (nmI l a er 1)) (.int .i64 (nmI l a er 2)) (.int .i64 (nmI l a er 3)) (.string t) (.int .i64 (nmI l tb te 0)) (.int .i64 (nmI l tb te 1)) (.slice A acc.length c)
        exact ⟨_, rfl, hf.2.2, hf.1, hf.2.1⟩
      case pos =>
        subst he
        obtain ⟨⟨s0, s1, s2, s3, s4, s5, s6, s7, s8, s9, s10⟩, a2, e2, hsr⟩ : ∃ s a2 e2, rS l aa 0 = (s, a2, e2) := ⟨_, _, _, rfl⟩
        have HSR := Lib.hid hsr
        have HSM : Hid (rSs l (m - 1) (acc ++ [(⟨s0, s1, s2, s3, s4, s5, s6, s7, s8, s9, s10⟩ : S64)]) a2 e2 = (ss, sb, se)) := Lib.hid (by
          have h := HS.out
          obtain ⟨m', rfl⟩ : ∃ m', m = m' + 1 := ⟨m - 1, by omega⟩
          rw [rSs, if_pos rfl, hsr] at h
          exact h)
        clear hsr HS
        have hle : (acc.length + 1) * 88 ≤ 140737488355328 := by omega
        have hm1 : IntKind.i64.wrap ((m : Int) - 1) = ((m - 1 : Nat) : Int) := by rw [IntWalk.i64_in _ (by omega)]; omega
        have hc7 : wr.cell? ⟨ge, 7, none⟩ = some (.slice A acc.length c) := (blk_cell HX.out.be 7).trans rfl
        have hf7 := blk_frozen HX.out.be 7
        go_upto_region 12 with fail
        go_region_law (first | (go_loud (refine Kd.R_append_step k64 (w0 := w') (W := w') W.heap.size rfl (.tmp 46) (.tmp 49) 24 64 (.agg #[.int .i64 0, .int .i64 0, .int .i64 0, .int .i64 0, .int .i64 0, .int .i64 0, .int .i64 0, .int .i64 0, .int .i64 0, .int .i64 0, .int .i64 0]) 88 rfl Try.underlying24 info64 rfl (by decide) (by omega) (.slice A acc.length c) acc (⟨s0, s1, s2, s3, s4, s5, s6, s7, s8, s9, s10⟩ : S64) [.int .i64 s0, .int .i64 s1, .int .i64 s2, .int .i64 s3, .int .i64 s4, .int .i64 s5, .int .i64 s6, .int .i64 s7, .int .i64 s8, .int .i64 s9, .int .i64 s10] (fun _ => True) (fun _ => False) ?hs ?hx (k64_mkM _ _ _ _) (fun _ h => h.elim) (fun _ _ => trivial) HX.out.cr (Below.refl _ _) HX.out.kp.1 hle ?_); go_loud (case hs => first | rfl | go_simp); go_loud (case hx => first | rfl | go_simp); go_loud (intro v1 w2_ ho hb hg hat; obtain ⟨A2, c2, e2_⟩ := Kd.R_slice ho; subst e2_; have n_ := Aside0.mk (VW.app HX.out HW.out ho hg); clear HX ho hb hg hat hgl; have HX := n_; clear n_; have hc7_ : w2_.cell? ⟨ge, 7, none⟩ = some (.slice A acc.length c) := (blk_cell HX.out.be 7).trans rfl; have hf7_ := blk_frozen HX.out.be 7; have hgl := rd_lt HX.out.rd; have hgel_ := blk_lt HX.out.be)) | (go_simp; go_at_call 47; go_loud (with_reducible refine (rstat_x w _ g l aa 0 HX.out.drew.rd hs (⟨s0, s1, s2, s3, s4, s5, s6, s7, s8, s9, s10⟩ : S64) a2 e2 HSR.out).mono ?_); go_loud (rintro e w' ⟨rfl, hd, hk⟩; have n_ := Aside0.mk (VW.step HX.out.drew HG.out hd hk); clear HX hd hk hgl; have HX := n_; clear n_; have hc7_ : w'.cell? ⟨ge, 7, none⟩ = some (.slice A acc.length c) := (blk_cell HX.out.be 7).trans rfl; have hf7_ := blk_frozen HX.out.be 7; have hgl := rd_lt HX.out.rd; have hgel_ := blk_lt HX.out.be)))
        all_goals
          have HX3 : Aside0 (VW w W (w2_.setCell ⟨ge, 7, none⟩ (.slice A2 (acc.length + 1) c2)) g l a2 e2 gz ge #[.int .i64 (nmI l a er 0), .int .i64 (nmI l a er 1), .int .i64 (nmI l a er 2), .int .i64 (nmI l a er 3), .string t, .int .i64 (nmI l tb te 0), .int .i64 (nmI l tb te 1), .slice A2 (acc.length + 1) c2] (.slice A2 (acc.length + 1) c2) (acc ++ [(⟨s0, s1, s2, s3, s4, s5, s6, s7, s8, s9, s10⟩ : S64)])) := ⟨by
            have h := HX.out.set HW.out HG.out 7 (.slice A2 (acc.length + 1) c2)
            rw [List.length_append, List.length_singleton] at h
            exact h⟩
          generalize w2_.setCell ⟨ge, 7, none⟩ (.slice A2 (acc.length + 1) c2) = W7 at HX3 ⊢
          clear HX hgl hc7 hf7 hc7_ hf7_
          go_wp2_with fail
          go_roundw
          case rel => exact ⟨m - 1, acc ++ [(⟨s0, s1, s2, s3, s4, s5, s6, s7, s8, s9, s10⟩ : S64)], _, a2, e2, by go_num, by omega, by simp; omega, HSM, HX3⟩
          case measure => simp only [intOf]; omega
end Go.Proofs.Ytcjdnahgffkbdaa.Sev

namespace Go.Proofs.Ytcjdnahgffkbdaa.Sgt
open Go Go.RowKit Go.Proofs Go.Proofs.Ytcjdnahgffkbdaa.Gm Go.Proofs.Ytcjdnahgffkbdaa.Gwa Go.Proofs.Ytcjdnahgffkbdaa.Gwb Go.Proofs.Ytcjdnahgffkbdaa.Gwd Go.Proofs.Ytcjdnahgffkbdaa.Srd Go.Proofs.Ytcjdnahgffkbdaa.Srs Go.Proofs.Ytcjdnahgffkbdaa.Sst Go.Proofs.Ytcjdnahgffkbdaa.Sev Go.Proofs.Ytcjdnahgffkbdaa.Q Go.Proofs.YtcjdnahgffkbdaaW.PrintWords Go.Proofs.YtcjdnahgffkbdaaW.PrintLast Go.Proofs.YtcjdnahgffkbdaaW.PrintMore
set_option linter.unusedVariables false
end Go.Proofs.Ytcjdnahgffkbdaa.Sgt

namespace Go.Proofs.Ytcjdnahgffkbdaa.Sdc
open Go Go.RowKit Go.Proofs Go.Proofs.Ytcjdnahgffkbdaa.Gm Go.Proofs.Ytcjdnahgffkbdaa.Gwa Go.Proofs.Ytcjdnahgffkbdaa.Gwb Go.Proofs.Ytcjdnahgffkbdaa.Gwd Go.Proofs.Ytcjdnahgffkbdaa.Srd Go.Proofs.Ytcjdnahgffkbdaa.Srs Go.Proofs.Ytcjdnahgffkbdaa.Sst Go.Proofs.Ytcjdnahgffkbdaa.Sev Go.Proofs.Ytcjdnahgffkbdaa.Sgt Go.Proofs.Ytcjdnahgffkbdaa.Q Go.Proofs.YtcjdnahgffkbdaaW.PrintWords Go.Proofs.YtcjdnahgffkbdaaW.PrintLast Go.Proofs.YtcjdnahgffkbdaaW.PrintMore
set_option linter.unusedVariables false
/-- Events, unless there was an error. -/
def rEs (l : List UInt8) : Nat → List S28 → Int → Int → List S28 × Int × Int
  | 0, acc, a, er => (acc, a, er)
  | n + 1, acc, a, er => if er = 0 then rEs l n (acc ++ [(rE l a er).1]) (rE l a er).2.1 (rE l a er).2.2 else (acc, a, er)
/-- What script.Decode answers. -/
def decR (l : List UInt8) : List S28 × Int :=
  let p := rEs l (rC l 0 0 256).1.toNat [] (rC l 0 0 256).2.1 (rC l 0 0 256).2.2
  if p.2.2 ≠ 0 then ([], p.2.2) else if p.2.1 ≠ l.length then ([], 2) else (p.1, 0)
/-- The reader, and the events so far. -/
structure DW (w W : World) (g : Nat) (l : List UInt8) (a er : Int) (v : Value) (es : List S28) : Prop where
  rd : RD w W g l a er
  cr : Kd.R k28 28 W w.heap.size (fun _ => True) v es
section
variable {w W W' : World} {g : Nat} {l : List UInt8} {a er a1 w1 : Int} {v v1 : Value} {es es' : List S28}
theorem DW.below (h : DW w W g l a er v es) (hb : Below W.heap.size W W') : DW w W' g l a er v es := ⟨h.rd.below hb, Kd.R_below h.cr hb⟩
theorem DW.step (h : DW w W g l a er v es) (hd : RD w W' g l a1 w1) (hk : KeepBut W W' g none) : DW w W' g l a1 w1 v es :=
  ⟨hd, Kd.R_mono (Kd.R_keep (Kd.R_types h.cr h.rd.bk (by first | decide | (intro q hq; rcases List.mem_cons.1 hq with h_ | h_; (subst h_; decide); (first | (cases h_; done) | (simp [k28, k26, k64] at h_; first | done | (subst h_; decide)))))) hk (fun _ z => z.2)) (fun _ z => z.1)⟩
theorem DW.app (h : DW w W g l a er v es) (hr : Kd.R k28 28 W' w.heap.size (fun _ => True) v1 es') (hg : W.grownBy W' v.ownBlock) : DW w W' g l a er v1 es' :=
  ⟨⟨h.rd.hb.grown hg h.rd.hb.size (fun b e => Kd.R_base h.cr b e), h.rd.lo, blk_grown h.rd.bk hg (Kd.R_ne h.cr h.rd.bk (by decide))⟩, hr⟩
theorem DW.set (h : DW w W g l a er v es) (i : Nat) (u : Value) (hd : RD w (W.setCell ⟨g, i, none⟩ u) g l a1 w1) : DW w (W.setCell ⟨g, i, none⟩ u) g l a1 w1 v es :=
  ⟨hd, Kd.R_mono (Kd.R_far (p := ⟨g, i, none⟩) (Kd.R_types h.cr h.rd.bk (by first | decide | (intro q hq; rcases List.mem_cons.1 hq with h_ | h_; (subst h_; decide); (first | (cases h_; done) | (simp [k28, k26, k64] at h_; first | done | (subst h_; decide)))))) (fun _ hk => hk.2) u) (fun _ z => z.1)⟩
end
theorem info28 : (Try.prog.info? 28).map (fun i => (i.zero, i.size, i.bytes)) = some (some (.agg #[.int .i64 0, .int .i64 0, .int .i64 0, .int .i64 0, .string ⟨#[]⟩, .int .i64 0, .int .i64 0, .slice none 0 0]), 8, 88) := by kernel_rfl
set_option maxRecDepth 100000 in
set_option maxHeartbeats 8000000 in
theorem dec_x (l : List UInt8) (hs : l.length ≤ 17592186044416) (w : World) (x : List S28) (e : Int) (hr : decR l = (x, e)) :
    Calls Try.prog 10 #[.string (B l)] w fun e' w' => ∃ v : Value, e' = .returned (.tuple #[v, .int .i64 e]) ∧ Kd.R k28 28 w' w.heap.size (fun _ => True) v x ∧ Below w.heap.size w w' := by
  have mixed : (Try.prog).follows .mixedOrders = true := by kernel_rfl
  have hu55 := Try.underlying55
  have hu28 := Try.underlying28
  have hu26 := Try.underlying26
  obtain ⟨n, nb, ne_, hC⟩ : ∃ n nb ne_, rC l 0 0 256 = (n, nb, ne_) := ⟨_, _, _, rfl⟩
  obtain ⟨es, sb, se, hS⟩ : ∃ es sb se, rEs l n.toNat [] nb ne_ = (es, sb, se) := ⟨_, _, _, rfl⟩
  have HC := Lib.hid hC
  have HSX := Lib.hid hS
  have hnr := rC_range hC
  have HR : Hid ((if se ≠ 0 then ([], se) else if sb ≠ l.length then ([], 2) else (es, 0)) = (x, e)) := Lib.hid (by rw [← hr]; unfold decR; simp only [hC, hS])
  have HX : Aside0 (DW w (w.alloc (.cells #[.string (B l), .int .i64 0, .int .i64 0] 55)) w.heap.size l 0 0 (.slice none 0 0) []) := ⟨⟨⟨below_alloc (Below.refl _ _) _, Nat.le_refl _, heap_alloc_new w _⟩, Kd.R_nil _ _ _ _ _⟩⟩
  have hbl : (B l).size = l.length := B_size l
  clear hr hC hS
  go_enter Try.func10, Try.ntmps10
  go_upto_region 3 with fail
  obtain ⟨W1, hW1⟩ : ∃ W1, W1 = w.alloc (.cells #[.string (B l), .int .i64 0, .int .i64 0] 55) := ⟨_, rfl⟩
  rw [← hW1] at HX ⊢
  clear hW1
  obtain ⟨g, hg⟩ : ∃ g, w.heap.size = g := ⟨_, rfl⟩
  have HX2 : Aside0 (DW w W1 g l 0 0 (.slice none 0 0) []) := ⟨by rw [← hg]; exact HX.out⟩
  rw [hg]
  clear HX hg
  go_wp2_with (first | (go_at_call 26; with_reducible refine (rcount_x w _ g l _ _ 256 HX2.out.rd hs n nb ne_ HC.out).mono ?_; rintro e w' ⟨rfl, hd, hk⟩; have HX := Aside0.mk (DW.step HX2.out hd hk); clear HX2 hd hk; have hgl := rd_lt HX.out.rd))
  obtain ⟨m0, rfl⟩ : ∃ m0 : Nat, n = (m0 : Int) := ⟨n.toNat, by omega⟩
  have HSX2 : Hid (rEs l m0 [] nb ne_ = (es, sb, se)) := Lib.hid (by have h := HSX.out; rw [Int.toNat_natCast] at h; exact h)
  clear HSX hgl
  go_loopw [5, 6] (fun s5 s6 wr => ∃ (m : Nat) (acc : List S28) (v : Value) (aa ee : Int), s5 = v ∧ s6 = .int .i64 m ∧ m ≤ 256 ∧ acc.length + m ≤ 256 ∧ Hid (rEs l m acc aa ee = (es, sb, se)) ∧ Aside0 (DW w wr g l aa ee v acc)) (fun _ s6 _ => (intOf s6).toNat)
  case atStart => exact ⟨m0, [], _, nb, ne_, rfl, rfl, by omega, by simp; omega, HSX2, HX⟩
  case round =>
    clear HX HSX2
    obtain ⟨m, acc, v, aa, ee, rfl, rfl, hm, hac, HS, HX⟩ := hrel
    obtain ⟨A, c, hv⟩ := Kd.R_slice HX.out.cr
    subst hv
    have hgl := rd_lt HX.out.rd
    have hq1 : wr.cell? ⟨g, 1, none⟩ = some (.int .i64 aa) := (blk_cell HX.out.rd.bk 1).trans rfl
    have hq2 : wr.cell? ⟨g, 2, none⟩ = some (.int .i64 ee) := (blk_cell HX.out.rd.bk 2).trans rfl
    have hf2 := blk_frozen HX.out.rd.bk 2
    by_cases hm0 : m = 0
    case pos =>
      subst hm0
      obtain ⟨rfl, rfl, rfl⟩ : acc = es ∧ aa = sb ∧ ee = se := by have h := HS.out; rw [rEs] at h; simpa using h
      rw [show ((0 : Nat) : Int) = 0 from rfl]
      by_cases he : ee = 0
      case neg =>
        have g0 := beq_eq_false_iff_ne.2 he
        have g1 := bne_t he
        obtain ⟨rfl, rfl⟩ : [] = x ∧ ee = e := by have h := HR.out; rw [if_pos he] at h; simpa using h
        clear he
        go_upto_region 10 with fail
        go_region
        all_goals (go_wp2_with fail)
        all_goals go_ret2
        all_goals exact ⟨_, rfl, Kd.R_nil _ _ _ _ _, by repeat (with_reducible first | exact HX.out.rd.hb | apply below_drew1 | refine below_set ?_ HX.out.rd.lo)⟩
      case pos =>
      have g0 : (ee == 0) = true := beq_iff_eq.2 he
      have g1 := bne_f he
      by_cases ha : aa = l.length
      case neg =>
        have d1 : (aa != ((B l).size : Int)) = true := bne_iff_ne.2 (by rw [hbl]; exact ha)
        obtain ⟨rfl, rfl⟩ : [] = x ∧ 2 = e := by have h := HR.out; rw [if_neg (fun z => z he), if_pos ha] at h; simpa using h
        clear ha he
        go_upto_region 10 with fail
        go_region
        all_goals (go_wp2_with fail)
        all_goals go_ret2
        all_goals exact ⟨_, rfl, Kd.R_nil _ _ _ _ _, by repeat (with_reducible first | exact HX.out.rd.hb | apply below_drew1 | refine below_set ?_ HX.out.rd.lo)⟩
      case pos =>
      have d1 : (aa != ((B l).size : Int)) = false := bne_eq_false_iff_eq.2 (by rw [hbl]; exact ha)
      obtain ⟨rfl, rfl⟩ : acc = x ∧ 0 = e := by have h := HR.out; rw [if_neg (fun z => z he), if_neg (fun z => z ha)] at h; simpa using h
      clear ha
      subst he
      go_wp2
      go_ret2
      exact ⟨_, rfl, HX.out.cr, HX.out.rd.hb⟩
    case neg =>
    have d0 : decide (0 < (m : Int)) = true := decide_eq_true (by omega)
    by_cases he : ee = 0
    case neg =>
      obtain ⟨rfl, rfl, rfl⟩ : acc = es ∧ aa = sb ∧ ee = se := by
        have h := HS.out
        obtain ⟨m', rfl⟩ : ∃ m', m = m' + 1 := ⟨m - 1, by omega⟩
        rw [rEs, if_neg he] at h
        simpa using h
      have g0 := beq_eq_false_iff_ne.2 he
      have g1 := bne_t he
      obtain ⟨rfl, rfl⟩ : [] = x ∧ ee = e := by have h := HR.out; rw [if_pos he] at h; simpa using h
      clear he
      go_upto_region 10 with fail
      go_region
      all_goals (go_wp2_with fail)
      all_goals go_ret2
      all_goals exact ⟨_, rfl, Kd.R_nil _ _ _ _ _, by repeat (with_reducible first | exact HX.out.rd.hb | apply below_drew1 | refine below_set ?_ HX.out.rd.lo)⟩
    case pos =>
      subst he
      obtain ⟨⟨x0, x1, x2, x3, x4, ⟨x5, x6, ss⟩⟩, a2, e2, hse⟩ : ∃ s a2 e2, rE l aa 0 = (s, a2, e2) := ⟨_, _, _, rfl⟩
      have HSE := Lib.hid hse
      have HSM : Hid (rEs l (m - 1) (acc ++ [(⟨x0, x1, x2, x3, x4, ⟨x5, x6, ss⟩⟩ : S28)]) a2 e2 = (es, sb, se)) := Lib.hid (by
        have h := HS.out
        obtain ⟨m', rfl⟩ : ∃ m', m = m' + 1 := ⟨m - 1, by omega⟩
        rw [rEs, if_pos rfl, hse] at h
        exact h)
      clear hse HS
      have hle : (acc.length + 1) * 88 ≤ 140737488355328 := by omega
      have hm1 : IntKind.i64.wrap ((m : Int) - 1) = ((m - 1 : Nat) : Int) := by rw [IntWalk.i64_in _ (by omega)]; omega
      go_wp2_with (first | (at_builtin; go_loud (refine Kd.R_append k28 (w0 := w') (W := w') w.heap.size rfl (.tmp 23) (.tmp 26) 29 28 (.agg #[.int .i64 0, .int .i64 0, .int .i64 0, .int .i64 0, .string ⟨#[]⟩, .int .i64 0, .int .i64 0, .slice none 0 0]) 88 rfl Try.underlying29 info28 rfl (by decide) (by omega) (.slice A acc.length c) acc (⟨x0, x1, x2, x3, x4, ⟨x5, x6, ss⟩⟩ : S28) [.int .i64 x0, .int .i64 x1, .int .i64 x2, .int .i64 x3, .string x4, .int .i64 x5, .int .i64 x6, .slice AS ss.length cS] (fun _ => True) (fun k => True ∧ some k ≠ (Value.slice A acc.length c).ownBlock) rfl rfl (k28_mkM _ _ _ (⟨x0, x1, x2, x3, x4, ⟨x5, x6, ss⟩⟩ : S28) HRS.out) (fun _ h => h) (fun _ _ => trivial) HX.out.cr (Below.refl _ _) HX.out.rd.hb.size hle ?_); go_loud (intro v1 w2_ ho hb hg hat; obtain ⟨A2, c2, e2_⟩ := Kd.R_slice ho; subst e2_; have n_ := Aside0.mk (DW.app HX.out ho hg); clear HX ho hb hg hat hgl; have HX := n_; clear n_; have hgl := rd_lt HX.out.rd)) | (go_at_call 27; go_loud (with_reducible refine (revent_x w wr g l aa 0 HX.out.rd hs (⟨x0, x1, x2, x3, x4, ⟨x5, x6, ss⟩⟩ : S28) a2 e2 HSE.out).mono ?_); go_loud (rintro e' w' ⟨vs, rfl, hR, hd, hk⟩; obtain ⟨AS, cS, evs⟩ := Kd.R_slice hR; subst evs; obtain ⟨inn, hown⟩ := Kd.R_own HX.out.cr; have HRS := Aside0.mk (Kd.R_lower (Kd.R_new hR hown) HX.out.rd.hb.size); have n_ := Aside0.mk (DW.step HX.out hd hk); clear HX hd hk hR hown hgl; have HX := n_; clear n_; have hgl := rd_lt HX.out.rd; (try dsimp only))))
      go_roundw
      case rel => exact ⟨m - 1, acc ++ [(⟨x0, x1, x2, x3, x4, ⟨x5, x6, ss⟩⟩ : S28)], _, a2, e2, by simp, by go_num, by omega, by simp; omega, HSM, HX⟩
      case measure => simp only [intOf]; omega
end Go.Proofs.Ytcjdnahgffkbdaa.Sdc

namespace Go.Proofs.Ytcjdnahgffkbdaa.Q
open Go.RowKit Go.Proofs.YtcjdnahgffkbdaaW.PrintWords Go.Proofs.YtcjdnahgffkbdaaW.PrintLast Go.Proofs.YtcjdnahgffkbdaaW.PrintMore Go.Proofs.Ytcjdnahgffkbdaa.Gput Go.Proofs.Ytcjdnahgffkbdaa.Gputl
attribute [local go_sem] max2_int min2_int max_two min_two max_three min_three max_four min_four   -- for this text's walks alone
set_option linter.unusedVariables false
set_option linter.unusedSimpArgs false
def script_Check.f (a0_0 : Int) (a0_1 : Int) (a0_2 : Int) (a0_3 : Int) (a0_4 : ByteArray) (a0_5 : Int) (a0_6 : Int) (l0_7 : List (S64)) : Option (Int) := if (a0_4.size : Int) > 16384 then (some 4) else (if (l0_7.length : Int) > 256 then (some 4) else (some 0))
set_option maxHeartbeats 8000000 in
set_option maxRecDepth 100000 in
theorem script_Check.calls (a0_0 : Int) (a0_1 : Int) (a0_2 : Int) (a0_3 : Int) (a0_4 : ByteArray) (a0_5 : Int) (a0_6 : Int) (A0_7 : Option Addr) (c0_7 : Nat) (l0_7 : List (S64)) (r : Int) (w : World) (hr0_7 : Kd.C k64 w A0_7 l0_7.length l0_7) (hc0_7 : l0_7.length ≤ c0_7) (h : script_Check.f a0_0 a0_1 a0_2 a0_3 a0_4 a0_5 a0_6 l0_7 = some r) :
    Calls Try.prog 22 #[.agg #[.int .i64 a0_0, .int .i64 a0_1, .int .i64 a0_2, .int .i64 a0_3, .string a0_4, .int .i64 a0_5, .int .i64 a0_6, .slice A0_7 l0_7.length c0_7]] w fun e w' => e = .returned (.int .i64 r) ∧ Below w.heap.size w w' := by
  have hu28 := Try.underlying28
  have HR0_7 := Aside0.mk hr0_7
  have HC0_7 := Aside0.mk hc0_7
  clear hr0_7 hc0_7
  have HB := Aside0.mk (Below.refl w.heap.size w)
  have H : (if (a0_4.size : Int) > 16384 then (some 4) else (if (l0_7.length : Int) > 256 then (some 4) else (some 0))) = some r := h
  clear h
  by_cases c2 : (a0_4.size : Int) > 16384
  · rw [if_pos c2] at H
    have c2b0 : decide (16384 < (a0_4.size : Int)) = true := decide_eq_true c2
    have c2b1 : decide (16384 < a0_4.size) = true := decide_eq_true (by omega)
    clear c2
    obtain rfl := Option.some.inj H
    go_enter Try.func22, Try.ntmps22
    go_wp2_with (first | ((with_reducible refine gate_dst (N := 1) rfl ?_); (try (refine gate_guard (by rfl) ?_; dsimp only)); refine box_event ?hg (N := 1) ?hd (cs := #[.int .i64 a0_0, .int .i64 a0_1, .int .i64 a0_2, .int .i64 a0_3, .string a0_4, .int .i64 a0_5, .int .i64 a0_6, .slice A0_7 l0_7.length c0_7]) (t := 28) ?hr ?_; (case hd => rfl); (case hg => rfl); (case hr => first | (go_simp; done) | (go_simp; rfl)); intro gb116 hg w3 hbox hb; have n0_ := Aside0.mk (below_step (by repeat (first | (with_reducible first | exact HB.out | apply below_alloc | apply pw_below_drewN | apply below_drew1) | exact HB.out)) hb); have n1_ := Aside0.mk (hbox); have n2_ := Aside0.mk ((by rw [hg]; exact (below_size (by repeat (first | (with_reducible first | exact HB.out | apply below_alloc | apply pw_below_drewN | apply below_drew1) | exact HB.out))) : w.heap.size ≤ gb116)); have n3_ := Aside0.mk ((by rw [hg]; exact (below_size (by repeat (first | (with_reducible first | exact HB.out | apply below_alloc | apply pw_below_drewN | apply below_drew1) | exact HB.out))) : w.heap.size ≤ gb116)); clear HB; have HB := n0_; have BK116 := n1_; have GW116 := n2_; have GE116 := n3_; clear n0_ n1_ n2_ n3_; clear hb hbox hg; have hcz4_0 : w3.cell? ⟨gb116, 0, none⟩ = some (.int .i64 a0_0) := (blk_cell BK116.out 0).trans rfl; have hcz4_1 : w3.cell? ⟨gb116, 1, none⟩ = some (.int .i64 a0_1) := (blk_cell BK116.out 1).trans rfl; have hcz4_2 : w3.cell? ⟨gb116, 2, none⟩ = some (.int .i64 a0_2) := (blk_cell BK116.out 2).trans rfl; have hcz4_3 : w3.cell? ⟨gb116, 3, none⟩ = some (.int .i64 a0_3) := (blk_cell BK116.out 3).trans rfl; have hcz4_4 : w3.cell? ⟨gb116, 4, none⟩ = some (.string a0_4) := (blk_cell BK116.out 4).trans rfl; have hcz4_5 : w3.cell? ⟨gb116, 5, none⟩ = some (.int .i64 a0_5) := (blk_cell BK116.out 5).trans rfl; have hcz4_6 : w3.cell? ⟨gb116, 6, none⟩ = some (.int .i64 a0_6) := (blk_cell BK116.out 6).trans rfl; have hcz4_7 : w3.cell? ⟨gb116, 7, none⟩ = some (.slice A0_7 l0_7.length c0_7) := (blk_cell BK116.out 7).trans rfl; have hfz4_0 := blk_frozen BK116.out 0; have hfz4_1 := blk_frozen BK116.out 1; have hfz4_2 := blk_frozen BK116.out 2; have hfz4_3 := blk_frozen BK116.out 3; have hfz4_4 := blk_frozen BK116.out 4; have hfz4_5 := blk_frozen BK116.out 5; have hfz4_6 := blk_frozen BK116.out 6; have hfz4_7 := blk_frozen BK116.out 7))
    go_ret
    exact ⟨by first | rfl | (simp [errW_none, errW_some] <;> rfl) | (simp [*, errW_none, errW_some] <;> rfl), by repeat (first | (with_reducible first | exact HB.out | apply below_alloc | apply pw_below_drewN | apply below_drew1 | refine below_set ?_ GE116.out) | exact HB.out)⟩
  · rw [if_neg c2] at H
    have c2b0 : decide (16384 < (a0_4.size : Int)) = false := decide_eq_false c2
    have c2b1 : decide (16384 < a0_4.size) = false := decide_eq_false (by omega)
    clear c2
    by_cases c5 : (l0_7.length : Int) > 256
    · rw [if_pos c5] at H
      have c5b0 : decide (256 < (l0_7.length : Int)) = true := decide_eq_true c5
      have c5b1 : decide (256 < l0_7.length) = true := decide_eq_true (by omega)
      clear c5
      obtain rfl := Option.some.inj H
      go_enter Try.func22, Try.ntmps22
      go_wp2_with (first | ((with_reducible refine gate_dst (N := 1) rfl ?_); (try (refine gate_guard (by rfl) ?_; dsimp only)); refine box_event ?hg (N := 1) ?hd (cs := #[.int .i64 a0_0, .int .i64 a0_1, .int .i64 a0_2, .int .i64 a0_3, .string a0_4, .int .i64 a0_5, .int .i64 a0_6, .slice A0_7 l0_7.length c0_7]) (t := 28) ?hr ?_; (case hd => rfl); (case hg => rfl); (case hr => first | (go_simp; done) | (go_simp; rfl)); intro gb116 hg w6 hbox hb; have n0_ := Aside0.mk (below_step (by repeat (first | (with_reducible first | exact HB.out | apply below_alloc | apply pw_below_drewN | apply below_drew1) | exact HB.out)) hb); have n1_ := Aside0.mk (hbox); have n2_ := Aside0.mk ((by rw [hg]; exact (below_size (by repeat (first | (with_reducible first | exact HB.out | apply below_alloc | apply pw_below_drewN | apply below_drew1) | exact HB.out))) : w.heap.size ≤ gb116)); have n3_ := Aside0.mk ((by rw [hg]; exact (below_size (by repeat (first | (with_reducible first | exact HB.out | apply below_alloc | apply pw_below_drewN | apply below_drew1) | exact HB.out))) : w.heap.size ≤ gb116)); clear HB; have HB := n0_; have BK116 := n1_; have GW116 := n2_; have GE116 := n3_; clear n0_ n1_ n2_ n3_; clear hb hbox hg; have hcz7_0 : w6.cell? ⟨gb116, 0, none⟩ = some (.int .i64 a0_0) := (blk_cell BK116.out 0).trans rfl; have hcz7_1 : w6.cell? ⟨gb116, 1, none⟩ = some (.int .i64 a0_1) := (blk_cell BK116.out 1).trans rfl; have hcz7_2 : w6.cell? ⟨gb116, 2, none⟩ = some (.int .i64 a0_2) := (blk_cell BK116.out 2).trans rfl; have hcz7_3 : w6.cell? ⟨gb116, 3, none⟩ = some (.int .i64 a0_3) := (blk_cell BK116.out 3).trans rfl; have hcz7_4 : w6.cell? ⟨gb116, 4, none⟩ = some (.string a0_4) := (blk_cell BK116.out 4).trans rfl; have hcz7_5 : w6.cell? ⟨gb116, 5, none⟩ = some (.int .i64 a0_5) := (blk_cell BK116.out 5).trans rfl; have hcz7_6 : w6.cell? ⟨gb116, 6, none⟩ = some (.int .i64 a0_6) := (blk_cell BK116.out 6).trans rfl; have hcz7_7 : w6.cell? ⟨gb116, 7, none⟩ = some (.slice A0_7 l0_7.length c0_7) := (blk_cell BK116.out 7).trans rfl; have hfz7_0 := blk_frozen BK116.out 0; have hfz7_1 := blk_frozen BK116.out 1; have hfz7_2 := blk_frozen BK116.out 2; have hfz7_3 := blk_frozen BK116.out 3; have hfz7_4 := blk_frozen BK116.out 4; have hfz7_5 := blk_frozen BK116.out 5; have hfz7_6 := blk_frozen BK116.out 6; have hfz7_7 := blk_frozen BK116.out 7))
      go_ret
      exact ⟨by first | rfl | (simp [errW_none, errW_some] <;> rfl) | (simp [*, errW_none, errW_some] <;> rfl), by repeat (first | (with_reducible first | exact HB.out | apply below_alloc | apply pw_below_drewN | apply below_drew1 | refine below_set ?_ GE116.out) | exact HB.out)⟩
    · rw [if_neg c5] at H
      have c5b0 : decide (256 < (l0_7.length : Int)) = false := decide_eq_false c5
      have c5b1 : decide (256 < l0_7.length) = false := decide_eq_false (by omega)
      clear c5
      obtain rfl := Option.some.inj H
      go_enter Try.func22, Try.ntmps22
      go_wp2_with (first | ((with_reducible refine gate_dst (N := 1) rfl ?_); (try (refine gate_guard (by rfl) ?_; dsimp only)); refine box_event ?hg (N := 1) ?hd (cs := #[.int .i64 a0_0, .int .i64 a0_1, .int .i64 a0_2, .int .i64 a0_3, .string a0_4, .int .i64 a0_5, .int .i64 a0_6, .slice A0_7 l0_7.length c0_7]) (t := 28) ?hr ?_; (case hd => rfl); (case hg => rfl); (case hr => first | (go_simp; done) | (go_simp; rfl)); intro gb116 hg w8 hbox hb; have n0_ := Aside0.mk (below_step (by repeat (first | (with_reducible first | exact HB.out | apply below_alloc | apply pw_below_drewN | apply below_drew1) | exact HB.out)) hb); have n1_ := Aside0.mk (hbox); have n2_ := Aside0.mk ((by rw [hg]; exact (below_size (by repeat (first | (with_reducible first | exact HB.out | apply below_alloc | apply pw_below_drewN | apply below_drew1) | exact HB.out))) : w.heap.size ≤ gb116)); have n3_ := Aside0.mk ((by rw [hg]; exact (below_size (by repeat (first | (with_reducible first | exact HB.out | apply below_alloc | apply pw_below_drewN | apply below_drew1) | exact HB.out))) : w.heap.size ≤ gb116)); clear HB; have HB := n0_; have BK116 := n1_; have GW116 := n2_; have GE116 := n3_; clear n0_ n1_ n2_ n3_; clear hb hbox hg; have hcz9_0 : w8.cell? ⟨gb116, 0, none⟩ = some (.int .i64 a0_0) := (blk_cell BK116.out 0).trans rfl; have hcz9_1 : w8.cell? ⟨gb116, 1, none⟩ = some (.int .i64 a0_1) := (blk_cell BK116.out 1).trans rfl; have hcz9_2 : w8.cell? ⟨gb116, 2, none⟩ = some (.int .i64 a0_2) := (blk_cell BK116.out 2).trans rfl; have hcz9_3 : w8.cell? ⟨gb116, 3, none⟩ = some (.int .i64 a0_3) := (blk_cell BK116.out 3).trans rfl; have hcz9_4 : w8.cell? ⟨gb116, 4, none⟩ = some (.string a0_4) := (blk_cell BK116.out 4).trans rfl; have hcz9_5 : w8.cell? ⟨gb116, 5, none⟩ = some (.int .i64 a0_5) := (blk_cell BK116.out 5).trans rfl; have hcz9_6 : w8.cell? ⟨gb116, 6, none⟩ = some (.int .i64 a0_6) := (blk_cell BK116.out 6).trans rfl; have hcz9_7 : w8.cell? ⟨gb116, 7, none⟩ = some (.slice A0_7 l0_7.length c0_7) := (blk_cell BK116.out 7).trans rfl; have hfz9_0 := blk_frozen BK116.out 0; have hfz9_1 := blk_frozen BK116.out 1; have hfz9_2 := blk_frozen BK116.out 2; have hfz9_3 := blk_frozen BK116.out 3; have hfz9_4 := blk_frozen BK116.out 4; have hfz9_5 := blk_frozen BK116.out 5; have hfz9_6 := blk_frozen BK116.out 6; have hfz9_7 := blk_frozen BK116.out 7))
      go_ret
      exact ⟨by first | rfl | (simp [errW_none, errW_some] <;> rfl) | (simp [*, errW_none, errW_some] <;> rfl), by repeat (first | (with_reducible first | exact HB.out | apply below_alloc | apply pw_below_drewN | apply below_drew1 | refine below_set ?_ GE116.out) | exact HB.out)⟩
end Go.Proofs.Ytcjdnahgffkbdaa.Q

namespace Go.Proofs.Ytcjdnahgffkbdaa.Spt
open Go Go.RowKit Go.Proofs Go.Proofs.Ytcjdnahgffkbdaa.Gm Go.Proofs.Ytcjdnahgffkbdaa.Gput Go.Proofs.Ytcjdnahgffkbdaa.Gputl Go.Proofs.Ytcjdnahgffkbdaa.Gwa Go.Proofs.Ytcjdnahgffkbdaa.Gwb Go.Proofs.Ytcjdnahgffkbdaa.Gwd Go.Proofs.Ytcjdnahgffkbdaa.Srs Go.Proofs.Ytcjdnahgffkbdaa.Sst Go.Proofs.Ytcjdnahgffkbdaa.Q Go.Proofs.YtcjdnahgffkbdaaW.PrintWords Go.Proofs.YtcjdnahgffkbdaaW.PrintLast Go.Proofs.YtcjdnahgffkbdaaW.PrintMore
set_option linter.unusedVariables false
def I64 (x : Int) : Prop := -9223372036854775808 ≤ x ∧ x ≤ 9223372036854775807
/-- The numbers of a statement, in order. -/
def nums (s : S64) : List Int := [s.f0, s.f1, s.f2, s.f3, s.f4, s.f5, s.f6, s.f7, s.f8, s.f9, s.f10]
def W11 (s : S64) : Prop := ∀ x ∈ nums s, I64 x
/-- The numbers of an event are numbers of 64 bits. -/
structure WE (x : S28) : Prop where
  h0 : I64 x.f0
  h1 : I64 x.f1
  h2 : I64 x.f2
  h3 : I64 x.f3
  h5 : I64 x.f5.f0
  h6 : I64 x.f5.f1
  hs : ∀ s ∈ x.f5.f2, W11 s
def putS (ss : List S64) : List UInt8 := ss.flatMap (fun s => putL (nums s))
/-- The bytes of an event. -/
def putE (x : S28) : List UInt8 := (putI x.f0 ++ (putI x.f1 ++ (putI x.f2 ++ putI x.f3))) ++ ((putI x.f4.data.toList.length ++ x.f4.data.toList) ++ ((putI x.f5.f0 ++ (putI x.f5.f1 ++ putI x.f5.f2.length)) ++ putS x.f5.f2))
/-- What script.Put answers. -/
def putR (b : List UInt8) (x : S28) : ByteArray × Int := if x.f4.size > 16384 ∨ x.f5.f2.length > 256 then (⟨#[]⟩, 4) else (B (b ++ putE x), 0)
theorem putL_len {xs : List Int} (h : ∀ x ∈ xs, I64 x) (hl : xs.length ≤ 1000) : (putL xs).length ≤ 10 * (xs.length + 1) := by
  unfold putL
  have h1 : (putI (xs.length : Int)).length ≤ 10 := putI_len (by omega)
  have h2 : (xs.flatMap putI).length ≤ 10 * xs.length := by
    clear h1 hl
    induction xs with
    | nil => simp
    | cons y ys ih =>
      have hy := putI_len (h y List.mem_cons_self)
      have := ih (fun x hx => h x (List.mem_cons_of_mem _ hx))
      simp only [List.flatMap_cons, List.length_append, List.length_cons]
      omega
  rw [List.length_append]
  omega
theorem putS_len {ss : List S64} (h : ∀ s ∈ ss, W11 s) : (putS ss).length ≤ 120 * ss.length := by
  induction ss with
  | nil => simp [putS]
  | cons y ys ih =>
    have hy : (putL (nums y)).length ≤ 10 * ((nums y).length + 1) := putL_len (h y List.mem_cons_self) (by simp [nums])
    have := ih (fun s hs => h s (List.mem_cons_of_mem _ hs))
    have hn : (nums y).length = 11 := rfl
    rw [hn] at hy
    simp only [putS, List.flatMap_cons, List.length_append, List.length_cons] at this ⊢
    omega
theorem putS_snoc (ss : List S64) (k : Nat) (h : k < ss.length) : putS (ss.take (k + 1)) = putS (ss.take k) ++ putL (nums ss[k]) := by
  unfold putS
  rw [List.take_succ_eq_append_getElem h, List.flatMap_append]
  simp
/-- What stands while an event is written. -/
structure PW (w W : World) (ge : Nat) (cs : Array Value) : Prop where
  hb : Below w.heap.size w W
  be : W.heap[ge]? = some (.cells cs 28 (0, 0))
theorem PW.below {w W W' : World} {ge : Nat} {cs : Array Value} (h : PW w W ge cs) (hb : Below W.heap.size W W') : PW w W' ge cs := ⟨below_step h.hb hb, blk_below h.be hb⟩
theorem PW.app {w W W' : World} {ge : Nat} {cs : Array Value} {ok : Nat → Prop} {v : Value} {xs : List Int} (h : PW w W ge cs) (hr : Kd.R (Kd.int .i64) 3 W w.heap.size ok v xs) (hg : W.grownBy W' v.ownBlock) : PW w W' ge cs :=
  ⟨h.hb.grown hg h.hb.size (fun b e => Kd.R_base hr b e), blk_grown h.be hg (Kd.R_ne hr h.be (by decide))⟩
theorem nums_at (s : S64) (j : Nat) (h : j < 11) : (#[.int .i64 s.f0, .int .i64 s.f1, .int .i64 s.f2, .int .i64 s.f3, .int .i64 s.f4, .int .i64 s.f5, .int .i64 s.f6, .int .i64 s.f7, .int .i64 s.f8, .int .i64 s.f9, .int .i64 s.f10] : Array Value)[j]? = some (.int .i64 (rd (nums s) j)) := by
  obtain rfl | rfl | rfl | rfl | rfl | rfl | rfl | rfl | rfl | rfl | rfl := k_cases h <;> simp [nums, rd]
theorem nums_snoc (s : S64) (j : Nat) (h : j < 11) : (nums s).take j ++ [rd (nums s) j] = (nums s).take (j + 1) := by
  obtain rfl | rfl | rfl | rfl | rfl | rfl | rfl | rfl | rfl | rfl | rfl := k_cases h <;> simp [nums, rd]
theorem ixI4 (y0 y1 y2 y3 : Int) (k : Nat) (hk : k < 4) (W : World) : (Instr.index 60 (.agg #[.int .i64 y0, .int .i64 y1, .int .i64 y2, .int .i64 y3]) (.int .i64 (k : Int))).run Try.prog W = .ok (.int .i64 (rd [y0, y1, y2, y3] k)) W := by
  have h := Try.underlying60
  have hi0 : (Try.prog.info? 3).map (fun i => i.size) = some 1 := by kernel_rfl
  obtain ⟨i0, hi, hsz⟩ := Option.map_eq_some_iff.1 hi0
  obtain rfl | rfl | rfl | rfl : k = 0 ∨ k = 1 ∨ k = 2 ∨ k = 3 := by omega
  all_goals simp [Instr.index, run_underlying h, asIntOf, sizeOf, typeInfo, go_sem, hi, hsz, rd]
theorem ixI3 (y0 y1 y2 : Int) (k : Nat) (hk : k < 3) (W : World) : (Instr.index 62 (.agg #[.int .i64 y0, .int .i64 y1, .int .i64 y2]) (.int .i64 (k : Int))).run Try.prog W = .ok (.int .i64 (rd [y0, y1, y2] k)) W := by
  have h := Try.underlying62
  have hi0 : (Try.prog.info? 3).map (fun i => i.size) = some 1 := by kernel_rfl
  obtain ⟨i0, hi, hsz⟩ := Option.map_eq_some_iff.1 hi0
  obtain rfl | rfl | rfl : k = 0 ∨ k = 1 ∨ k = 2 := by omega
  all_goals simp [Instr.index, run_underlying h, asIntOf, sizeOf, typeInfo, go_sem, hi, hsz, rd]
theorem rd_I64 {l : List Int} (h : ∀ x ∈ l, I64 x) (k : Nat) (hk : k < l.length) : I64 (rd l k) := by
  have e : rd l k = l[k] := by simp [rd, List.getD, hk]
  rw [e]
  exact h _ (List.getElem_mem hk)
theorem flat_small {l : List Int} (h : ∀ x ∈ l, I64 x) (k : Nat) : ((l.take k).flatMap putI).length ≤ 10 * l.length := by
  have := flat_len l (List.all_eq_true.2 fun x hx => wf64 (h x hx)) k
  have h2 : ((l.take k).flatMap putI).length ≤ 10 * (l.take k).length := by
    have := flat_len (l.take k) (List.all_eq_true.2 fun x hx => wf64 (h x (List.mem_of_mem_take hx))) (l.take k).length
    rwa [List.take_length] at this
  rw [List.length_take] at h2
  omega
set_option maxRecDepth 100000 in
set_option maxHeartbeats 8000000 in
theorem put_x (b : List UInt8) (x0 x1 x2 x3 : Int) (tl : List UInt8) (x5 x6 : Int) (A : Option Addr) (c : Nat) (ss : List S64) (w : World) (hC : Kd.C k64 w A ss.length ss) (hc : ss.length ≤ c) (hx : WE ⟨x0, x1, x2, x3, B tl, ⟨x5, x6, ss⟩⟩) (hb : b.length ≤ 100000000)
    (r : ByteArray) (e : Int) (hr : putR b ⟨x0, x1, x2, x3, B tl, ⟨x5, x6, ss⟩⟩ = (r, e)) :
    Calls Try.prog 14 #[.string (B b), .agg #[.int .i64 x0, .int .i64 x1, .int .i64 x2, .int .i64 x3, .string (B tl), .int .i64 x5, .int .i64 x6, .slice A ss.length c]] w fun e' w' => e' = .returned (.tuple #[.string r, .int .i64 e]) ∧ Below w.heap.size w w' := by
  have mixed : (Try.prog).follows .mixedOrders = true := by kernel_rfl
  have hu28 := Try.underlying28
  have hu26 := Try.underlying26
  have hu64 := Try.underlying64
  have hu4 := Try.underlying60
  have hu3 := Try.underlying62
  have HC := Aside0.mk hC
  have HX := Aside0.mk hx
  have hts : (B tl).size = tl.length := B_size tl
  obtain ⟨ce, hce⟩ : ∃ ce, (if tl.length > 16384 ∨ ss.length > 256 then 4 else 0 : Int) = ce := ⟨_, rfl⟩
  have HCK : Aside0 (script_Check.f x0 x1 x2 x3 (B tl) x5 x6 ss = some ce) := ⟨by
    unfold script_Check.f
    rw [← hce]
    by_cases h1 : tl.length > 16384
    · rw [if_pos (by rw [hts]; omega), if_pos (.inl h1)]
    · rw [if_neg (by rw [hts]; omega)]
      by_cases h2 : ss.length > 256
      · rw [if_pos (by omega), if_pos (.inr h2)]
      · rw [if_neg (by omega), if_neg (fun z => z.elim h1 h2)]⟩
  have HR : Hid ((if tl.length > 16384 ∨ ss.length > 256 then ((⟨#[]⟩ : ByteArray), (4 : Int)) else (B (b ++ putE ⟨x0, x1, x2, x3, B tl, ⟨x5, x6, ss⟩⟩), 0)) = (r, e)) := Lib.hid (by rw [← hr]; unfold putR; simp only [hts])
  have HB : Aside0 (Below (w.alloc (.cells #[.int .i64 x0, .int .i64 x1, .int .i64 x2, .int .i64 x3, .string (B tl), .int .i64 x5, .int .i64 x6, .slice A ss.length c] 28)).heap.size (w.alloc (.cells #[.int .i64 x0, .int .i64 x1, .int .i64 x2, .int .i64 x3, .string (B tl), .int .i64 x5, .int .i64 x6, .slice A ss.length c] 28)) (w.alloc (.cells #[.int .i64 x0, .int .i64 x1, .int .i64 x2, .int .i64 x3, .string (B tl), .int .i64 x5, .int .i64 x6, .slice A ss.length c] 28))) := ⟨Below.refl _ _⟩
  have HE : Aside0 ((w.alloc (.cells #[.int .i64 x0, .int .i64 x1, .int .i64 x2, .int .i64 x3, .string (B tl), .int .i64 x5, .int .i64 x6, .slice A ss.length c] 28)).heap[w.heap.size]? = some (.cells #[.int .i64 x0, .int .i64 x1, .int .i64 x2, .int .i64 x3, .string (B tl), .int .i64 x5, .int .i64 x6, .slice A ss.length c] 28 (0, 0))) := ⟨heap_alloc_new w _⟩
  have HB0 : Aside0 (Below w.heap.size w (w.alloc (.cells #[.int .i64 x0, .int .i64 x1, .int .i64 x2, .int .i64 x3, .string (B tl), .int .i64 x5, .int .i64 x6, .slice A ss.length c] 28))) := ⟨below_alloc (Below.refl _ _) _⟩
  clear hC hx hr
  by_cases hbig : tl.length > 16384 ∨ ss.length > 256
  case pos =>
    rw [if_pos hbig] at hce
    subst hce
    obtain ⟨rfl, rfl⟩ : (⟨#[]⟩ : ByteArray) = r ∧ 4 = e := by have h := HR.out; rw [if_pos hbig] at h; simpa using h
    clear hbig
    go_enter Try.func14, Try.ntmps14
    go_wp2_with (first | (go_at_call 22; go_loud (with_reducible refine (script_Check.calls x0 x1 x2 x3 (B tl) x5 x6 A c ss _ _ (Kd.C_below HC.out HB0.out) hc HCK.out).mono ?_); go_loud (rintro e' w1_ ⟨rfl, hd⟩; have HB1 : Aside0 (Below (w.alloc (.cells #[.int .i64 x0, .int .i64 x1, .int .i64 x2, .int .i64 x3, .string (B tl), .int .i64 x5, .int .i64 x6, .slice A ss.length c] 28)).heap.size (w.alloc (.cells #[.int .i64 x0, .int .i64 x1, .int .i64 x2, .int .i64 x3, .string (B tl), .int .i64 x5, .int .i64 x6, .slice A ss.length c] 28)) w1_) := ⟨hd⟩; clear HB hd)))
    go_ret2
    exact ⟨rfl, below_step HB0.out HB1.out⟩
  case neg =>
    rw [if_neg hbig] at hce
    subst hce
    obtain ⟨rfl, rfl⟩ : B (b ++ putE ⟨x0, x1, x2, x3, B tl, ⟨x5, x6, ss⟩⟩) = r ∧ 0 = e := by have h := HR.out; rw [if_neg hbig] at h; simpa using h
    have htl : tl.length ≤ 16384 := by omega
    have hsl : ss.length ≤ 256 := by omega
    clear hbig HR
    go_enter Try.func14, Try.ntmps14
    go_upto_region 4 with (first | (go_at_call 22; go_loud (with_reducible refine (script_Check.calls x0 x1 x2 x3 (B tl) x5 x6 A c ss _ _ (Kd.C_below HC.out HB0.out) hc HCK.out).mono ?_); go_loud (rintro e' w1_ ⟨rfl, hd⟩; have HB1 : Aside0 (Below (w.alloc (.cells #[.int .i64 x0, .int .i64 x1, .int .i64 x2, .int .i64 x3, .string (B tl), .int .i64 x5, .int .i64 x6, .slice A ss.length c] 28)).heap.size (w.alloc (.cells #[.int .i64 x0, .int .i64 x1, .int .i64 x2, .int .i64 x3, .string (B tl), .int .i64 x5, .int .i64 x6, .slice A ss.length c] 28)) w1_) := ⟨hd⟩; clear HB hd)))
    have HP : Aside0 (PW w w1_ w.heap.size #[.int .i64 x0, .int .i64 x1, .int .i64 x2, .int .i64 x3, .string (B tl), .int .i64 x5, .int .i64 x6, .slice A ss.length c]) := ⟨⟨below_step HB0.out HB1.out, blk_below HE.out HB1.out⟩⟩
    clear HB0 HB1 HE HCK
    obtain ⟨ge, hge⟩ : ∃ ge, w.heap.size = ge := ⟨_, rfl⟩
    rw [hge] at HP ⊢
    clear hge
    have he0_ : w1_.cell? ⟨ge, 0, none⟩ = some (.int .i64 x0) := (blk_cell HP.out.be 0).trans rfl
    have he1_ : w1_.cell? ⟨ge, 1, none⟩ = some (.int .i64 x1) := (blk_cell HP.out.be 1).trans rfl
    have he2_ : w1_.cell? ⟨ge, 2, none⟩ = some (.int .i64 x2) := (blk_cell HP.out.be 2).trans rfl
    have he3_ : w1_.cell? ⟨ge, 3, none⟩ = some (.int .i64 x3) := (blk_cell HP.out.be 3).trans rfl
    have he4_ : w1_.cell? ⟨ge, 4, none⟩ = some (.string (B tl)) := (blk_cell HP.out.be 4).trans rfl
    have he5_ : w1_.cell? ⟨ge, 5, none⟩ = some (.int .i64 x5) := (blk_cell HP.out.be 5).trans rfl
    have he6_ : w1_.cell? ⟨ge, 6, none⟩ = some (.int .i64 x6) := (blk_cell HP.out.be 6).trans rfl
    have he7_ : w1_.cell? ⟨ge, 7, none⟩ = some (.slice A ss.length c) := (blk_cell HP.out.be 7).trans rfl
    have hx4 : ∀ x ∈ [x0, x1, x2, x3], I64 x := by
      intro x hx
      simp only [List.mem_cons, List.not_mem_nil, or_false] at hx
      rcases hx with rfl | rfl | rfl | rfl
      · exact HX.out.h0
      · exact HX.out.h1
      · exact HX.out.h2
      · exact HX.out.h3
    have hx3 : ∀ x ∈ [x5, x6, (ss.length : Int)], I64 x := by
      intro x hx
      simp only [List.mem_cons, List.not_mem_nil, or_false] at hx
      rcases hx with rfl | rfl | rfl
      · exact HX.out.h5
      · exact HX.out.h6
      · unfold I64; omega
    have HX4 := Aside0.mk hx4
    have HX3 := Aside0.mk hx3
    clear hx4 hx3
    go_wp2
    clear he0_ he1_ he2_ he3_ he4_ he5_ he6_ he7_
    go_loopw [0, 30] (fun s0 s30 wr => ∃ k : Nat, k ≤ 4 ∧ s30 = .int .i64 k ∧ s0 = .string (B (b ++ ([x0, x1, x2, x3].take k).flatMap putI)) ∧ Aside0 (PW w wr ge #[.int .i64 x0, .int .i64 x1, .int .i64 x2, .int .i64 x3, .string (B tl), .int .i64 x5, .int .i64 x6, .slice A ss.length c])) (fun _ s30 _ => 4 - (intOf s30).toNat)
    case atStart => exact ⟨0, by omega, rfl, by simp, HP⟩
    case round =>
      clear HP
      obtain ⟨k, hk, rfl, rfl, HP⟩ := hrel
      by_cases hk4 : k < 4
      case pos =>
        have hk4i : (k : Int) < 4 := by omega
        have hrix : ∀ W', (Instr.index 60 (.agg #[.int .i64 x0, .int .i64 x1, .int .i64 x2, .int .i64 x3]) (.int .i64 (k : Int))).run Try.prog W' = .ok (.int .i64 (rd [x0, x1, x2, x3] k)) W' := fun W' => ixI4 x0 x1 x2 x3 k hk4 W'
        have HPI : Aside0 (wire_PutInt.f (B (b ++ ([x0, x1, x2, x3].take k).flatMap putI)) (rd [x0, x1, x2, x3] k) = some (B (b ++ ([x0, x1, x2, x3].take (k + 1)).flatMap putI))) := ⟨by
          rw [wire_PutInt_eq _ _ (by have := flat_small HX4.out k; simp only [List.length_append, List.length_cons, List.length_nil] at this ⊢; omega) (rd_I64 HX4.out k hk4), putI_snoc [x0, x1, x2, x3] k hk4, List.append_assoc]⟩
        go_wp2_with (first | (go_at_call 24; go_loud (with_reducible refine (wire_PutInt.calls _ _ _ _ HPI.out).mono ?_); go_loud (rintro e' w' ⟨rfl, hd⟩; have n_ := Aside0.mk (PW.below HP.out hd); clear HP hd; have HP := n_; clear n_)))
        go_roundw
        case rel => exact ⟨k + 1, by omega, by go_num, rfl, HP⟩
        case measure => simp only [intOf]; omega
      case neg =>
      obtain rfl : k = 4 := by omega
      obtain ⟨b4, hb4⟩ : ∃ b4, b4 = b ++ ([x0, x1, x2, x3].take 4).flatMap putI := ⟨_, rfl⟩
      rw [← hb4]
      have HB4 := Lib.hid hb4
      have hl4 : b4.length ≤ b.length + 40 := by have := flat_small HX4.out 4; rw [hb4]; simp only [List.length_append, List.length_cons, List.length_nil] at this ⊢; omega
      clear hb4
      have he0_ : wr.cell? ⟨ge, 0, none⟩ = some (.int .i64 x0) := (blk_cell HP.out.be 0).trans rfl
      have he1_ : wr.cell? ⟨ge, 1, none⟩ = some (.int .i64 x1) := (blk_cell HP.out.be 1).trans rfl
      have he2_ : wr.cell? ⟨ge, 2, none⟩ = some (.int .i64 x2) := (blk_cell HP.out.be 2).trans rfl
      have he3_ : wr.cell? ⟨ge, 3, none⟩ = some (.int .i64 x3) := (blk_cell HP.out.be 3).trans rfl
      have he4_ : wr.cell? ⟨ge, 4, none⟩ = some (.string (B tl)) := (blk_cell HP.out.be 4).trans rfl
      have he5_ : wr.cell? ⟨ge, 5, none⟩ = some (.int .i64 x5) := (blk_cell HP.out.be 5).trans rfl
      have he6_ : wr.cell? ⟨ge, 6, none⟩ = some (.int .i64 x6) := (blk_cell HP.out.be 6).trans rfl
      have he7_ : wr.cell? ⟨ge, 7, none⟩ = some (.slice A ss.length c) := (blk_cell HP.out.be 7).trans rfl
      have HPX : Aside0 (wire_PutText.f (B b4) (B tl) = some (B (b4 ++ (putI tl.length ++ tl)))) := ⟨wire_PutText_eq b4 tl (by omega) (by omega)⟩
      go_upto_region 10 with (first | (go_at_call 30; go_loud (with_reducible refine (wire_PutText.calls _ _ _ _ HPX.out).mono ?_); go_loud (rintro e' w' ⟨rfl, hd⟩; have n_ := Aside0.mk (PW.below HP.out hd); clear HP hd; have HP := n_; clear n_; have he0_ : w'.cell? ⟨ge, 0, none⟩ = some (.int .i64 x0) := (blk_cell HP.out.be 0).trans rfl; have he1_ : w'.cell? ⟨ge, 1, none⟩ = some (.int .i64 x1) := (blk_cell HP.out.be 1).trans rfl; have he2_ : w'.cell? ⟨ge, 2, none⟩ = some (.int .i64 x2) := (blk_cell HP.out.be 2).trans rfl; have he3_ : w'.cell? ⟨ge, 3, none⟩ = some (.int .i64 x3) := (blk_cell HP.out.be 3).trans rfl; have he4_ : w'.cell? ⟨ge, 4, none⟩ = some (.string (B tl)) := (blk_cell HP.out.be 4).trans rfl; have he5_ : w'.cell? ⟨ge, 5, none⟩ = some (.int .i64 x5) := (blk_cell HP.out.be 5).trans rfl; have he6_ : w'.cell? ⟨ge, 6, none⟩ = some (.int .i64 x6) := (blk_cell HP.out.be 6).trans rfl; have he7_ : w'.cell? ⟨ge, 7, none⟩ = some (.slice A ss.length c) := (blk_cell HP.out.be 7).trans rfl)))
      obtain ⟨b5, hb5⟩ : ∃ b5, b5 = b4 ++ (putI tl.length ++ tl) := ⟨_, rfl⟩
      rw [← hb5]
      have HB5 := Lib.hid hb5
      have hl5 : b5.length ≤ b4.length + 16394 := by have h := putI_len (n := (tl.length : Int)) (by omega); rw [hb5, List.length_append, List.length_append]; omega
      clear hb5
      go_wp2
      clear he0_ he1_ he2_ he3_ he4_ he5_ he6_ he7_
      go_loopw [0, 52] (fun s0 s52 wr => ∃ k : Nat, k ≤ 3 ∧ s52 = .int .i64 k ∧ s0 = .string (B (b5 ++ ([x5, x6, (ss.length : Int)].take k).flatMap putI)) ∧ Aside0 (PW w wr ge #[.int .i64 x0, .int .i64 x1, .int .i64 x2, .int .i64 x3, .string (B tl), .int .i64 x5, .int .i64 x6, .slice A ss.length c])) (fun _ s52 _ => 3 - (intOf s52).toNat)
      case atStart => exact ⟨0, by omega, rfl, by simp, HP⟩
      case round =>
        clear HP
        obtain ⟨k, hk, rfl, rfl, HP⟩ := hrel
        by_cases hk3 : k < 3
        case pos =>
          have hk3i : (k : Int) < 3 := by omega
          have hrix : ∀ W', (Instr.index 62 (.agg #[.int .i64 x5, .int .i64 x6, .int .i64 (ss.length : Int)]) (.int .i64 (k : Int))).run Try.prog W' = .ok (.int .i64 (rd [x5, x6, (ss.length : Int)] k)) W' := fun W' => ixI3 x5 x6 (ss.length : Int) k hk3 W'
          have HPI : Aside0 (wire_PutInt.f (B (b5 ++ ([x5, x6, (ss.length : Int)].take k).flatMap putI)) (rd [x5, x6, (ss.length : Int)] k) = some (B (b5 ++ ([x5, x6, (ss.length : Int)].take (k + 1)).flatMap putI))) := ⟨by
            rw [wire_PutInt_eq _ _ (by have := flat_small HX3.out k; simp only [List.length_append, List.length_cons, List.length_nil] at this ⊢; omega) (rd_I64 HX3.out k hk3), putI_snoc [x5, x6, (ss.length : Int)] k hk3, List.append_assoc]⟩
          go_wp2_with (first | (go_at_call 24; go_loud (with_reducible refine (wire_PutInt.calls _ _ _ _ HPI.out).mono ?_); go_loud (rintro e' w' ⟨rfl, hd⟩; have n_ := Aside0.mk (PW.below HP.out hd); clear HP hd; have HP := n_; clear n_)))
          go_roundw
          case rel => exact ⟨k + 1, by omega, by go_num, rfl, HP⟩
          case measure => simp only [intOf]; omega
        case neg =>
        obtain rfl : k = 3 := by omega
        obtain ⟨b6, hb6⟩ : ∃ b6, b6 = b5 ++ ([x5, x6, (ss.length : Int)].take 3).flatMap putI := ⟨_, rfl⟩
        rw [← hb6]
        have HB6 := Lib.hid hb6
        have hl6 : b6.length ≤ b5.length + 30 := by have := flat_small HX3.out 3; rw [hb6]; simp only [List.length_append, List.length_cons, List.length_nil] at this ⊢; omega
        clear hb6
        have he0_ : wr.cell? ⟨ge, 0, none⟩ = some (.int .i64 x0) := (blk_cell HP.out.be 0).trans rfl
        have he1_ : wr.cell? ⟨ge, 1, none⟩ = some (.int .i64 x1) := (blk_cell HP.out.be 1).trans rfl
        have he2_ : wr.cell? ⟨ge, 2, none⟩ = some (.int .i64 x2) := (blk_cell HP.out.be 2).trans rfl
        have he3_ : wr.cell? ⟨ge, 3, none⟩ = some (.int .i64 x3) := (blk_cell HP.out.be 3).trans rfl
        have he4_ : wr.cell? ⟨ge, 4, none⟩ = some (.string (B tl)) := (blk_cell HP.out.be 4).trans rfl
        have he5_ : wr.cell? ⟨ge, 5, none⟩ = some (.int .i64 x5) := (blk_cell HP.out.be 5).trans rfl
        have he6_ : wr.cell? ⟨ge, 6, none⟩ = some (.int .i64 x6) := (blk_cell HP.out.be 6).trans rfl
        have he7_ : wr.cell? ⟨ge, 7, none⟩ = some (.slice A ss.length c) := (blk_cell HP.out.be 7).trans rfl
        go_wp2
        clear he0_ he1_ he2_ he3_ he4_ he5_ he6_ he7_
        go_loopw [0, 63] (fun s0 s63 wr => ∃ k : Nat, k ≤ ss.length ∧ s63 = .int .i64 k ∧ s0 = .string (B (b6 ++ putS (ss.take k))) ∧ Aside0 (PW w wr ge #[.int .i64 x0, .int .i64 x1, .int .i64 x2, .int .i64 x3, .string (B tl), .int .i64 x5, .int .i64 x6, .slice A ss.length c])) (fun _ s63 _ => ss.length - (intOf s63).toNat)
        case atStart => exact ⟨0, by omega, rfl, by simp [putS], HP⟩
        case round =>
          clear HP
          obtain ⟨k, hk, rfl, rfl, HP⟩ := hrel
          by_cases hks : k < ss.length
          case neg =>
            obtain rfl : k = ss.length := by omega
            go_wp2
            go_ret2
            exact ⟨by rw [List.take_length, HB6.out, HB5.out, HB4.out]; simp [putE, B_data], HP.out.hb⟩
          case pos =>
          obtain ⟨s, hs⟩ : ∃ s, s = ss[k] := ⟨_, rfl⟩
          obtain ⟨ad, ead, hx0, hx1, hx2, hx3, hx4, hx5, hx6, hx7, hx8, hx9, hx10⟩ := at_T64 (Kd.C_below HC.out HP.out.hb) (k : Int) (by omega) (by omega)
          cases ead
          rw [show rd_T64 ss (k : Int) = s by rw [hs]; simp [rd_T64, List.getD, hks]] at hx0 hx1 hx2 hx3 hx4 hx5 hx6 hx7 hx8 hx9 hx10
          simp only [Int.toNat_natCast] at hx0 hx1 hx2 hx3 hx4 hx5 hx6 hx7 hx8 hx9 hx10
          have hWs : W11 s := by rw [hs]; exact HX.out.hs _ (List.getElem_mem hks)
          have HS := Lib.hid hs
          have HWs := Aside0.mk hWs
          clear hs hWs
          obtain ⟨s0, s1, s2, s3, s4, s5, s6, s7, s8, s9, s10⟩ := s
          dsimp only at hx0 hx1 hx2 hx3 hx4 hx5 hx6 hx7 hx8 hx9 hx10
          have hksi : (k : Int) < (ss.length : Int) := by omega
          have hm1 := HP.out
          go_upto_region 19 with fail
          have HP1 := Aside0.mk (hm1.below (below_alloc (Below.refl _ _) (.cells #[.int .i64 s0, .int .i64 s1, .int .i64 s2, .int .i64 s3, .int .i64 s4, .int .i64 s5, .int .i64 s6, .int .i64 s7, .int .i64 s8, .int .i64 s9, .int .i64 s10] 64)))
          have HS1 := Aside0.mk (heap_alloc_new wr (.cells #[.int .i64 s0, .int .i64 s1, .int .i64 s2, .int .i64 s3, .int .i64 s4, .int .i64 s5, .int .i64 s6, .int .i64 s7, .int .i64 s8, .int .i64 s9, .int .i64 s10] 64))
          obtain ⟨W3, hW3⟩ : ∃ W3, W3 = wr.alloc (.cells #[.int .i64 s0, .int .i64 s1, .int .i64 s2, .int .i64 s3, .int .i64 s4, .int .i64 s5, .int .i64 s6, .int .i64 s7, .int .i64 s8, .int .i64 s9, .int .i64 s10] 64) := ⟨_, rfl⟩
          rw [← hW3] at HP1 HS1 ⊢
          obtain ⟨gs, hgs⟩ : ∃ gs, wr.heap.size = gs := ⟨_, rfl⟩
          rw [hgs] at HS1 ⊢
          clear hW3 hgs hm1 HP hx0 hx1 hx2 hx3 hx4 hx5 hx6 hx7 hx8 hx9 hx10
          go_wp2_with (first | (go_at_call 31; go_loud (with_reducible refine (numbers_x gs _).mono ?_); go_loud (rintro e' w' ⟨rfl, hd⟩; have n_ := Aside0.mk (PW.below HP1.out hd); have n2_ := Aside0.mk (blk_below HS1.out hd); clear HP1 HS1 hd; have HP1 := n_; have HS1 := n2_; clear n_ n2_)))
          go_loopw [13, 68] (fun s13 s68 wr => ∃ (j : Nat) (ys : List Int) (A' : Option Addr) (c' : Nat), j ≤ 11 ∧ s68 = .int .i64 j ∧ s13 = .slice A' ys.length c' ∧ ys.length = j ∧ Hid (ys = (nums (⟨s0, s1, s2, s3, s4, s5, s6, s7, s8, s9, s10⟩ : S64)).take j) ∧ Aside0 (Kd.R (Kd.int .i64) 3 wr w.heap.size (fun _ => True) (.slice A' ys.length c') ys) ∧ Aside0 (PW w wr ge #[.int .i64 x0, .int .i64 x1, .int .i64 x2, .int .i64 x3, .string (B tl), .int .i64 x5, .int .i64 x6, .slice (some ad) ss.length c]) ∧ Aside0 (wr.heap[gs]? = some (.cells #[.int .i64 s0, .int .i64 s1, .int .i64 s2, .int .i64 s3, .int .i64 s4, .int .i64 s5, .int .i64 s6, .int .i64 s7, .int .i64 s8, .int .i64 s9, .int .i64 s10] 64 (0, 0)))) (fun _ s68 _ => 11 - (intOf s68).toNat)
          case atStart => exact ⟨0, [], none, 0, by omega, rfl, rfl, rfl, Lib.hid rfl, ⟨Kd.R_nil _ _ _ _ _⟩, HP1, HS1⟩
          case round =>
            clear HP1 HS1
            obtain ⟨j, ys, A', c', hj, rfl, rfl, hyl, HY, HRJ, HP, HSB⟩ := hrel
            have hgsl := blk_lt HSB.out
            by_cases hj11 : j < 11
            case pos =>
              have hji : (j : Int) < 11 := by omega
              have hrix : ∀ W', (Instr.index 66 (.agg #[.pointer (some ⟨gs, 0, none⟩), .pointer (some ⟨gs, 1, none⟩), .pointer (some ⟨gs, 2, none⟩), .pointer (some ⟨gs, 3, none⟩), .pointer (some ⟨gs, 4, none⟩), .pointer (some ⟨gs, 5, none⟩), .pointer (some ⟨gs, 6, none⟩), .pointer (some ⟨gs, 7, none⟩), .pointer (some ⟨gs, 8, none⟩), .pointer (some ⟨gs, 9, none⟩), .pointer (some ⟨gs, 10, none⟩)]) (.int .i64 (j : Int))).run Try.prog W' = .ok (.pointer (some ⟨gs, j, none⟩)) W' := fun W' => ix11 gs j hj11 W'
              have hcell : wr.cell? ⟨gs, j, none⟩ = some (.int .i64 (rd (nums (⟨s0, s1, s2, s3, s4, s5, s6, s7, s8, s9, s10⟩ : S64)) j)) := (blk_cell HSB.out j).trans (nums_at (⟨s0, s1, s2, s3, s4, s5, s6, s7, s8, s9, s10⟩ : S64) j hj11)
              obtain ⟨pj, hpj⟩ : ∃ pj, pj = rd (nums (⟨s0, s1, s2, s3, s4, s5, s6, s7, s8, s9, s10⟩ : S64)) j := ⟨_, rfl⟩
              rw [← hpj] at hcell
              have hle : (ys.length + 1) * 8 ≤ 140737488355328 := by omega
              have HYN : Hid (ys ++ [pj] = (nums (⟨s0, s1, s2, s3, s4, s5, s6, s7, s8, s9, s10⟩ : S64)).take (j + 1)) := Lib.hid (by rw [HY.out, hpj, nums_snoc (⟨s0, s1, s2, s3, s4, s5, s6, s7, s8, s9, s10⟩ : S64) j hj11])
              clear hpj hyl
              go_wp2_with (first | (at_builtin; go_loud (refine Kd.R_append (Kd.int .i64) (w0 := wr) (W := wr) w.heap.size rfl (.tmp 71) (.tmp 75) 41 3 (.int .i64 0) 8 rfl Try.underlying41 info3 rfl (by decide) (by omega) (.slice A' ys.length c') ys pj [.int .i64 pj] (fun _ => True) (fun _ => False) rfl rfl rfl (fun _ h => h.elim) (fun _ _ => trivial) HRJ.out (Below.refl _ _) HP.out.hb.size hle ?_); go_loud (intro v1 w2_ ho hb hg hat; obtain ⟨A2, c2, e2_⟩ := Kd.R_slice ho; subst e2_; have n_ := Aside0.mk (PW.app HP.out HRJ.out hg); have n2_ := Aside0.mk (blk_grown HSB.out hg (Kd.R_ne HRJ.out HSB.out (by decide))); clear HP HSB HRJ hb hg hat; have HP := n_; have HSB := n2_; have HRJ := Aside0.mk ho; clear n_ n2_ ho)))
              go_roundw
              case rel => exact ⟨j + 1, ys ++ [pj], A2, c2, by omega, by go_num, by simp, by rw [HYN.out]; simp [nums]; omega, HYN, HRJ, HP, HSB⟩
              case measure => simp only [intOf]; omega
            case neg =>
            obtain rfl : j = 11 := by omega
            have hyn : ys = nums (⟨s0, s1, s2, s3, s4, s5, s6, s7, s8, s9, s10⟩ : S64) := by rw [HY.out]; rfl
            have HPL : Aside0 (wire_PutList.f (B (b6 ++ putS (ss.take k))) ys = some (B (b6 ++ putS (ss.take (k + 1))))) := ⟨by
              have h1 := putS_len (ss := ss.take k) (fun s hs => HX.out.hs s (List.mem_of_mem_take hs))
              have h2 : (ss.take k).length ≤ ss.length := by rw [List.length_take]; omega
              rw [wire_PutList_eq _ _ (fun x hx => wf64 (HWs.out x (by rw [← hyn]; exact hx))) (by rw [List.length_append]; omega), putS_snoc ss k hks, ← HS.out, ← hyn, List.append_assoc]⟩
            have HYC := Aside0.mk (Kd.R_reads' HRJ.out).2.2
            have hyc := (Kd.R_reads' HRJ.out).2.1
            clear hyn HY hyl
            go_wp2_with (first | (go_at_call 32; go_loud (with_reducible refine (wire_PutList.calls _ A' c' ys _ _ HYC.out hyc HPL.out).mono ?_); go_loud (rintro e' w' ⟨rfl, hd⟩; have n_ := Aside0.mk (PW.below HP.out hd); clear HP hd; have HP := n_; clear n_)))
            refine ⟨⟨_, _, _, _, _, _, _, _, _, _, _, _, _, _, _, _, _, _, _, _, _, _, _, ⟨k + 1, by omega, ?e1, rfl, HP⟩, rfl⟩, ?_⟩
            case e1 => go_num
            simp [intOf]
            omega
end Go.Proofs.Ytcjdnahgffkbdaa.Spt

namespace Go.Proofs.Ytcjdnahgffkbdaa.Sen
open Go Go.RowKit Go.Proofs Go.Proofs.Ytcjdnahgffkbdaa.Gm Go.Proofs.Ytcjdnahgffkbdaa.Gput Go.Proofs.Ytcjdnahgffkbdaa.Gputl Go.Proofs.Ytcjdnahgffkbdaa.Gwa Go.Proofs.Ytcjdnahgffkbdaa.Gwb Go.Proofs.Ytcjdnahgffkbdaa.Gwd Go.Proofs.Ytcjdnahgffkbdaa.Srd Go.Proofs.Ytcjdnahgffkbdaa.Srs Go.Proofs.Ytcjdnahgffkbdaa.Sst Go.Proofs.Ytcjdnahgffkbdaa.Spt Go.Proofs.Ytcjdnahgffkbdaa.Q Go.Proofs.YtcjdnahgffkbdaaW.PrintWords Go.Proofs.YtcjdnahgffkbdaaW.PrintLast Go.Proofs.YtcjdnahgffkbdaaW.PrintMore
set_option linter.unusedVariables false
/-- The events behind some bytes. -/
def encGo : List UInt8 → List S28 → ByteArray × Int
  | b, [] => (B b, 0)
  | b, x :: xs => if (putR b x).2 ≠ 0 then (⟨#[]⟩, (putR b x).2) else encGo (b ++ putE x) xs
/-- What script.Encode answers. -/
def encR (xs : List S28) : ByteArray × Int := if xs.length > 256 then (⟨#[]⟩, 4) else encGo (putI xs.length) xs
theorem putE_len {x : S28} (h : WE x) (h4 : x.f4.size ≤ 16384) (hs : x.f5.f2.length ≤ 256) : (putE x).length ≤ 60000 := by
  have a0 := putI_len h.h0
  have a1 := putI_len h.h1
  have a2 := putI_len h.h2
  have a3 := putI_len h.h3
  have a5 := putI_len h.h5
  have a6 := putI_len h.h6
  have h4' : x.f4.data.toList.length ≤ 16384 := by rw [Array.length_toList]; exact h4
  have a4 : (putI (x.f4.data.toList.length : Int)).length ≤ 10 := putI_len (by omega)
  have a7 : (putI (x.f5.f2.length : Int)).length ≤ 10 := putI_len (by omega)
  have a8 := putS_len h.hs
  unfold putE
  simp only [List.length_append]
  omega
theorem putR_ok {b : List UInt8} {x : S28} {r : ByteArray} (h : putR b x = (r, 0)) : r = B (b ++ putE x) ∧ x.f4.size ≤ 16384 ∧ x.f5.f2.length ≤ 256 := by
  unfold putR at h
  split at h
  · simp at h
  case isFalse hn =>
    simp only [Prod.mk.injEq, and_true] at h
    exact ⟨h.symm, by omega, by omega⟩
set_option maxRecDepth 100000 in
set_option maxHeartbeats 8000000 in
theorem enc_x (A : Option Addr) (c : Nat) (xs : List S28) (w : World) (hC : Kd.C k28 w A xs.length xs) (hc : xs.length ≤ c) (hx : ∀ x ∈ xs, WE x) (r : ByteArray) (e : Int) (hr : encR xs = (r, e)) :
    Calls Try.prog 8 #[.slice A xs.length c] w fun e' w' => e' = .returned (.tuple #[.string r, .int .i64 e]) ∧ Below w.heap.size w w' := by
  have mixed : (Try.prog).follows .mixedOrders = true := by kernel_rfl
  have hu28 := Try.underlying28
  have hu26 := Try.underlying26
  have HC := Aside0.mk hC
  have HX := Aside0.mk hx
  have HR := Lib.hid hr
  have HB := Aside0.mk (Below.refl w.heap.size w)
  clear hC hx hr
  by_cases hbig : xs.length > 256
  case pos =>
    have d1 : decide (256 < xs.length) = true := decide_eq_true hbig
    have d2 : decide (256 < (xs.length : Int)) = true := decide_eq_true (by omega)
    obtain ⟨rfl, rfl⟩ : (⟨#[]⟩ : ByteArray) = r ∧ 4 = e := by have h := HR.out; unfold encR at h; rw [if_pos hbig] at h; simpa using h
    clear hbig
    go_enter Try.func8, Try.ntmps8
    go_wp2
    go_ret2
    exact ⟨rfl, HB.out⟩
  case neg =>
    have d1 : decide (256 < xs.length) = false := decide_eq_false hbig
    have d2 : decide (256 < (xs.length : Int)) = false := decide_eq_false (by omega)
    have HG : Hid (encGo (putI xs.length) xs = (r, e)) := Lib.hid (by have h := HR.out; unfold encR at h; rw [if_neg hbig] at h; exact h)
    have HPI : Aside0 (wire_PutInt.f (⟨#[]⟩ : ByteArray) (xs.length : Int) = some (B (putI xs.length))) := ⟨by
      have h := wire_PutInt_eq [] (xs.length : Int) (by simp) (by omega)
      rw [List.nil_append] at h
      exact h⟩
    have hl0 : (putI (xs.length : Int)).length ≤ 10 := putI_len (by omega)
    have hn : xs.length ≤ 256 := by omega
    clear hbig HR
    go_enter Try.func8, Try.ntmps8
    go_wp2_with (first | (go_at_call 24; go_loud (with_reducible refine (wire_PutInt.calls _ _ _ _ HPI.out).mono ?_); go_loud (rintro e' w' ⟨rfl, hd⟩; have n_ := Aside0.mk (below_step HB.out hd); clear HB hd; have HB := n_; clear n_)))
    go_loopw [4, 17] (fun s4 s17 wr => ∃ (k : Nat) (b : List UInt8), k ≤ xs.length ∧ s17 = .int .i64 k ∧ s4 = .string (B b) ∧ b.length ≤ 10 + 60000 * k ∧ Hid (encGo b (xs.drop k) = (r, e)) ∧ Aside0 (Below w.heap.size w wr)) (fun _ s17 _ => xs.length - (intOf s17).toNat)
    case atStart => exact ⟨0, putI xs.length, by omega, rfl, rfl, by omega, HG, HB⟩
    case round =>
      clear HB HG
      obtain ⟨k, b, hk, rfl, rfl, hbl, HG, HB⟩ := hrel
      by_cases hks : k < xs.length
      case neg =>
        obtain rfl : k = xs.length := by omega
        obtain ⟨rfl, rfl⟩ : B b = r ∧ 0 = e := by have h := HG.out; rw [List.drop_length, encGo] at h; simpa using h
        go_wp2
        go_ret2
        exact ⟨rfl, HB.out⟩
      case pos =>
      obtain ⟨x, hxk⟩ : ∃ x, x = xs[k] := ⟨_, rfl⟩
      obtain ⟨ad, A7, c7, ead, hx0, hx1, hx2, hx3, hx4, hx5, hx6, hx7, hl7, hi7⟩ := at_T28 (Kd.C_below HC.out HB.out) (k : Int) (by omega) (by omega)
      cases ead
      rw [show rd_T28 xs (k : Int) = x by rw [hxk]; simp [rd_T28, List.getD, hks]] at hx0 hx1 hx2 hx3 hx4 hx5 hx6 hx7 hl7 hi7
      simp only [Int.toNat_natCast] at hx0 hx1 hx2 hx3 hx4 hx5 hx6 hx7
      have HWE : Aside0 (WE x) := ⟨by rw [hxk]; exact HX.out _ (List.getElem_mem hks)⟩
      have HG2 : Hid (encGo b (x :: xs.drop (k + 1)) = (r, e)) := Lib.hid (by have h := HG.out; rw [List.drop_eq_getElem_cons hks, ← hxk] at h; exact h)
      clear hxk HG
      obtain ⟨x0, x1, x2, x3, x4, ⟨x5, x6, ss⟩⟩ := x
      obtain ⟨tl, rfl⟩ := exB x4
      dsimp only at hx0 hx1 hx2 hx3 hx4 hx5 hx6 hx7 hl7 hi7
      have HI7 := Aside0.mk hi7
      have hksi : (k : Int) < (xs.length : Int) := by omega
      obtain ⟨r1, e1, hp⟩ : ∃ r1 e1, putR b ⟨x0, x1, x2, x3, B tl, ⟨x5, x6, ss⟩⟩ = (r1, e1) := ⟨_, _, rfl⟩
      have HP := Lib.hid hp
      clear hi7 hp
      by_cases he : e1 = 0
      case neg =>
        have g0 := bne_t he
        obtain ⟨rfl, rfl⟩ : (⟨#[]⟩ : ByteArray) = r ∧ e1 = e := by have h := HG2.out; rw [encGo, HP.out, if_pos he] at h; simpa using h
        clear he
        go_wp2_with (first | (go_at_call 14; go_loud (with_reducible refine (put_x b x0 x1 x2 x3 tl x5 x6 A7 c7 ss _ (Kd.C_below HI7.out (below_alloc (Below.refl wr.heap.size wr) (.cells #[.int .i64 x0, .int .i64 x1, .int .i64 x2, .int .i64 x3, .string (B tl), .int .i64 x5, .int .i64 x6, .slice A7 ss.length c7] 28))) hl7 HWE.out (by omega) _ _ HP.out).mono ?_); go_loud (rintro e' w' ⟨rfl, hd⟩; have n_ := Aside0.mk (below_step HB.out (below_step (below_alloc (Below.refl wr.heap.size wr) (.cells #[.int .i64 x0, .int .i64 x1, .int .i64 x2, .int .i64 x3, .string (B tl), .int .i64 x5, .int .i64 x6, .slice A7 ss.length c7] 28)) hd)); clear HB hd; have HB := n_; clear n_)))
        go_ret2
        exact ⟨rfl, HB.out⟩
      case pos =>
        subst he
        obtain ⟨rfl, h4, hs7⟩ := putR_ok HP.out
        have HG3 : Hid (encGo (b ++ putE ⟨x0, x1, x2, x3, B tl, ⟨x5, x6, ss⟩⟩) (xs.drop (k + 1)) = (r, e)) := Lib.hid (by have h := HG2.out; rw [encGo, HP.out, if_neg (fun z => z rfl)] at h; exact h)
        have hbl2 : (b ++ putE ⟨x0, x1, x2, x3, B tl, ⟨x5, x6, ss⟩⟩).length ≤ 10 + 60000 * (k + 1) := by have := putE_len HWE.out h4 hs7; rw [List.length_append]; omega
        clear h4 hs7 HG2
        go_wp2_with (first | (go_at_call 14; go_loud (with_reducible refine (put_x b x0 x1 x2 x3 tl x5 x6 A7 c7 ss _ (Kd.C_below HI7.out (below_alloc (Below.refl wr.heap.size wr) (.cells #[.int .i64 x0, .int .i64 x1, .int .i64 x2, .int .i64 x3, .string (B tl), .int .i64 x5, .int .i64 x6, .slice A7 ss.length c7] 28))) hl7 HWE.out (by omega) _ _ HP.out).mono ?_); go_loud (rintro e' w' ⟨rfl, hd⟩; have n_ := Aside0.mk (below_step HB.out (below_step (below_alloc (Below.refl wr.heap.size wr) (.cells #[.int .i64 x0, .int .i64 x1, .int .i64 x2, .int .i64 x3, .string (B tl), .int .i64 x5, .int .i64 x6, .slice A7 ss.length c7] 28)) hd)); clear HB hd; have HB := n_; clear n_)))
        go_roundw
        case rel => exact ⟨k + 1, _, by omega, by go_num, rfl, hbl2, HG3, HB⟩
        case measure => simp only [intOf]; omega
end Go.Proofs.Ytcjdnahgffkbdaa.Sen

namespace Go.Proofs.Ytcjdnahgffkbdaa.Srt
open Go Go.RowKit Go.Proofs Go.Proofs.Ytcjdnahgffkbdaa.Gm Go.Proofs.Ytcjdnahgffkbdaa.Gwa Go.Proofs.Ytcjdnahgffkbdaa.Gwb Go.Proofs.Ytcjdnahgffkbdaa.Gwd Go.Proofs.Ytcjdnahgffkbdaa.Srd Go.Proofs.Ytcjdnahgffkbdaa.Srs Go.Proofs.Ytcjdnahgffkbdaa.Sst Go.Proofs.Ytcjdnahgffkbdaa.Sev Go.Proofs.Ytcjdnahgffkbdaa.Sgt Go.Proofs.Ytcjdnahgffkbdaa.Sdc Go.Proofs.Ytcjdnahgffkbdaa.Spt Go.Proofs.Ytcjdnahgffkbdaa.Sen Go.Proofs.Ytcjdnahgffkbdaa.Q Go.Proofs.YtcjdnahgffkbdaaW.PrintWords
set_option linter.unusedVariables false
theorem rI_at {L p q : List UInt8} {n : Int} (h : L = p ++ (putI n ++ q)) (hn : I64 n) : rI L (p.length : Int) 0 = (n, ((p ++ putI n).length : Int), 0) := by
  subst h
  unfold rI th
  rw [intAt_put p q n hn]
  simp
theorem rS_at {L p q : List UInt8} {s : S64} (h : L = p ++ (putL (Spt.nums s) ++ q)) (hs : W11 s) : rS L (p.length : Int) 0 = (s, ((p ++ putL (Spt.nums s)).length : Int), 0) := by
  subst h
  unfold rS th
  rw [listAt_put p q (Spt.nums s) 11 (fun x hx => wf64 (hs x hx)) (by simp [Spt.nums]) (by simp [Spt.nums])]
  simp [Spt.nums, stOf, rd]
theorem rSs_at : ∀ (ss : List S64) (L p q : List UInt8) (acc : List S64), L = p ++ (putS ss ++ q) → (∀ s ∈ ss, W11 s) → rSs L ss.length acc (p.length : Int) 0 = (acc ++ ss, ((p ++ putS ss).length : Int), 0)
  | [], L, p, q, acc, h, hs => by simp [rSs, putS]
  | s :: ss, L, p, q, acc, h, hs => by
    have h1 : L = p ++ (putL (Spt.nums s) ++ (putS ss ++ q)) := by rw [h]; simp [putS]
    have h2 : L = (p ++ putL (Spt.nums s)) ++ (putS ss ++ q) := by rw [h1]; simp
    rw [List.length_cons, rSs, if_pos rfl, rS_at h1 (hs s List.mem_cons_self)]
    simp only
    rw [rSs_at ss L _ q _ h2 (fun t ht => hs t (List.mem_cons_of_mem _ ht))]
    simp [putS]
theorem rE_at {L p q : List UInt8} {x : S28} (h : L = p ++ (putE x ++ q)) (hx : WE x) (h4 : x.f4.size ≤ 16384) (hs : x.f5.f2.length ≤ 256) : rE L (p.length : Int) 0 = (x, ((p ++ putE x).length : Int), 0) := by
  obtain ⟨x0, x1, x2, x3, x4, ⟨x5, x6, ss⟩⟩ := x
  obtain ⟨tl, rfl⟩ := exB x4
  have htl : tl.length ≤ 16384 := by rw [← B_size tl]; exact h4
  have e0 : putE ⟨x0, x1, x2, x3, B tl, ⟨x5, x6, ss⟩⟩ = putI x0 ++ (putI x1 ++ (putI x2 ++ (putI x3 ++ (putI tl.length ++ (tl ++ (putI x5 ++ (putI x6 ++ (putI ss.length ++ putS ss)))))))) := by simp [putE, B_data]
  rw [e0] at h ⊢
  have i0 : L = p ++ (putI x0 ++ (putI x1 ++ (putI x2 ++ (putI x3 ++ (putI tl.length ++ (tl ++ (putI x5 ++ (putI x6 ++ (putI ss.length ++ (putS ss ++ q)))))))))) := by rw [h]; simp
  have i1 : L = (p ++ putI x0) ++ (putI x1 ++ (putI x2 ++ (putI x3 ++ (putI tl.length ++ (tl ++ (putI x5 ++ (putI x6 ++ (putI ss.length ++ (putS ss ++ q))))))))) := by rw [i0]; simp
  have i2 : L = ((p ++ putI x0) ++ putI x1) ++ (putI x2 ++ (putI x3 ++ (putI tl.length ++ (tl ++ (putI x5 ++ (putI x6 ++ (putI ss.length ++ (putS ss ++ q)))))))) := by rw [i0]; simp
  have i3 : L = (((p ++ putI x0) ++ putI x1) ++ putI x2) ++ (putI x3 ++ (putI tl.length ++ (tl ++ (putI x5 ++ (putI x6 ++ (putI ss.length ++ (putS ss ++ q))))))) := by rw [i0]; simp
  have r0 := rI_at i0 hx.h0
  have r1 := rI_at i1 hx.h1
  have r2 := rI_at i2 hx.h2
  have r3 := rI_at i3 hx.h3
  generalize hp4 : (((p ++ putI x0) ++ putI x1) ++ putI x2) ++ putI x3 = p4 at r3
  have i4 : L = p4 ++ (putI tl.length ++ (tl ++ (putI x5 ++ (putI x6 ++ (putI ss.length ++ (putS ss ++ q)))))) := by rw [i0, ← hp4]; simp
  have s1 : stI L (p.length : Int) 0 1 = (((p ++ putI x0).length : Int), 0) := by simp only [stI, r0]
  have s2 : stI L (p.length : Int) 0 2 = ((((p ++ putI x0) ++ putI x1).length : Int), 0) := by rw [stI, s1, r1]
  have s3 : stI L (p.length : Int) 0 3 = (((((p ++ putI x0) ++ putI x1) ++ putI x2).length : Int), 0) := by rw [stI, s2, r2]
  have s4 : stI L (p.length : Int) 0 4 = ((p4.length : Int), 0) := by rw [stI, s3, r3]
  have n0 : nmI L (p.length : Int) 0 0 = x0 := by simp only [nmI, stI, r0]
  have n1 : nmI L (p.length : Int) 0 1 = x1 := by rw [nmI, s1, r1]
  have n2 : nmI L (p.length : Int) 0 2 = x2 := by rw [nmI, s2, r2]
  have n3 : nmI L (p.length : Int) 0 3 = x3 := by rw [nmI, s3, r3]
  generalize hp5 : p4 ++ (putI (tl.length : Int) ++ tl) = p5
  have hT : evT L (p.length : Int) 0 = (B tl, (p5.length : Int), 0) := by
    unfold evT th
    rw [s4]
    have ht := textAt_put p4 (putI x5 ++ (putI x6 ++ (putI ss.length ++ (putS ss ++ q)))) tl 16384 (by omega) (by omega)
    rw [← i4] at ht
    simp only [ht, ne_eq, not_true_eq_false, if_false, ← hp5, List.length_append, Nat.add_assoc]
  have j5 : L = p5 ++ (putI x5 ++ (putI x6 ++ (putI ss.length ++ (putS ss ++ q)))) := by rw [i4, ← hp5]; simp
  have j6 : L = (p5 ++ putI x5) ++ (putI x6 ++ (putI ss.length ++ (putS ss ++ q))) := by rw [j5]; simp
  have j7 : L = ((p5 ++ putI x5) ++ putI x6) ++ (putI ss.length ++ (putS ss ++ q)) := by rw [j5]; simp
  have r5 := rI_at j5 hx.h5
  have r6 := rI_at j6 hx.h6
  have r7 := rI_at (n := (ss.length : Int)) j7 (by unfold I64; have : ss.length ≤ 256 := hs; omega)
  have t1 : stI L (p5.length : Int) 0 1 = (((p5 ++ putI x5).length : Int), 0) := by simp only [stI, r5]
  have t2 : stI L (p5.length : Int) 0 2 = ((((p5 ++ putI x5) ++ putI x6).length : Int), 0) := by rw [stI, t1, r6]
  have m0 : nmI L (p5.length : Int) 0 0 = x5 := by simp only [nmI, stI, r5]
  have m1 : nmI L (p5.length : Int) 0 1 = x6 := by rw [nmI, t1, r6]
  generalize hp8 : ((p5 ++ putI x5) ++ putI x6) ++ putI (ss.length : Int) = p8 at r7
  have hss : ss.length ≤ 256 := hs
  have hCt : evC L (p.length : Int) 0 = ((ss.length : Int), (p8.length : Int), 0) := by
    unfold evC
    rw [hT]
    simp only [t2]
    unfold rC
    rw [r7, if_neg (by simp only; omega)]
  have j8 : L = p8 ++ (putS ss ++ q) := by rw [j7, ← hp8]; simp
  have hR := rSs_at ss L p8 q [] j8 hx.hs
  unfold rE
  simp only [hT, hCt, n0, n1, n2, n3, m0, m1, Int.toNat_natCast, hR, List.nil_append]
  simp only [← hp8, ← hp5, ← hp4, List.append_assoc]
/-- The first events of a list have no error. -/
def okE (x : S28) : Prop := WE x ∧ x.f4.size ≤ 16384 ∧ x.f5.f2.length ≤ 256
def putEs (xs : List S28) : List UInt8 := xs.flatMap putE
theorem encGo_ok : ∀ (xs : List S28) (b : List UInt8), (∀ x ∈ xs, okE x) → encGo b xs = (B (b ++ putEs xs), 0)
  | [], b, h => by simp [encGo, putEs]
  | x :: xs, b, h => by
    obtain ⟨h1, h2, h3⟩ := h x List.mem_cons_self
    have hp : putR b x = (B (b ++ putE x), 0) := by unfold putR; rw [if_neg (by omega)]
    rw [encGo, hp, if_neg (by simp), encGo_ok xs _ (fun y hy => h y (List.mem_cons_of_mem _ hy))]
    simp [putEs]
theorem rEs_at : ∀ (xs : List S28) (L p q : List UInt8) (acc : List S28), L = p ++ (putEs xs ++ q) → (∀ x ∈ xs, okE x) → rEs L xs.length acc (p.length : Int) 0 = (acc ++ xs, ((p ++ putEs xs).length : Int), 0)
  | [], L, p, q, acc, h, hx => by simp [rEs, putEs]
  | x :: xs, L, p, q, acc, h, hx => by
    have h1 : L = p ++ (putE x ++ (putEs xs ++ q)) := by rw [h]; simp [putEs]
    have h2 : L = (p ++ putE x) ++ (putEs xs ++ q) := by rw [h1]; simp
    obtain ⟨g1, g2, g3⟩ := hx x List.mem_cons_self
    rw [List.length_cons, rEs, if_pos rfl, rE_at h1 g1 g2 g3]
    simp only
    rw [rEs_at xs L _ q _ h2 (fun t ht => hx t (List.mem_cons_of_mem _ ht))]
    simp [putEs]
/-- What script.Encode writes, script.Decode reads. -/
theorem enc_ok {xs : List S28} (hl : xs.length ≤ 256) (h : ∀ x ∈ xs, okE x) : encR xs = (B (putI xs.length ++ putEs xs), 0) := by
  unfold encR
  rw [if_neg (by omega), encGo_ok xs _ h]
theorem dec_enc {xs : List S28} (hl : xs.length ≤ 256) (h : ∀ x ∈ xs, okE x) : decR (putI xs.length ++ putEs xs) = (xs, 0) := by
  have r0 := rI_at (L := putI xs.length ++ putEs xs) (p := []) (q := putEs xs) (n := (xs.length : Int)) rfl (by unfold I64; omega)
  have hc : rC (putI xs.length ++ putEs xs) 0 0 256 = ((xs.length : Int), ((putI (xs.length : Int)).length : Int), 0) := by
    unfold rC
    simp only [List.length_nil, List.nil_append] at r0
    rw [show ((0 : Nat) : Int) = 0 from rfl] at r0
    rw [r0, if_neg (by simp only; omega)]
  have hr := rEs_at xs (putI xs.length ++ putEs xs) (putI xs.length) [] [] (by simp) h
  unfold decR
  simp only [hc, Int.toNat_natCast, hr, ne_eq, not_true_eq_false, if_false, List.nil_append]
end Go.Proofs.Ytcjdnahgffkbdaa.Srt

namespace Go.Proofs.Ytcjdnahgffkbdaa.Sri
open Go Go.RowKit Go.Proofs Go.Proofs.Ytcjdnahgffkbdaa.Gm Go.Proofs.Ytcjdnahgffkbdaa.Gwa Go.Proofs.Ytcjdnahgffkbdaa.Gwb Go.Proofs.Ytcjdnahgffkbdaa.Gwd Go.Proofs.Ytcjdnahgffkbdaa.Srd Go.Proofs.Ytcjdnahgffkbdaa.Srs Go.Proofs.Ytcjdnahgffkbdaa.Sst Go.Proofs.Ytcjdnahgffkbdaa.Sev Go.Proofs.Ytcjdnahgffkbdaa.Sgt Go.Proofs.Ytcjdnahgffkbdaa.Sdc Go.Proofs.Ytcjdnahgffkbdaa.Spt Go.Proofs.Ytcjdnahgffkbdaa.Sen Go.Proofs.Ytcjdnahgffkbdaa.Srt Go.Proofs.Ytcjdnahgffkbdaa.Q
set_option linter.unusedVariables false
/-- What lies from one place to another. -/
structure Sp (L : List UInt8) (a b : Int) (t : List UInt8) : Prop where
  h0 : 0 ≤ a
  hb : b = a + t.length
  hl : b ≤ L.length
  tk : (L.drop a.toNat).take t.length = t
section
variable {L t u : List UInt8} {a b c : Int}
theorem Sp.app (h : Sp L a b t) (k : Sp L b c u) : Sp L a c (t ++ u) := by
  refine ⟨h.h0, by rw [k.hb, h.hb, List.length_append]; omega, k.hl, ?_⟩
  have e : b.toNat = a.toNat + t.length := by have := h.hb; have := h.h0; omega
  rw [List.length_append, List.take_add, h.tk, List.drop_drop, ← e, k.tk]
end
end Go.Proofs.Ytcjdnahgffkbdaa.Sri

namespace Go.Proofs.Ytcjdnahgffkbdaa.Ssa
open Go Go.RowKit Go.Proofs Go.Proofs.Ytcjdnahgffkbdaa.Gm Go.Proofs.Ytcjdnahgffkbdaa.Sdc Go.Proofs.Ytcjdnahgffkbdaa.Spt Go.Proofs.Ytcjdnahgffkbdaa.Sen Go.Proofs.Ytcjdnahgffkbdaa.Srt Go.Proofs.Ytcjdnahgffkbdaa.Q Go.Proofs.YtcjdnahgffkbdaaW.PrintWords Go.Proofs.YtcjdnahgffkbdaaW.PrintLast Go.Proofs.YtcjdnahgffkbdaaW.PrintMore
set_option linter.unusedVariables false
theorem putI_zero : putI ((0 : Nat) : Int) = [0] := by
  unfold putI
  rw [show zig ((0 : Nat) : Int) = 0 from rfl, grp_last (by omega)]
  rfl
theorem enc0 (w : World) : Calls Try.prog 8 #[.slice none 0 0] w fun e' w' => e' = .returned (.tuple #[.string ⟨#[0]⟩, .int .i64 0]) ∧ Below w.heap.size w w' :=
  enc_x none 0 [] w (Kd.C_nil _ _) (Nat.le_refl _) (by simp) (B [0]) 0 (by
    have h := enc_ok (xs := []) (by simp) (by simp)
    rw [h, List.length_nil, putI_zero]
    rfl)
theorem dec0 (w : World) : Calls Try.prog 10 #[.string ⟨#[0]⟩] w fun e' w' => ∃ (A : Option Addr) (c : Nat), e' = .returned (.tuple #[.slice A 0 c, .int .i64 0]) ∧ Below w.heap.size w w' := by
  have h := dec_enc (xs := []) (by simp) (by simp)
  rw [List.length_nil, putI_zero, show putEs [] = [] from rfl, List.append_nil] at h
  refine (dec_x [0] (by simp) w [] 0 h).mono fun e' w' z => ?_
  obtain ⟨v, e1, hR, hb⟩ := z
  obtain ⟨A, c, hv⟩ := Kd.R_slice hR
  exact ⟨A, c, by rw [e1, hv]; rfl, hb⟩
set_option maxRecDepth 100000 in
theorem sane_x (w : World) : Calls Try.prog 7 #[] w fun e' w' => e' = .returned (.bool true) ∧ Below w.heap.size w w' := by
  have HB := Aside0.mk (Below.refl w.heap.size w)
  go_enter Try.func7, Try.ntmps7
  go_wp2_with (first | (go_at_call 8; with_reducible refine (enc0 _).mono ?_; rintro e' w1 ⟨rfl, hb⟩; have n_ := Aside0.mk (below_step HB.out hb); clear HB hb; have HB := n_; clear n_) | (go_at_call 10; with_reducible refine (dec0 _).mono ?_; rintro e' w2 ⟨A, c, rfl, hb⟩; have n_ := Aside0.mk (below_step HB.out hb); clear HB hb; have HB := n_; clear n_))
  go_ret
  exact ⟨rfl, HB.out⟩
end Go.Proofs.Ytcjdnahgffkbdaa.Ssa

namespace Go.Proofs.Ytcjdnahgffkbdaa.Q
open Go.RowKit Go.Proofs.YtcjdnahgffkbdaaW.PrintWords Go.Proofs.YtcjdnahgffkbdaaW.PrintLast Go.Proofs.YtcjdnahgffkbdaaW.PrintMore Go.Proofs.Ytcjdnahgffkbdaa.Gput Go.Proofs.Ytcjdnahgffkbdaa.Gputl
attribute [local go_sem] max2_int min2_int max_two min_two max_three min_three max_four min_four   -- for this text's walks alone
set_option linter.unusedVariables false
set_option linter.unusedSimpArgs false
def storagebarterref15_Bytes.l0 : Nat → ByteArray → List Int → Int → Int → Option (ByteArray)
  | 0, _, _, _, _ => none
  | k + 1, x3, x26, x27, x28 => if x28 < x27 then (if 0 ≤ x28 then (if x28 < (x26.length : Int) then ((storagebarterref01_PutInt.f k x3 (rd x26 x28)).bind fun t221 => (storagebarterref15_Bytes.l0 k t221 x26 x27 (wrap64 (x28 + 1)))) else (none)) else (none)) else (some x3)
def storagebarterref15_Bytes.f (k : Nat) (a0_0 : Int) (a0_1 : Int) (a0_2 : Int) (a0_3 : Int) (a0_4 : Int) (a0_5 : Int) (a0_6 : Int) (a0_7 : Int) (a0_8 : Int) (a0_9 : Int) (a0_10 : Int) : Option (ByteArray) := (some (([a0_0, a0_1, a0_2, a0_3, a0_4, a0_5, a0_6, a0_7, a0_8, a0_9] : List Int) : List Int)).bind fun y217 => (storagebarterref15_Bytes.l0 k (⟨#[]⟩ : ByteArray) y217 (y217.length : Int) 0)
theorem storagebarterref15_Bytes.mono_l : ∀ k, (∀ y0 y1 y2 y3, LeO (storagebarterref15_Bytes.l0 k y0 y1 y2 y3) (storagebarterref15_Bytes.l0 (k + 1) y0 y1 y2 y3))
  | 0 => fun _ _ _ _ r h => by simp [storagebarterref15_Bytes.l0] at h
  | k + 1 => by
    have ih0 := storagebarterref15_Bytes.mono_l k
    · intro y0 y1 y2 y3
      unfold storagebarterref15_Bytes.l0
      repeat' first
      | (with_reducible exact ih0 _ _ _ _)
      | (with_reducible exact storagebarterref01_PutInt.mono _ _ _)
      | (with_reducible exact LeO.refl _)
      | (with_reducible exact LeO.none _)
      | (with_reducible refine LeO.ite ?_ ?_)
      | (with_reducible refine LeO.bind ?_ (fun _ => ?_))
      | exact ih0 _ _ _ _
      | exact storagebarterref01_PutInt.mono _ _ _
      | exact LeO.none _
      | refine LeO.ite ?_ ?_
      | refine LeO.bind ?_ (fun _ => ?_)
theorem storagebarterref15_Bytes.mono : ∀ a0 a1 a2 a3 a4 a5 a6 a7 a8 a9 a10 k, LeO (storagebarterref15_Bytes.f k a0 a1 a2 a3 a4 a5 a6 a7 a8 a9 a10) (storagebarterref15_Bytes.f (k + 1) a0 a1 a2 a3 a4 a5 a6 a7 a8 a9 a10) := by
  intro a0 a1 a2 a3 a4 a5 a6 a7 a8 a9 a10 k
  have ih0 := storagebarterref15_Bytes.mono_l k
  unfold storagebarterref15_Bytes.f
  repeat' first
      | (with_reducible exact ih0 _ _ _ _)
      | (with_reducible exact storagebarterref01_PutInt.mono _ _ _)
      | (with_reducible exact LeO.refl _)
      | (with_reducible exact LeO.none _)
      | (with_reducible refine LeO.ite ?_ ?_)
      | (with_reducible refine LeO.bind ?_ (fun _ => ?_))
      | exact ih0 _ _ _ _
      | exact storagebarterref01_PutInt.mono _ _ _
      | exact LeO.none _
      | refine LeO.ite ?_ ?_
      | refine LeO.bind ?_ (fun _ => ?_)
set_option maxHeartbeats 8000000 in
set_option maxRecDepth 100000 in
theorem storagebarterref15_Bytes.calls (k : Nat) (a0_0 : Int) (a0_1 : Int) (a0_2 : Int) (a0_3 : Int) (a0_4 : Int) (a0_5 : Int) (a0_6 : Int) (a0_7 : Int) (a0_8 : Int) (a0_9 : Int) (a0_10 : Int) (r : ByteArray) (w : World) (h : storagebarterref15_Bytes.f k a0_0 a0_1 a0_2 a0_3 a0_4 a0_5 a0_6 a0_7 a0_8 a0_9 a0_10 = some r) :
    Calls Try.prog 68 #[.agg #[.int .i64 a0_0, .int .i64 a0_1, .int .i64 a0_2, .int .i64 a0_3, .int .i64 a0_4, .int .i64 a0_5, .int .i64 a0_6, .int .i64 a0_7, .int .i64 a0_8, .int .i64 a0_9, .int .i64 a0_10]] w fun e w' => e = .returned (.string r) ∧ Below w.heap.size w w' := by
  have hu64 := Try.underlying64
  have HB := Aside0.mk (Below.refl w.heap.size w)
  have H : ((some (([a0_0, a0_1, a0_2, a0_3, a0_4, a0_5, a0_6, a0_7, a0_8, a0_9] : List Int) : List Int)).bind fun y217 => (storagebarterref15_Bytes.l0 k (⟨#[]⟩ : ByteArray) y217 (y217.length : Int) 0)) = some r := h
  clear h
  obtain ⟨y217, hy217⟩ : ∃ y_ : List Int, y_ = (([a0_0, a0_1, a0_2, a0_3, a0_4, a0_5, a0_6, a0_7, a0_8, a0_9] : List Int)) := ⟨_, rfl⟩
  replace H : (storagebarterref15_Bytes.l0 k (⟨#[]⟩ : ByteArray) y217 (y217.length : Int) 0) = some r := by first | (rw [hy217]; with_reducible exact H) | (have H2_ := (Option.bind_some _ _).symm.trans H; rw [hy217]; with_reducible exact H2_) | (have H2_ := (Option.bind_some _ _).symm.trans H; with_reducible exact H2_) | with_reducible exact H | (rw [hy217]; exact H) | exact H
  have Ny217 := Aside0.mk hy217
  clear hy217
  have H' := Aside0.mk H
  clear H
  go_enter Try.func68, Try.ntmps68
  go_wp2_with (first | ((with_reducible refine gate_dst (N := 1) rfl ?_); refine box_event ?hg (N := 1) ?hd (cs := #[.int .i64 a0_0, .int .i64 a0_1, .int .i64 a0_2, .int .i64 a0_3, .int .i64 a0_4, .int .i64 a0_5, .int .i64 a0_6, .int .i64 a0_7, .int .i64 a0_8, .int .i64 a0_9, .int .i64 a0_10]) (t := 64) ?hr ?_; (case hd => rfl); (case hg => rfl); (case hr => first | (go_simp; done) | (go_simp; rfl)); intro gb216 hg w2 hbox hb; have n0_ := Aside0.mk (below_step (by repeat (first | (with_reducible first | exact HB.out | apply below_alloc | apply pw_below_drewN | apply below_drew1) | exact HB.out)) hb); have n1_ := Aside0.mk (hbox); have n2_ := Aside0.mk ((by rw [hg]; exact (below_size (by repeat (first | (with_reducible first | exact HB.out | apply below_alloc | apply pw_below_drewN | apply below_drew1) | exact HB.out))) : w.heap.size ≤ gb216)); have n3_ := Aside0.mk ((by rw [hg]; exact (below_size (by repeat (first | (with_reducible first | exact HB.out | apply below_alloc | apply pw_below_drewN | apply below_drew1) | exact HB.out))) : w.heap.size ≤ gb216)); clear HB; have HB := n0_; have BK216 := n1_; have GW216 := n2_; have GE216 := n3_; clear n0_ n1_ n2_ n3_; clear hb hbox hg; have hcz3_0 : w2.cell? ⟨gb216, 0, none⟩ = some (.int .i64 a0_0) := (blk_cell BK216.out 0).trans rfl; have hcz3_1 : w2.cell? ⟨gb216, 1, none⟩ = some (.int .i64 a0_1) := (blk_cell BK216.out 1).trans rfl; have hcz3_2 : w2.cell? ⟨gb216, 2, none⟩ = some (.int .i64 a0_2) := (blk_cell BK216.out 2).trans rfl; have hcz3_3 : w2.cell? ⟨gb216, 3, none⟩ = some (.int .i64 a0_3) := (blk_cell BK216.out 3).trans rfl; have hcz3_4 : w2.cell? ⟨gb216, 4, none⟩ = some (.int .i64 a0_4) := (blk_cell BK216.out 4).trans rfl; have hcz3_5 : w2.cell? ⟨gb216, 5, none⟩ = some (.int .i64 a0_5) := (blk_cell BK216.out 5).trans rfl; have hcz3_6 : w2.cell? ⟨gb216, 6, none⟩ = some (.int .i64 a0_6) := (blk_cell BK216.out 6).trans rfl; have hcz3_7 : w2.cell? ⟨gb216, 7, none⟩ = some (.int .i64 a0_7) := (blk_cell BK216.out 7).trans rfl; have hcz3_8 : w2.cell? ⟨gb216, 8, none⟩ = some (.int .i64 a0_8) := (blk_cell BK216.out 8).trans rfl; have hcz3_9 : w2.cell? ⟨gb216, 9, none⟩ = some (.int .i64 a0_9) := (blk_cell BK216.out 9).trans rfl; have hcz3_10 : w2.cell? ⟨gb216, 10, none⟩ = some (.int .i64 a0_10) := (blk_cell BK216.out 10).trans rfl; have hfz3_0 := blk_frozen BK216.out 0; have hfz3_1 := blk_frozen BK216.out 1; have hfz3_2 := blk_frozen BK216.out 2; have hfz3_3 := blk_frozen BK216.out 3; have hfz3_4 := blk_frozen BK216.out 4; have hfz3_5 := blk_frozen BK216.out 5; have hfz3_6 := blk_frozen BK216.out 6; have hfz3_7 := blk_frozen BK216.out 7; have hfz3_8 := blk_frozen BK216.out 8; have hfz3_9 := blk_frozen BK216.out 9; have hfz3_10 := blk_frozen BK216.out 10) | ((with_reducible refine gate_dst (N := 26) rfl ?_); refine Kd.R_lit (Kd.int .i64) _ 3 ?hg (N := 26) ?hd (xs := ([a0_0, a0_1, a0_2, a0_3, a0_4, a0_5, a0_6, a0_7, a0_8, a0_9] : List Int)) (inner := [.int .i64 a0_0, .int .i64 a0_1, .int .i64 a0_2, .int .i64 a0_3, .int .i64 a0_4, .int .i64 a0_5, .int .i64 a0_6, .int .i64 a0_7, .int .i64 a0_8, .int .i64 a0_9]) (ok := fun _ => True) (okp := fun _ => True) ?hr ?hp (fun _ hk => hk) trivial (Below.refl _ _) (Nat.le_refl _) (by simp) ?_; (case hd => rfl); (case hg => rfl); (case hr => first | (go_simp; done) | (go_simp; rfl)); (case hp => exact (Reps.one (show Kd.M (Kd.int .i64) _ _ _ a0_0 [.int .i64 a0_0] from rfl) (Reps.one (show Kd.M (Kd.int .i64) _ _ _ a0_1 [.int .i64 a0_1] from rfl) (Reps.one (show Kd.M (Kd.int .i64) _ _ _ a0_2 [.int .i64 a0_2] from rfl) (Reps.one (show Kd.M (Kd.int .i64) _ _ _ a0_3 [.int .i64 a0_3] from rfl) (Reps.one (show Kd.M (Kd.int .i64) _ _ _ a0_4 [.int .i64 a0_4] from rfl) (Reps.one (show Kd.M (Kd.int .i64) _ _ _ a0_5 [.int .i64 a0_5] from rfl) (Reps.one (show Kd.M (Kd.int .i64) _ _ _ a0_6 [.int .i64 a0_6] from rfl) (Reps.one (show Kd.M (Kd.int .i64) _ _ _ a0_7 [.int .i64 a0_7] from rfl) (Reps.one (show Kd.M (Kd.int .i64) _ _ _ a0_8 [.int .i64 a0_8] from rfl) (Reps.one (show Kd.M (Kd.int .i64) _ _ _ a0_9 [.int .i64 a0_9] from rfl) (Reps.none _ _)))))))))))); intro v218 w4 ho5 hb hg_ hnew_; clear hg_ hnew_; (first | rw [← Ny217.out] at ho5 | (simp only [Int.reduceToNat] at ho5; rw [← Ny217.out] at ho5)); have n0_ := Aside0.mk (Kd.R_lower ho5 (below_size (by repeat (first | (with_reducible first | exact HB.out | apply below_alloc | apply pw_below_drewN | apply below_drew1 | refine below_set ?_ GE216.out) | exact HB.out)))); have n1_ := Aside0.mk (blk_below (g := gb216) (o := .cells #[.int .i64 a0_0, .int .i64 a0_1, .int .i64 a0_2, .int .i64 a0_3, .int .i64 a0_4, .int .i64 a0_5, .int .i64 a0_6, .int .i64 a0_7, .int .i64 a0_8, .int .i64 a0_9, .int .i64 a0_10] 64 (0, 0)) (by (with_reducible repeat (first | refine blk_drewN ?_ _ | refine blk_drew ?_ | refine blk_alloc ?_ _)); exact BK216.out) hb); have n2_ := Aside0.mk (below_step (by repeat (first | (with_reducible first | exact HB.out | apply below_alloc | apply pw_below_drewN | apply below_drew1 | refine below_set ?_ GE216.out) | exact HB.out)) hb); clear BK216; clear HB; have HO219 := n0_; have BK216 := n1_; have HB := n2_; clear n0_ n1_ n2_; clear hb ho5; obtain ⟨Ao6, co6, eo6⟩ := Kd.R_slice HO219.out; subst eo6))
  go_loopg [3, 28] k (fun kq v3 v28 w' => ∃ (x3_1 : ByteArray) (x28_1 : Int), v3 = .string x3_1 ∧ v28 = .int .i64 x28_1 ∧ Aside0 (storagebarterref15_Bytes.l0 kq x3_1 y217 (y217.length : Int) x28_1 = some r) ∧ Aside0 (kq ≤ k) ∧ Aside0 (Kd.R (Kd.int .i64) 3 w' w.heap.size (fun _ => True) (.slice Ao6 y217.length co6) y217) ∧ Aside0 (w'.heap[gb216]? = some (.cells #[.int .i64 a0_0, .int .i64 a0_1, .int .i64 a0_2, .int .i64 a0_3, .int .i64 a0_4, .int .i64 a0_5, .int .i64 a0_6, .int .i64 a0_7, .int .i64 a0_8, .int .i64 a0_9, .int .i64 a0_10] 64 (0, 0))) ∧ Aside0 (Below w.heap.size w w'))
  case atStart => exact ⟨((⟨#[]⟩ : ByteArray)), (0), (by first | rfl | (simp; done) | (simp [*]; done)), (by first | rfl | (simp; done) | (simp [*]; done)), H', ⟨Nat.le_refl _⟩, ⟨by (with_reducible repeat (first | apply Kd.R_alloc | apply Kd.R_drewN | apply Kd.R_drew)); exact HO219.out⟩, ⟨by (with_reducible repeat (first | refine blk_drewN ?_ _ | refine blk_drew ?_ | refine blk_alloc ?_ _)); exact BK216.out⟩, ⟨by repeat (first | (with_reducible first | exact HB.out | apply below_alloc | apply pw_below_drewN | apply below_drew1 | refine below_set ?_ GE216.out) | exact HB.out)⟩⟩
  case round =>
    clear H'
    try clear p2
    try clear c6
    try clear hcz3_0
    try clear hcz3_1
    try clear hcz3_10
    try clear hcz3_2
    try clear hcz3_3
    try clear hcz3_4
    try clear hcz3_5
    try clear hcz3_6
    try clear hcz3_7
    try clear hcz3_8
    try clear hcz3_9
    try clear hfz3_0
    try clear hfz3_1
    try clear hfz3_10
    try clear hfz3_2
    try clear hfz3_3
    try clear hfz3_4
    try clear hfz3_5
    try clear hfz3_6
    try clear hfz3_7
    try clear hfz3_8
    try clear hfz3_9
    obtain ⟨x3_1, x28_1, rfl, rfl, HA, HK1, HO_26, BK216, HB⟩ := hrel
    cases gk with
    | zero => exact absurd HA.out (by simp [storagebarterref15_Bytes.l0])
    | succ k1 =>
      have H := HA.out
      clear HA
      simp only [storagebarterref15_Bytes.l0] at H
      by_cases c7 : x28_1 < (y217.length : Int)
      · rw [if_pos c7] at H
        have c7b0 : decide (x28_1 < (y217.length : Int)) = true := decide_eq_true c7
        clear c7
        by_cases c8 : 0 ≤ x28_1
        · rw [if_pos c8] at H
          have c8b0 : decide (0 ≤ x28_1) = true := decide_eq_true c8
          clear c8
          by_cases c9 : x28_1 < (y217.length : Int)
          · rw [if_pos c9] at H
            have c9b0 : decide (x28_1 < (y217.length : Int)) = true := decide_eq_true c9
            clear c9
            replace H := Option.bind_eq_some_iff.mp H
            obtain ⟨t221, A100, H⟩ := H
            replace H : (storagebarterref15_Bytes.l0 k1 t221 y217 (y217.length : Int) (wrap64 (x28_1 + 1))) = some r := H
            have A10 := Aside0.mk A100
            clear A100
            have H' := Aside0.mk H
            clear H
            have p220 : 0 ≤ (x28_1 : Int) := of_decide_eq_true (by first | (with_reducible assumption) | assumption)
            have q220 : x28_1 < (y217.length : Int) := of_decide_eq_true (by first | (with_reducible assumption) | assumption)
            obtain ⟨ad220, e220, hx220_0⟩ := Kd.at_int (Kd.R_reads' HO_26.out).2.2 x28_1 p220 q220
            cases e220
            replace p220 := eq_true p220
            replace q220 := eq_true q220
            go_wp2_with (first | ((with_reducible refine gate_callee (f := 25) rfl ?_); refine goesL_ (some 34) rfl rfl Try.func25 (by kernel_rfl) rfl #[.string x3_1, .int .i64 (rd y217 x28_1)] rfl (by (try simp only [List.map_toArray, List.map_cons, List.map_nil]); first | done | rfl | (simp only [List.length_drop, List.length_take]; rfl)) ?_; (with_reducible refine (storagebarterref01_PutInt.calls k1 x3_1 (rd y217 x28_1) t221 _ A10.out).mono ?_); rintro e w11 ⟨rfl, hb⟩; refine ⟨_, rfl, ?_⟩; have n0_ := Aside0.mk (Kd.R_below (by (with_reducible repeat (first | apply Kd.R_alloc | apply Kd.R_drewN | apply Kd.R_drew)); exact HO_26.out) hb); have n1_ := Aside0.mk (blk_below (g := gb216) (o := .cells #[.int .i64 a0_0, .int .i64 a0_1, .int .i64 a0_2, .int .i64 a0_3, .int .i64 a0_4, .int .i64 a0_5, .int .i64 a0_6, .int .i64 a0_7, .int .i64 a0_8, .int .i64 a0_9, .int .i64 a0_10] 64 (0, 0)) (by (with_reducible repeat (first | refine blk_drewN ?_ _ | refine blk_drew ?_ | refine blk_alloc ?_ _)); exact BK216.out) hb); have n2_ := Aside0.mk (below_step (by repeat (first | (with_reducible first | exact HB.out | apply below_alloc | apply pw_below_drewN | apply below_drew1 | refine below_set ?_ GE216.out) | exact HB.out)) hb); clear HO_26; clear BK216; clear HB; have HO_26 := n0_; have BK216 := n1_; have HB := n2_; clear n0_ n1_ n2_; (try clear hb); (try clear hb2); (try clear hk); (try clear hi)))
            go_roundg k1
            case measure => have := HK1.out; omega
            case rel => exact ⟨(t221), (wrap64 (x28_1 + 1)), (by first | rfl | (simp; done) | (simp [*]; done)), (by first | rfl | (simp; done) | (simp [*]; done)), H', ⟨by have := HK1.out; omega⟩, ⟨by (with_reducible repeat (first | apply Kd.R_alloc | apply Kd.R_drewN | apply Kd.R_drew)); exact HO_26.out⟩, ⟨by (with_reducible repeat (first | refine blk_drewN ?_ _ | refine blk_drew ?_ | refine blk_alloc ?_ _)); exact BK216.out⟩, ⟨by repeat (first | (with_reducible first | exact HB.out | apply below_alloc | apply pw_below_drewN | apply below_drew1 | refine below_set ?_ GE216.out) | exact HB.out)⟩⟩
          · rw [if_neg c9] at H
            exact absurd H (by simp)
        · rw [if_neg c8] at H
          exact absurd H (by simp)
      · rw [if_neg c7] at H
        have c7b0 : decide (x28_1 < (y217.length : Int)) = false := decide_eq_false c7
        clear c7
        obtain rfl := Option.some.inj H
        go_wp2
        go_ret
        exact ⟨by first | rfl | (simp [errW_none, errW_some] <;> rfl) | (simp [*, errW_none, errW_some] <;> rfl), by repeat (first | (with_reducible first | exact HB.out | apply below_alloc | apply pw_below_drewN | apply below_drew1 | refine below_set ?_ GE216.out) | exact HB.out)⟩
end Go.Proofs.Ytcjdnahgffkbdaa.Q

namespace Go.Proofs.Ytcjdnahgffkbdaa.Q
open Go.RowKit Go.Proofs.YtcjdnahgffkbdaaW.PrintWords Go.Proofs.YtcjdnahgffkbdaaW.PrintLast Go.Proofs.YtcjdnahgffkbdaaW.PrintMore Go.Proofs.Ytcjdnahgffkbdaa.Gput Go.Proofs.Ytcjdnahgffkbdaa.Gputl
attribute [local go_sem] max2_int min2_int max_two min_two max_three min_three max_four min_four   -- for this text's walks alone
set_option linter.unusedVariables false
set_option linter.unusedSimpArgs false
def storagebarterref15_in.f (a0 : Int) (a1 : Int) (a2 : Int) : Option (Bool) := if a0 ≥ a1 then (some (decide (a0 ≤ a2))) else (some false)
set_option maxHeartbeats 8000000 in
set_option maxRecDepth 100000 in
theorem storagebarterref15_in.calls (a0 : Int) (a1 : Int) (a2 : Int) (r : Bool) (w : World) (h : storagebarterref15_in.f a0 a1 a2 = some r) :
    Calls Try.prog 66 #[.int .i64 a0, .int .i64 a1, .int .i64 a2] w fun e w' => e = .returned (.bool r) ∧ Drawn0 w w' := by
  have H : (if a0 ≥ a1 then (some (decide (a0 ≤ a2))) else (some false)) = some r := h
  clear h
  by_cases c4 : a0 ≥ a1
  · rw [if_pos c4] at H
    have c4b0 : decide (a1 ≤ a0) = true := decide_eq_true c4
    clear c4
    obtain rfl := Option.some.inj H
    go_enter Try.func66, Try.ntmps66
    go_wp2
    go_ret
    exact ⟨by first | rfl | (simp; done) | (simp [*]; done), by repeat (first | exact Drawn0.refl _ | apply Drawn0.step)⟩
  · rw [if_neg c4] at H
    have c4b0 : decide (a1 ≤ a0) = false := decide_eq_false c4
    clear c4
    obtain rfl := Option.some.inj H
    go_enter Try.func66, Try.ntmps66
    go_wp2
    go_ret
    exact ⟨by first | rfl | (simp; done) | (simp [*]; done), by repeat (first | exact Drawn0.refl _ | apply Drawn0.step)⟩
end Go.Proofs.Ytcjdnahgffkbdaa.Q

namespace Go.Proofs.Ytcjdnahgffkbdaa.Q
open Go.RowKit Go.Proofs.YtcjdnahgffkbdaaW.PrintWords Go.Proofs.YtcjdnahgffkbdaaW.PrintLast Go.Proofs.YtcjdnahgffkbdaaW.PrintMore Go.Proofs.Ytcjdnahgffkbdaa.Gput Go.Proofs.Ytcjdnahgffkbdaa.Gputl
attribute [local go_sem] max2_int min2_int max_two min_two max_three min_three max_four min_four   -- for this text's walks alone
set_option linter.unusedVariables false
set_option linter.unusedSimpArgs false
def storagebarterref15_lock.f (a0 : Int) : Option (Bool) := if a0 ≥ 1 then (if (Int.tmod a0 3) = 1 then (some (decide ((wrap64 (Int.tdiv a0 3)) < 4294967294))) else (some false)) else (some false)
set_option maxHeartbeats 8000000 in
set_option maxRecDepth 100000 in
theorem storagebarterref15_lock.calls (a0 : Int) (r : Bool) (w : World) (h : storagebarterref15_lock.f a0 = some r) :
    Calls Try.prog 73 #[.int .i64 a0] w fun e w' => e = .returned (.bool r) ∧ Drawn0 w w' := by
  have H : (if a0 ≥ 1 then (if (Int.tmod a0 3) = 1 then (some (decide ((wrap64 (Int.tdiv a0 3)) < 4294967294))) else (some false)) else (some false)) = some r := h
  clear h
  by_cases c2 : a0 ≥ 1
  · rw [if_pos c2] at H
    have c2b0 : decide (1 ≤ a0) = true := decide_eq_true c2
    clear c2
    by_cases c3 : (Int.tmod a0 3) = 1
    · rw [if_pos c3] at H
      have c3b0 : ((Int.tmod a0 3) == 1) = true := beq_iff_eq.mpr c3
      have c3b1 : ((Int.tmod a0 3) != 1) = false := bne_eq_false_iff_eq.mpr c3
      clear c3
      obtain rfl := Option.some.inj H
      go_enter Try.func73, Try.ntmps73
      go_wp2
      go_ret
      exact ⟨by first | rfl | (simp; done) | (simp [*]; done), by repeat (first | exact Drawn0.refl _ | apply Drawn0.step)⟩
    · rw [if_neg c3] at H
      have c3b0 : ((Int.tmod a0 3) == 1) = false := beq_eq_false_iff_ne.mpr c3
      have c3b1 : ((Int.tmod a0 3) != 1) = true := bne_iff_ne.mpr c3
      obtain rfl := Option.some.inj H
      go_enter Try.func73, Try.ntmps73
      go_wp2
      go_ret
      exact ⟨by first | rfl | (simp; done) | (simp [*]; done), by repeat (first | exact Drawn0.refl _ | apply Drawn0.step)⟩
  · rw [if_neg c2] at H
    have c2b0 : decide (1 ≤ a0) = false := decide_eq_false c2
    clear c2
    obtain rfl := Option.some.inj H
    go_enter Try.func73, Try.ntmps73
    go_wp2
    go_ret
    exact ⟨by first | rfl | (simp; done) | (simp [*]; done), by repeat (first | exact Drawn0.refl _ | apply Drawn0.step)⟩
end Go.Proofs.Ytcjdnahgffkbdaa.Q

namespace Go.Proofs.Ytcjdnahgffkbdaa.Q
open Go.RowKit Go.Proofs.YtcjdnahgffkbdaaW.PrintWords Go.Proofs.YtcjdnahgffkbdaaW.PrintLast Go.Proofs.YtcjdnahgffkbdaaW.PrintMore Go.Proofs.Ytcjdnahgffkbdaa.Gput Go.Proofs.Ytcjdnahgffkbdaa.Gputl
attribute [local go_sem] max2_int min2_int max_two min_two max_three min_three max_four min_four   -- for this text's walks alone
set_option linter.unusedVariables false
set_option linter.unusedSimpArgs false
mutual
def storagebarterref15_parts.j0 : Nat → Bool → Bool → Int → Int → Int → Int → Int → Int → Int → Int → Int → Int → Int → Option (Bool)
  | 0, _, _, _, _, _, _, _, _, _, _, _, _, _ => none
  | k + 1, x3, x4, x226000, x226001, x226002, x226003, x226004, x226005, x226006, x226007, x226008, x226009, x226010 => (storagebarterref15_in.f x226009 (wrap64 (x226004 + 1)) (wrap64 (x226004 + 65536))).bind fun t229 => (if t229 = true then (storagebarterref15_parts.j1 k x3 x4 (decide (x226009 ≤ 1048576)) x226000 x226001 x226002 x226003 x226004 x226005 x226006 x226007 x226008 x226009 x226010) else (storagebarterref15_parts.j1 k x3 x4 false x226000 x226001 x226002 x226003 x226004 x226005 x226006 x226007 x226008 x226009 x226010))
def storagebarterref15_parts.j1 : Nat → Bool → Bool → Bool → Int → Int → Int → Int → Int → Int → Int → Int → Int → Int → Int → Option (Bool)
  | 0, _, _, _, _, _, _, _, _, _, _, _, _, _, _ => none
  | k + 1, x3, x4, x5, x226000, x226001, x226002, x226003, x226004, x226005, x226006, x226007, x226008, x226009, x226010 => if x226007 = 0 then (storagebarterref15_parts.j2 k x3 x4 x5 (x226008 == 0) x226000 x226001 x226002 x226003 x226004 x226005 x226006 x226007 x226008 x226009 x226010) else (storagebarterref15_parts.j2 k x3 x4 x5 false x226000 x226001 x226002 x226003 x226004 x226005 x226006 x226007 x226008 x226009 x226010)
def storagebarterref15_parts.j2 : Nat → Bool → Bool → Bool → Bool → Int → Int → Int → Int → Int → Int → Int → Int → Int → Int → Int → Option (Bool)
  | 0, _, _, _, _, _, _, _, _, _, _, _, _, _, _, _ => none
  | k + 1, x3, x4, x5, x6, x226000, x226001, x226002, x226003, x226004, x226005, x226006, x226007, x226008, x226009, x226010 => if x226005 = 1 then (if x3 = true then (if x4 = true then (some x5) else (some false)) else (some false)) else (if x226005 = 2 then (if x3 = true then (if x6 = true then (some x5) else (some false)) else (some false)) else (if x226005 = 3 then (storagebarterref15_parts.j3 k x3 x4 x6 x226005 (x226005 == 3) x226000 x226001 x226002 x226003 x226004 x226005 x226006 x226007 x226008 x226009 x226010) else (storagebarterref15_parts.j3 k x3 x4 x6 x226005 (x226005 == 5) x226000 x226001 x226002 x226003 x226004 x226005 x226006 x226007 x226008 x226009 x226010)))
def storagebarterref15_parts.j3 : Nat → Bool → Bool → Bool → Int → Bool → Int → Int → Int → Int → Int → Int → Int → Int → Int → Int → Int → Option (Bool)
  | 0, _, _, _, _, _, _, _, _, _, _, _, _, _, _, _, _ => none
  | k + 1, x3, x4, x6, x41, x60, x226000, x226001, x226002, x226003, x226004, x226005, x226006, x226007, x226008, x226009, x226010 => if x60 = true then (if x3 = true then (if x6 = true then (some (x226009 == 0)) else (some false)) else (some false)) else (if x41 = 4 then (if x3 = true then (if x4 = true then (some (x226009 == 0)) else (some false)) else (some false)) else (if x41 = 6 then ((storagebarterref15_in.f x226006 0 2147483646).bind fun t230 => (if t230 = true then ((storagebarterref15_in.f x226007 0 2147483646).bind fun t231 => (if t231 = true then ((storagebarterref15_in.f x226008 0 256).bind fun t232 => (if t232 = true then (some (x226009 == 0)) else (some false))) else (some false))) else (some false))) else (if x41 = 7 then ((storagebarterref15_in.f x226006 0 2147483646).bind fun t233 => (if t233 = true then (if x4 = true then ((storagebarterref15_lock.f x226009).bind fun t234 => (some t234)) else (some false)) else (some false))) else (if x41 = 8 then ((storagebarterref15_in.f x226006 0 2147483646).bind fun t235 => (if t235 = true then ((storagebarterref15_in.f x226007 0 4294967293).bind fun t236 => (if t236 = true then (if x226008 = 0 then (some (x226009 == 0)) else (some false)) else (some false))) else (some false))) else (some false)))))
end
def storagebarterref15_parts.f (k : Nat) (a0_0 : Int) (a0_1 : Int) (a0_2 : Int) (a0_3 : Int) (a0_4 : Int) (a0_5 : Int) (a0_6 : Int) (a0_7 : Int) (a0_8 : Int) (a0_9 : Int) (a0_10 : Int) : Option (Bool) := (storagebarterref15_in.f a0_6 0 63).bind fun t226 => ((storagebarterref15_in.f a0_7 0 2147483646).bind fun t227 => (if t227 = true then ((storagebarterref15_in.f a0_8 1 1024).bind fun t228 => (storagebarterref15_parts.j0 k t226 t228 a0_0 a0_1 a0_2 a0_3 a0_4 a0_5 a0_6 a0_7 a0_8 a0_9 a0_10)) else (storagebarterref15_parts.j0 k t226 false a0_0 a0_1 a0_2 a0_3 a0_4 a0_5 a0_6 a0_7 a0_8 a0_9 a0_10)))
theorem storagebarterref15_parts.mono_l : ∀ k, (∀ y0 y1 y2 y3 y4 y5 y6 y7 y8 y9 y10 y11 y12, LeO (storagebarterref15_parts.j0 k y0 y1 y2 y3 y4 y5 y6 y7 y8 y9 y10 y11 y12) (storagebarterref15_parts.j0 (k + 1) y0 y1 y2 y3 y4 y5 y6 y7 y8 y9 y10 y11 y12)) ∧ (∀ y0 y1 y2 y3 y4 y5 y6 y7 y8 y9 y10 y11 y12 y13, LeO (storagebarterref15_parts.j1 k y0 y1 y2 y3 y4 y5 y6 y7 y8 y9 y10 y11 y12 y13) (storagebarterref15_parts.j1 (k + 1) y0 y1 y2 y3 y4 y5 y6 y7 y8 y9 y10 y11 y12 y13)) ∧ (∀ y0 y1 y2 y3 y4 y5 y6 y7 y8 y9 y10 y11 y12 y13 y14, LeO (storagebarterref15_parts.j2 k y0 y1 y2 y3 y4 y5 y6 y7 y8 y9 y10 y11 y12 y13 y14) (storagebarterref15_parts.j2 (k + 1) y0 y1 y2 y3 y4 y5 y6 y7 y8 y9 y10 y11 y12 y13 y14)) ∧ (∀ y0 y1 y2 y3 y4 y5 y6 y7 y8 y9 y10 y11 y12 y13 y14 y15, LeO (storagebarterref15_parts.j3 k y0 y1 y2 y3 y4 y5 y6 y7 y8 y9 y10 y11 y12 y13 y14 y15) (storagebarterref15_parts.j3 (k + 1) y0 y1 y2 y3 y4 y5 y6 y7 y8 y9 y10 y11 y12 y13 y14 y15))
  | 0 => ⟨fun _ _ _ _ _ _ _ _ _ _ _ _ _ r h => by simp [storagebarterref15_parts.j0] at h, fun _ _ _ _ _ _ _ _ _ _ _ _ _ _ r h => by simp [storagebarterref15_parts.j1] at h, fun _ _ _ _ _ _ _ _ _ _ _ _ _ _ _ r h => by simp [storagebarterref15_parts.j2] at h, fun _ _ _ _ _ _ _ _ _ _ _ _ _ _ _ _ r h => by simp [storagebarterref15_parts.j3] at h⟩
  | k + 1 => by
    obtain ⟨ih0, ih1, ih2, ih3⟩ := storagebarterref15_parts.mono_l k
    refine ⟨?_, ?_, ?_, ?_⟩
    · intro y0 y1 y2 y3 y4 y5 y6 y7 y8 y9 y10 y11 y12
      unfold storagebarterref15_parts.j0
      repeat' first
      | (with_reducible exact ih0 _ _ _ _ _ _ _ _ _ _ _ _ _)
      | (with_reducible exact ih1 _ _ _ _ _ _ _ _ _ _ _ _ _ _)
      | (with_reducible exact ih2 _ _ _ _ _ _ _ _ _ _ _ _ _ _ _)
      | (with_reducible exact ih3 _ _ _ _ _ _ _ _ _ _ _ _ _ _ _ _)
      | (with_reducible exact LeO.refl _)
      | (with_reducible exact LeO.none _)
      | (with_reducible refine LeO.ite ?_ ?_)
      | (with_reducible refine LeO.bind ?_ (fun _ => ?_))
      | exact ih0 _ _ _ _ _ _ _ _ _ _ _ _ _
      | exact ih1 _ _ _ _ _ _ _ _ _ _ _ _ _ _
      | exact ih2 _ _ _ _ _ _ _ _ _ _ _ _ _ _ _
      | exact ih3 _ _ _ _ _ _ _ _ _ _ _ _ _ _ _ _
      | exact LeO.none _
      | refine LeO.ite ?_ ?_
      | refine LeO.bind ?_ (fun _ => ?_)
    · intro y0 y1 y2 y3 y4 y5 y6 y7 y8 y9 y10 y11 y12 y13
      unfold storagebarterref15_parts.j1
      repeat' first
      | (with_reducible exact ih0 _ _ _ _ _ _ _ _ _ _ _ _ _)
      | (with_reducible exact ih1 _ _ _ _ _ _ _ _ _ _ _ _ _ _)
      | (with_reducible exact ih2 _ _ _ _ _ _ _ _ _ _ _ _ _ _ _)
      | (with_reducible exact ih3 _ _ _ _ _ _ _ _ _ _ _ _ _ _ _ _)
      | (with_reducible exact LeO.refl _)
      | (with_reducible exact LeO.none _)
      | (with_reducible refine LeO.ite ?_ ?_)
      | (with_reducible refine LeO.bind ?_ (fun _ => ?_))
      | exact ih0 _ _ _ _ _ _ _ _ _ _ _ _ _
      | exact ih1 _ _ _ _ _ _ _ _ _ _ _ _ _ _
      | exact ih2 _ _ _ _ _ _ _ _ _ _ _ _ _ _ _
      | exact ih3 _ _ _ _ _ _ _ _ _ _ _ _ _ _ _ _
      | exact LeO.none _
      | refine LeO.ite ?_ ?_
      | refine LeO.bind ?_ (fun _ => ?_)
    · intro y0 y1 y2 y3 y4 y5 y6 y7 y8 y9 y10 y11 y12 y13 y14
      unfold storagebarterref15_parts.j2
      repeat' first
      | (with_reducible exact ih0 _ _ _ _ _ _ _ _ _ _ _ _ _)
      | (with_reducible exact ih1 _ _ _ _ _ _ _ _ _ _ _ _ _ _)
      | (with_reducible exact ih2 _ _ _ _ _ _ _ _ _ _ _ _ _ _ _)
      | (with_reducible exact ih3 _ _ _ _ _ _ _ _ _ _ _ _ _ _ _ _)
      | (with_reducible exact LeO.refl _)
      | (with_reducible exact LeO.none _)
      | (with_reducible refine LeO.ite ?_ ?_)
      | (with_reducible refine LeO.bind ?_ (fun _ => ?_))
      | exact ih0 _ _ _ _ _ _ _ _ _ _ _ _ _
      | exact ih1 _ _ _ _ _ _ _ _ _ _ _ _ _ _
      | exact ih2 _ _ _ _ _ _ _ _ _ _ _ _ _ _ _
      | exact ih3 _ _ _ _ _ _ _ _ _ _ _ _ _ _ _ _
      | exact LeO.none _
      | refine LeO.ite ?_ ?_
      | refine LeO.bind ?_ (fun _ => ?_)
    · intro y0 y1 y2 y3 y4 y5 y6 y7 y8 y9 y10 y11 y12 y13 y14 y15
      unfold storagebarterref15_parts.j3
      repeat' first
      | (with_reducible exact ih0 _ _ _ _ _ _ _ _ _ _ _ _ _)
      | (with_reducible exact ih1 _ _ _ _ _ _ _ _ _ _ _ _ _ _)
      | (with_reducible exact ih2 _ _ _ _ _ _ _ _ _ _ _ _ _ _ _)
      | (with_reducible exact ih3 _ _ _ _ _ _ _ _ _ _ _ _ _ _ _ _)
      | (with_reducible exact LeO.refl _)
      | (with_reducible exact LeO.none _)
      | (with_reducible refine LeO.ite ?_ ?_)
      | (with_reducible refine LeO.bind ?_ (fun _ => ?_))
      | exact ih0 _ _ _ _ _ _ _ _ _ _ _ _ _
      | exact ih1 _ _ _ _ _ _ _ _ _ _ _ _ _ _
      | exact ih2 _ _ _ _ _ _ _ _ _ _ _ _ _ _ _
      | exact ih3 _ _ _ _ _ _ _ _ _ _ _ _ _ _ _ _
      | exact LeO.none _
      | refine LeO.ite ?_ ?_
      | refine LeO.bind ?_ (fun _ => ?_)
theorem storagebarterref15_parts.mono : ∀ a0 a1 a2 a3 a4 a5 a6 a7 a8 a9 a10 k, LeO (storagebarterref15_parts.f k a0 a1 a2 a3 a4 a5 a6 a7 a8 a9 a10) (storagebarterref15_parts.f (k + 1) a0 a1 a2 a3 a4 a5 a6 a7 a8 a9 a10) := by
  intro a0 a1 a2 a3 a4 a5 a6 a7 a8 a9 a10 k
  obtain ⟨ih0, ih1, ih2, ih3⟩ := storagebarterref15_parts.mono_l k
  unfold storagebarterref15_parts.f
  repeat' first
      | (with_reducible exact ih0 _ _ _ _ _ _ _ _ _ _ _ _ _)
      | (with_reducible exact ih1 _ _ _ _ _ _ _ _ _ _ _ _ _ _)
      | (with_reducible exact ih2 _ _ _ _ _ _ _ _ _ _ _ _ _ _ _)
      | (with_reducible exact ih3 _ _ _ _ _ _ _ _ _ _ _ _ _ _ _ _)
      | (with_reducible exact LeO.refl _)
      | (with_reducible exact LeO.none _)
      | (with_reducible refine LeO.ite ?_ ?_)
      | (with_reducible refine LeO.bind ?_ (fun _ => ?_))
      | exact ih0 _ _ _ _ _ _ _ _ _ _ _ _ _
      | exact ih1 _ _ _ _ _ _ _ _ _ _ _ _ _ _
      | exact ih2 _ _ _ _ _ _ _ _ _ _ _ _ _ _ _
      | exact ih3 _ _ _ _ _ _ _ _ _ _ _ _ _ _ _ _
      | exact LeO.none _
      | refine LeO.ite ?_ ?_
      | refine LeO.bind ?_ (fun _ => ?_)
set_option maxHeartbeats 8000000 in
set_option maxRecDepth 100000 in
theorem storagebarterref15_parts.calls (k : Nat) (a0_0 : Int) (a0_1 : Int) (a0_2 : Int) (a0_3 : Int) (a0_4 : Int) (a0_5 : Int) (a0_6 : Int) (a0_7 : Int) (a0_8 : Int) (a0_9 : Int) (a0_10 : Int) (r : Bool) (w : World) (h : storagebarterref15_parts.f k a0_0 a0_1 a0_2 a0_3 a0_4 a0_5 a0_6 a0_7 a0_8 a0_9 a0_10 = some r) :
    Calls Try.prog 72 #[.agg #[.int .i64 a0_0, .int .i64 a0_1, .int .i64 a0_2, .int .i64 a0_3, .int .i64 a0_4, .int .i64 a0_5, .int .i64 a0_6, .int .i64 a0_7, .int .i64 a0_8, .int .i64 a0_9, .int .i64 a0_10]] w fun e w' => e = .returned (.bool r) ∧ Below w.heap.size w w' := by
  have hu64 := Try.underlying64
  have HB := Aside0.mk (Below.refl w.heap.size w)
  have H : ((storagebarterref15_in.f a0_6 0 63).bind fun t226 => ((storagebarterref15_in.f a0_7 0 2147483646).bind fun t227 => (if t227 = true then ((storagebarterref15_in.f a0_8 1 1024).bind fun t228 => (storagebarterref15_parts.j0 k t226 t228 a0_0 a0_1 a0_2 a0_3 a0_4 a0_5 a0_6 a0_7 a0_8 a0_9 a0_10)) else (storagebarterref15_parts.j0 k t226 false a0_0 a0_1 a0_2 a0_3 a0_4 a0_5 a0_6 a0_7 a0_8 a0_9 a0_10)))) = some r := h
  clear h
  replace H := Option.bind_eq_some_iff.mp H
  obtain ⟨t226, A20, H⟩ := H
  try dsimp only at H
  have A2 := Aside0.mk A20
  clear A20
  have HC3 := Aside0.mk H
  clear H
  go_enter Try.func72, Try.ntmps72
  go_upto_region 2 with (first | ((with_reducible refine gate_dst (N := 1) rfl ?_); refine box_event ?hg (N := 1) ?hd (cs := #[.int .i64 a0_0, .int .i64 a0_1, .int .i64 a0_2, .int .i64 a0_3, .int .i64 a0_4, .int .i64 a0_5, .int .i64 a0_6, .int .i64 a0_7, .int .i64 a0_8, .int .i64 a0_9, .int .i64 a0_10]) (t := 64) ?hr ?_; (case hd => rfl); (case hg => rfl); (case hr => first | (go_simp; done) | (go_simp; rfl)); intro gb225 hg w4 hbox hb; have n0_ := Aside0.mk (below_step (by repeat (first | (with_reducible first | exact HB.out | apply below_alloc | apply pw_below_drewN | apply below_drew1) | exact HB.out)) hb); have n1_ := Aside0.mk (hbox); have n2_ := Aside0.mk ((by rw [hg]; exact (below_size (by repeat (first | (with_reducible first | exact HB.out | apply below_alloc | apply pw_below_drewN | apply below_drew1) | exact HB.out))) : w.heap.size ≤ gb225)); have n3_ := Aside0.mk ((by rw [hg]; exact (below_size (by repeat (first | (with_reducible first | exact HB.out | apply below_alloc | apply pw_below_drewN | apply below_drew1) | exact HB.out))) : w.heap.size ≤ gb225)); clear HB; have HB := n0_; have BK225 := n1_; have GW225 := n2_; have GE225 := n3_; clear n0_ n1_ n2_ n3_; clear hb hbox hg; have hcz5_0 : w4.cell? ⟨gb225, 0, none⟩ = some (.int .i64 a0_0) := (blk_cell BK225.out 0).trans rfl; have hcz5_1 : w4.cell? ⟨gb225, 1, none⟩ = some (.int .i64 a0_1) := (blk_cell BK225.out 1).trans rfl; have hcz5_2 : w4.cell? ⟨gb225, 2, none⟩ = some (.int .i64 a0_2) := (blk_cell BK225.out 2).trans rfl; have hcz5_3 : w4.cell? ⟨gb225, 3, none⟩ = some (.int .i64 a0_3) := (blk_cell BK225.out 3).trans rfl; have hcz5_4 : w4.cell? ⟨gb225, 4, none⟩ = some (.int .i64 a0_4) := (blk_cell BK225.out 4).trans rfl; have hcz5_5 : w4.cell? ⟨gb225, 5, none⟩ = some (.int .i64 a0_5) := (blk_cell BK225.out 5).trans rfl; have hcz5_6 : w4.cell? ⟨gb225, 6, none⟩ = some (.int .i64 a0_6) := (blk_cell BK225.out 6).trans rfl; have hcz5_7 : w4.cell? ⟨gb225, 7, none⟩ = some (.int .i64 a0_7) := (blk_cell BK225.out 7).trans rfl; have hcz5_8 : w4.cell? ⟨gb225, 8, none⟩ = some (.int .i64 a0_8) := (blk_cell BK225.out 8).trans rfl; have hcz5_9 : w4.cell? ⟨gb225, 9, none⟩ = some (.int .i64 a0_9) := (blk_cell BK225.out 9).trans rfl; have hcz5_10 : w4.cell? ⟨gb225, 10, none⟩ = some (.int .i64 a0_10) := (blk_cell BK225.out 10).trans rfl; have hfz5_0 := blk_frozen BK225.out 0; have hfz5_1 := blk_frozen BK225.out 1; have hfz5_2 := blk_frozen BK225.out 2; have hfz5_3 := blk_frozen BK225.out 3; have hfz5_4 := blk_frozen BK225.out 4; have hfz5_5 := blk_frozen BK225.out 5; have hfz5_6 := blk_frozen BK225.out 6; have hfz5_7 := blk_frozen BK225.out 7; have hfz5_8 := blk_frozen BK225.out 8; have hfz5_9 := blk_frozen BK225.out 9; have hfz5_10 := blk_frozen BK225.out 10) | ((with_reducible refine gate_callee (f := 66) rfl ?_); refine goesL_ (some 9) rfl rfl Try.func66 (by kernel_rfl) rfl #[.int .i64 a0_6, .int .i64 0, .int .i64 63] rfl (by (try simp only [List.map_toArray, List.map_cons, List.map_nil]); first | done | rfl | (simp only [List.length_drop, List.length_take]; rfl)) ?_; (with_reducible refine (storagebarterref15_in.calls a0_6 0 63 t226 _ A2.out).mono ?_); rintro e w' ⟨rfl, ⟨nd, rfl⟩⟩; refine ⟨_, rfl, ?_⟩))
  (try simp only [Act.put, List.setIfInBounds_toArray, List.set_cons_zero, List.set_cons_succ])
  go_cut [4] (fun v4 wc => ∃ (kq : Nat) (x4_2 : Bool), v4 = .bool x4_2 ∧ Aside0 (storagebarterref15_parts.j0 kq t226 x4_2 a0_0 a0_1 a0_2 a0_3 a0_4 a0_5 a0_6 a0_7 a0_8 a0_9 a0_10 = some r) ∧ Aside0 (kq ≤ k) ∧ Aside0 (wc.heap[gb225]? = some (.cells #[.int .i64 a0_0, .int .i64 a0_1, .int .i64 a0_2, .int .i64 a0_3, .int .i64 a0_4, .int .i64 a0_5, .int .i64 a0_6, .int .i64 a0_7, .int .i64 a0_8, .int .i64 a0_9, .int .i64 a0_10] 64 (0, 0))) ∧ Aside0 (Below w.heap.size w wc))
  case first =>
    have H := HC3.out
    clear HC3
    replace H := Option.bind_eq_some_iff.mp H
    obtain ⟨t227, A60, H⟩ := H
    try dsimp only at H
    have A6 := Aside0.mk A60
    clear A60
    by_cases c7 : t227 = true
    focus
      subst c7
      rw [if_pos rfl] at H
      replace H := Option.bind_eq_some_iff.mp H
      obtain ⟨t228, A80, H⟩ := H
      try dsimp only at H
      have A8 := Aside0.mk A80
      clear A80
      have H' := Aside0.mk H
      clear H
      have hcz9_0 : w4.cell? ⟨gb225, 0, none⟩ = some (.int .i64 a0_0) := (blk_cell BK225.out 0).trans rfl
      have hcz9_1 : w4.cell? ⟨gb225, 1, none⟩ = some (.int .i64 a0_1) := (blk_cell BK225.out 1).trans rfl
      have hcz9_2 : w4.cell? ⟨gb225, 2, none⟩ = some (.int .i64 a0_2) := (blk_cell BK225.out 2).trans rfl
      have hcz9_3 : w4.cell? ⟨gb225, 3, none⟩ = some (.int .i64 a0_3) := (blk_cell BK225.out 3).trans rfl
      have hcz9_4 : w4.cell? ⟨gb225, 4, none⟩ = some (.int .i64 a0_4) := (blk_cell BK225.out 4).trans rfl
      have hcz9_5 : w4.cell? ⟨gb225, 5, none⟩ = some (.int .i64 a0_5) := (blk_cell BK225.out 5).trans rfl
      have hcz9_6 : w4.cell? ⟨gb225, 6, none⟩ = some (.int .i64 a0_6) := (blk_cell BK225.out 6).trans rfl
      have hcz9_7 : w4.cell? ⟨gb225, 7, none⟩ = some (.int .i64 a0_7) := (blk_cell BK225.out 7).trans rfl
      have hcz9_8 : w4.cell? ⟨gb225, 8, none⟩ = some (.int .i64 a0_8) := (blk_cell BK225.out 8).trans rfl
      have hcz9_9 : w4.cell? ⟨gb225, 9, none⟩ = some (.int .i64 a0_9) := (blk_cell BK225.out 9).trans rfl
      have hcz9_10 : w4.cell? ⟨gb225, 10, none⟩ = some (.int .i64 a0_10) := (blk_cell BK225.out 10).trans rfl
      have hfz9_0 := blk_frozen BK225.out 0
      have hfz9_1 := blk_frozen BK225.out 1
      have hfz9_2 := blk_frozen BK225.out 2
      have hfz9_3 := blk_frozen BK225.out 3
      have hfz9_4 := blk_frozen BK225.out 4
      have hfz9_5 := blk_frozen BK225.out 5
      have hfz9_6 := blk_frozen BK225.out 6
      have hfz9_7 := blk_frozen BK225.out 7
      have hfz9_8 := blk_frozen BK225.out 8
      have hfz9_9 := blk_frozen BK225.out 9
      have hfz9_10 := blk_frozen BK225.out 10
    rotate_left 1
    focus
      replace c7 := Bool.eq_false_iff.mpr c7
      subst c7
      rw [if_neg (show ¬ (false = true) by decide)] at H
      have H' := Aside0.mk H
      clear H
      have hcz10_0 : w4.cell? ⟨gb225, 0, none⟩ = some (.int .i64 a0_0) := (blk_cell BK225.out 0).trans rfl
      have hcz10_1 : w4.cell? ⟨gb225, 1, none⟩ = some (.int .i64 a0_1) := (blk_cell BK225.out 1).trans rfl
      have hcz10_2 : w4.cell? ⟨gb225, 2, none⟩ = some (.int .i64 a0_2) := (blk_cell BK225.out 2).trans rfl
      have hcz10_3 : w4.cell? ⟨gb225, 3, none⟩ = some (.int .i64 a0_3) := (blk_cell BK225.out 3).trans rfl
      have hcz10_4 : w4.cell? ⟨gb225, 4, none⟩ = some (.int .i64 a0_4) := (blk_cell BK225.out 4).trans rfl
      have hcz10_5 : w4.cell? ⟨gb225, 5, none⟩ = some (.int .i64 a0_5) := (blk_cell BK225.out 5).trans rfl
      have hcz10_6 : w4.cell? ⟨gb225, 6, none⟩ = some (.int .i64 a0_6) := (blk_cell BK225.out 6).trans rfl
      have hcz10_7 : w4.cell? ⟨gb225, 7, none⟩ = some (.int .i64 a0_7) := (blk_cell BK225.out 7).trans rfl
      have hcz10_8 : w4.cell? ⟨gb225, 8, none⟩ = some (.int .i64 a0_8) := (blk_cell BK225.out 8).trans rfl
      have hcz10_9 : w4.cell? ⟨gb225, 9, none⟩ = some (.int .i64 a0_9) := (blk_cell BK225.out 9).trans rfl
      have hcz10_10 : w4.cell? ⟨gb225, 10, none⟩ = some (.int .i64 a0_10) := (blk_cell BK225.out 10).trans rfl
      have hfz10_0 := blk_frozen BK225.out 0
      have hfz10_1 := blk_frozen BK225.out 1
      have hfz10_2 := blk_frozen BK225.out 2
      have hfz10_3 := blk_frozen BK225.out 3
      have hfz10_4 := blk_frozen BK225.out 4
      have hfz10_5 := blk_frozen BK225.out 5
      have hfz10_6 := blk_frozen BK225.out 6
      have hfz10_7 := blk_frozen BK225.out 7
      have hfz10_8 := blk_frozen BK225.out 8
      have hfz10_9 := blk_frozen BK225.out 9
      have hfz10_10 := blk_frozen BK225.out 10
    rotate_left 1
    all_goals (go_wp2_with (first | ((with_reducible refine gate_callee (f := 66) rfl ?_); refine goesL_ (some 12) rfl rfl Try.func66 (by kernel_rfl) rfl #[.int .i64 a0_7, .int .i64 0, .int .i64 2147483646] rfl (by (try simp only [List.map_toArray, List.map_cons, List.map_nil]); first | done | rfl | (simp only [List.length_drop, List.length_take]; rfl)) ?_; (with_reducible refine (storagebarterref15_in.calls a0_7 0 2147483646 true _ A6.out).mono ?_); rintro e w' ⟨rfl, ⟨nd, rfl⟩⟩; refine ⟨_, rfl, ?_⟩) | (go_at_call 66; (with_reducible refine (storagebarterref15_in.calls a0_8 1 1024 t228 _ A8.out).mono ?_); rintro e w' ⟨rfl, ⟨nd, rfl⟩⟩) | ((with_reducible refine gate_callee (f := 66) rfl ?_); refine goesL_ (some 12) rfl rfl Try.func66 (by kernel_rfl) rfl #[.int .i64 a0_7, .int .i64 0, .int .i64 2147483646] rfl (by (try simp only [List.map_toArray, List.map_cons, List.map_nil]); first | done | rfl | (simp only [List.length_drop, List.length_take]; rfl)) ?_; (with_reducible refine (storagebarterref15_in.calls a0_7 0 2147483646 false _ A6.out).mono ?_); rintro e w' ⟨rfl, ⟨nd, rfl⟩⟩; refine ⟨_, rfl, ?_⟩)))
    · go_meet
      case rel => exact ⟨_, (t228), (by first | rfl | (simp; done) | (simp [*]; done)), H', ⟨by first | omega | exact Nat.le_refl _⟩, ⟨by (with_reducible repeat (first | refine blk_drewN ?_ _ | refine blk_drew ?_ | refine blk_alloc ?_ _)); exact BK225.out⟩, ⟨by repeat (first | (with_reducible first | exact HB.out | apply below_alloc | apply pw_below_drewN | apply below_drew1 | refine below_set ?_ GE225.out) | exact HB.out)⟩⟩
    · go_meet
      case rel => exact ⟨_, (false), (by first | rfl | (simp; done) | (simp [*]; done)), H', ⟨by first | omega | exact Nat.le_refl _⟩, ⟨by (with_reducible repeat (first | refine blk_drewN ?_ _ | refine blk_drew ?_ | refine blk_alloc ?_ _)); exact BK225.out⟩, ⟨by repeat (first | (with_reducible first | exact HB.out | apply below_alloc | apply pw_below_drewN | apply below_drew1 | refine below_set ?_ GE225.out) | exact HB.out)⟩⟩
  case rest =>
    clear HC3
    try clear p2
    try clear c6
    try clear c7
    try clear hcz10_0
    try clear hcz10_1
    try clear hcz10_10
    try clear hcz10_2
    try clear hcz10_3
    try clear hcz10_4
    try clear hcz10_5
    try clear hcz10_6
    try clear hcz10_7
    try clear hcz10_8
    try clear hcz10_9
    try clear hcz5_0
    try clear hcz5_1
    try clear hcz5_10
    try clear hcz5_2
    try clear hcz5_3
    try clear hcz5_4
    try clear hcz5_5
    try clear hcz5_6
    try clear hcz5_7
    try clear hcz5_8
    try clear hcz5_9
    try clear hcz9_0
    try clear hcz9_1
    try clear hcz9_10
    try clear hcz9_2
    try clear hcz9_3
    try clear hcz9_4
    try clear hcz9_5
    try clear hcz9_6
    try clear hcz9_7
    try clear hcz9_8
    try clear hcz9_9
    try clear hfz10_0
    try clear hfz10_1
    try clear hfz10_10
    try clear hfz10_2
    try clear hfz10_3
    try clear hfz10_4
    try clear hfz10_5
    try clear hfz10_6
    try clear hfz10_7
    try clear hfz10_8
    try clear hfz10_9
    try clear hfz5_0
    try clear hfz5_1
    try clear hfz5_10
    try clear hfz5_2
    try clear hfz5_3
    try clear hfz5_4
    try clear hfz5_5
    try clear hfz5_6
    try clear hfz5_7
    try clear hfz5_8
    try clear hfz5_9
    try clear hfz9_0
    try clear hfz9_1
    try clear hfz9_10
    try clear hfz9_2
    try clear hfz9_3
    try clear hfz9_4
    try clear hfz9_5
    try clear hfz9_6
    try clear hfz9_7
    try clear hfz9_8
    try clear hfz9_9
    obtain ⟨kq, x4_2, rfl, HA, HJ2, BK225, HB⟩ := hcut
    cases kq with
    | zero => exact absurd HA.out (by simp [storagebarterref15_parts.j0])
    | succ kj2 =>
      have H := HA.out
      clear HA
      simp only [storagebarterref15_parts.j0] at H
      have HC11 := Aside0.mk H
      clear H
      go_upto_region 3 with (fail)
      go_cut [5] (fun v5 wc => ∃ (kq : Nat) (x5_10 : Bool), v5 = .bool x5_10 ∧ Aside0 (storagebarterref15_parts.j1 kq t226 x4_2 x5_10 a0_0 a0_1 a0_2 a0_3 a0_4 a0_5 a0_6 a0_7 a0_8 a0_9 a0_10 = some r) ∧ Aside0 (kq ≤ kj2) ∧ Aside0 (wc.heap[gb225]? = some (.cells #[.int .i64 a0_0, .int .i64 a0_1, .int .i64 a0_2, .int .i64 a0_3, .int .i64 a0_4, .int .i64 a0_5, .int .i64 a0_6, .int .i64 a0_7, .int .i64 a0_8, .int .i64 a0_9, .int .i64 a0_10] 64 (0, 0))) ∧ Aside0 (Below w.heap.size w wc))
      case first =>
        have H := HC11.out
        clear HC11
        replace H := Option.bind_eq_some_iff.mp H
        obtain ⟨t229, A120, H⟩ := H
        try dsimp only at H
        have A12 := Aside0.mk A120
        clear A120
        by_cases c13 : t229 = true
        · subst c13
          rw [if_pos rfl] at H
          have H' := Aside0.mk H
          clear H
          have hcz14_0 : wc.cell? ⟨gb225, 0, none⟩ = some (.int .i64 a0_0) := (blk_cell BK225.out 0).trans rfl
          have hcz14_1 : wc.cell? ⟨gb225, 1, none⟩ = some (.int .i64 a0_1) := (blk_cell BK225.out 1).trans rfl
          have hcz14_2 : wc.cell? ⟨gb225, 2, none⟩ = some (.int .i64 a0_2) := (blk_cell BK225.out 2).trans rfl
          have hcz14_3 : wc.cell? ⟨gb225, 3, none⟩ = some (.int .i64 a0_3) := (blk_cell BK225.out 3).trans rfl
          have hcz14_4 : wc.cell? ⟨gb225, 4, none⟩ = some (.int .i64 a0_4) := (blk_cell BK225.out 4).trans rfl
          have hcz14_5 : wc.cell? ⟨gb225, 5, none⟩ = some (.int .i64 a0_5) := (blk_cell BK225.out 5).trans rfl
          have hcz14_6 : wc.cell? ⟨gb225, 6, none⟩ = some (.int .i64 a0_6) := (blk_cell BK225.out 6).trans rfl
          have hcz14_7 : wc.cell? ⟨gb225, 7, none⟩ = some (.int .i64 a0_7) := (blk_cell BK225.out 7).trans rfl
          have hcz14_8 : wc.cell? ⟨gb225, 8, none⟩ = some (.int .i64 a0_8) := (blk_cell BK225.out 8).trans rfl
          have hcz14_9 : wc.cell? ⟨gb225, 9, none⟩ = some (.int .i64 a0_9) := (blk_cell BK225.out 9).trans rfl
          have hcz14_10 : wc.cell? ⟨gb225, 10, none⟩ = some (.int .i64 a0_10) := (blk_cell BK225.out 10).trans rfl
          have hfz14_0 := blk_frozen BK225.out 0
          have hfz14_1 := blk_frozen BK225.out 1
          have hfz14_2 := blk_frozen BK225.out 2
          have hfz14_3 := blk_frozen BK225.out 3
          have hfz14_4 := blk_frozen BK225.out 4
          have hfz14_5 := blk_frozen BK225.out 5
          have hfz14_6 := blk_frozen BK225.out 6
          have hfz14_7 := blk_frozen BK225.out 7
          have hfz14_8 := blk_frozen BK225.out 8
          have hfz14_9 := blk_frozen BK225.out 9
          have hfz14_10 := blk_frozen BK225.out 10
          go_wp2_with (first | ((with_reducible refine gate_callee (f := 66) rfl ?_); refine goesL_ (some 26) rfl rfl Try.func66 (by kernel_rfl) rfl #[.int .i64 a0_9, .int .i64 (wrap64 (a0_4 + 1)), .int .i64 (wrap64 (a0_4 + 65536))] rfl (by (try simp only [List.map_toArray, List.map_cons, List.map_nil]); first | done | rfl | (simp only [List.length_drop, List.length_take]; rfl)) ?_; (with_reducible refine (storagebarterref15_in.calls a0_9 (wrap64 (a0_4 + 1)) (wrap64 (a0_4 + 65536)) true _ A12.out).mono ?_); rintro e w' ⟨rfl, ⟨nd, rfl⟩⟩; refine ⟨_, rfl, ?_⟩))
          go_meet
          case rel => exact ⟨_, (decide (a0_9 ≤ 1048576)), (by first | rfl | (simp; done) | (simp [*]; done)), H', ⟨by have := HJ2.out; first | omega | exact Nat.le_refl _⟩, ⟨by (with_reducible repeat (first | refine blk_drewN ?_ _ | refine blk_drew ?_ | refine blk_alloc ?_ _)); exact BK225.out⟩, ⟨by repeat (first | (with_reducible first | exact HB.out | apply below_alloc | apply pw_below_drewN | apply below_drew1 | refine below_set ?_ GE225.out) | exact HB.out)⟩⟩
        · replace c13 := Bool.eq_false_iff.mpr c13
          subst c13
          rw [if_neg (show ¬ (false = true) by decide)] at H
          have H' := Aside0.mk H
          clear H
          have hcz15_0 : wc.cell? ⟨gb225, 0, none⟩ = some (.int .i64 a0_0) := (blk_cell BK225.out 0).trans rfl
          have hcz15_1 : wc.cell? ⟨gb225, 1, none⟩ = some (.int .i64 a0_1) := (blk_cell BK225.out 1).trans rfl
          have hcz15_2 : wc.cell? ⟨gb225, 2, none⟩ = some (.int .i64 a0_2) := (blk_cell BK225.out 2).trans rfl
          have hcz15_3 : wc.cell? ⟨gb225, 3, none⟩ = some (.int .i64 a0_3) := (blk_cell BK225.out 3).trans rfl
          have hcz15_4 : wc.cell? ⟨gb225, 4, none⟩ = some (.int .i64 a0_4) := (blk_cell BK225.out 4).trans rfl
          have hcz15_5 : wc.cell? ⟨gb225, 5, none⟩ = some (.int .i64 a0_5) := (blk_cell BK225.out 5).trans rfl
          have hcz15_6 : wc.cell? ⟨gb225, 6, none⟩ = some (.int .i64 a0_6) := (blk_cell BK225.out 6).trans rfl
          have hcz15_7 : wc.cell? ⟨gb225, 7, none⟩ = some (.int .i64 a0_7) := (blk_cell BK225.out 7).trans rfl
          have hcz15_8 : wc.cell? ⟨gb225, 8, none⟩ = some (.int .i64 a0_8) := (blk_cell BK225.out 8).trans rfl
          have hcz15_9 : wc.cell? ⟨gb225, 9, none⟩ = some (.int .i64 a0_9) := (blk_cell BK225.out 9).trans rfl
          have hcz15_10 : wc.cell? ⟨gb225, 10, none⟩ = some (.int .i64 a0_10) := (blk_cell BK225.out 10).trans rfl
          have hfz15_0 := blk_frozen BK225.out 0
          have hfz15_1 := blk_frozen BK225.out 1
          have hfz15_2 := blk_frozen BK225.out 2
          have hfz15_3 := blk_frozen BK225.out 3
          have hfz15_4 := blk_frozen BK225.out 4
          have hfz15_5 := blk_frozen BK225.out 5
          have hfz15_6 := blk_frozen BK225.out 6
          have hfz15_7 := blk_frozen BK225.out 7
          have hfz15_8 := blk_frozen BK225.out 8
          have hfz15_9 := blk_frozen BK225.out 9
          have hfz15_10 := blk_frozen BK225.out 10
          go_wp2_with (first | ((with_reducible refine gate_callee (f := 66) rfl ?_); refine goesL_ (some 26) rfl rfl Try.func66 (by kernel_rfl) rfl #[.int .i64 a0_9, .int .i64 (wrap64 (a0_4 + 1)), .int .i64 (wrap64 (a0_4 + 65536))] rfl (by (try simp only [List.map_toArray, List.map_cons, List.map_nil]); first | done | rfl | (simp only [List.length_drop, List.length_take]; rfl)) ?_; (with_reducible refine (storagebarterref15_in.calls a0_9 (wrap64 (a0_4 + 1)) (wrap64 (a0_4 + 65536)) false _ A12.out).mono ?_); rintro e w' ⟨rfl, ⟨nd, rfl⟩⟩; refine ⟨_, rfl, ?_⟩))
          go_meet
          case rel => exact ⟨_, (false), (by first | rfl | (simp; done) | (simp [*]; done)), H', ⟨by have := HJ2.out; first | omega | exact Nat.le_refl _⟩, ⟨by (with_reducible repeat (first | refine blk_drewN ?_ _ | refine blk_drew ?_ | refine blk_alloc ?_ _)); exact BK225.out⟩, ⟨by repeat (first | (with_reducible first | exact HB.out | apply below_alloc | apply pw_below_drewN | apply below_drew1 | refine below_set ?_ GE225.out) | exact HB.out)⟩⟩
      case rest =>
        clear HC11
        try clear c1
        try clear p2
        try clear c6
        try clear p6
        try clear c7
        try clear c13
        try clear hcz10_0
        try clear hcz10_1
        try clear hcz10_10
        try clear hcz10_2
        try clear hcz10_3
        try clear hcz10_4
        try clear hcz10_5
        try clear hcz10_6
        try clear hcz10_7
        try clear hcz10_8
        try clear hcz10_9
        try clear hcz14_0
        try clear hcz14_1
        try clear hcz14_10
        try clear hcz14_2
        try clear hcz14_3
        try clear hcz14_4
        try clear hcz14_5
        try clear hcz14_6
        try clear hcz14_7
        try clear hcz14_8
        try clear hcz14_9
        try clear hcz15_0
        try clear hcz15_1
        try clear hcz15_10
        try clear hcz15_2
        try clear hcz15_3
        try clear hcz15_4
        try clear hcz15_5
        try clear hcz15_6
        try clear hcz15_7
        try clear hcz15_8
        try clear hcz15_9
        try clear hcz5_0
        try clear hcz5_1
        try clear hcz5_10
        try clear hcz5_2
        try clear hcz5_3
        try clear hcz5_4
        try clear hcz5_5
        try clear hcz5_6
        try clear hcz5_7
        try clear hcz5_8
        try clear hcz5_9
        try clear hcz9_0
        try clear hcz9_1
        try clear hcz9_10
        try clear hcz9_2
        try clear hcz9_3
        try clear hcz9_4
        try clear hcz9_5
        try clear hcz9_6
        try clear hcz9_7
        try clear hcz9_8
        try clear hcz9_9
        try clear hfz10_0
        try clear hfz10_1
        try clear hfz10_10
        try clear hfz10_2
        try clear hfz10_3
        try clear hfz10_4
        try clear hfz10_5
        try clear hfz10_6
        try clear hfz10_7
        try clear hfz10_8
        try clear hfz10_9
        try clear hfz14_0
        try clear hfz14_1
        try clear hfz14_10
        try clear hfz14_2
        try clear hfz14_3
        try clear hfz14_4
        try clear hfz14_5
        try clear hfz14_6
        try clear hfz14_7
        try clear hfz14_8
        try clear hfz14_9
        try clear hfz15_0
        try clear hfz15_1
        try clear hfz15_10
        try clear hfz15_2
        try clear hfz15_3
        try clear hfz15_4
        try clear hfz15_5
        try clear hfz15_6
        try clear hfz15_7
        try clear hfz15_8
        try clear hfz15_9
        try clear hfz5_0
        try clear hfz5_1
        try clear hfz5_10
        try clear hfz5_2
        try clear hfz5_3
        try clear hfz5_4
        try clear hfz5_5
        try clear hfz5_6
        try clear hfz5_7
        try clear hfz5_8
        try clear hfz5_9
        try clear hfz9_0
        try clear hfz9_1
        try clear hfz9_10
        try clear hfz9_2
        try clear hfz9_3
        try clear hfz9_4
        try clear hfz9_5
        try clear hfz9_6
        try clear hfz9_7
        try clear hfz9_8
        try clear hfz9_9
        try clear p2
        obtain ⟨kq, x5_10, rfl, HA, HJ10, BK225, HB⟩ := hcut
        cases kq with
        | zero => exact absurd HA.out (by simp [storagebarterref15_parts.j1])
        | succ kj10 =>
          have H := HA.out
          clear HA
          simp only [storagebarterref15_parts.j1] at H
          have HC16 := Aside0.mk H
          clear H
          go_upto_region 4 with (fail)
          go_cut [6] (fun v6 wc => ∃ (kq : Nat) (x6_15 : Bool), v6 = .bool x6_15 ∧ Aside0 (storagebarterref15_parts.j2 kq t226 x4_2 x5_10 x6_15 a0_0 a0_1 a0_2 a0_3 a0_4 a0_5 a0_6 a0_7 a0_8 a0_9 a0_10 = some r) ∧ Aside0 (kq ≤ kj10) ∧ Aside0 (wc.heap[gb225]? = some (.cells #[.int .i64 a0_0, .int .i64 a0_1, .int .i64 a0_2, .int .i64 a0_3, .int .i64 a0_4, .int .i64 a0_5, .int .i64 a0_6, .int .i64 a0_7, .int .i64 a0_8, .int .i64 a0_9, .int .i64 a0_10] 64 (0, 0))) ∧ Aside0 (Below w.heap.size w wc))
          case first =>
            have H := HC16.out
            clear HC16
            by_cases c17 : a0_7 = 0
            · rw [if_pos c17] at H
              have c17b0 : (a0_7 == 0) = true := beq_iff_eq.mpr c17
              have c17b1 : (a0_7 != 0) = false := bne_eq_false_iff_eq.mpr c17
              clear c17
              (first | rw [c17b0] | (simp only [i64_w, i32_w]; rw [c17b0]) | skip)
              have H' := Aside0.mk H
              clear H
              have hcz18_0 : wc.cell? ⟨gb225, 0, none⟩ = some (.int .i64 a0_0) := (blk_cell BK225.out 0).trans rfl
              have hcz18_1 : wc.cell? ⟨gb225, 1, none⟩ = some (.int .i64 a0_1) := (blk_cell BK225.out 1).trans rfl
              have hcz18_2 : wc.cell? ⟨gb225, 2, none⟩ = some (.int .i64 a0_2) := (blk_cell BK225.out 2).trans rfl
              have hcz18_3 : wc.cell? ⟨gb225, 3, none⟩ = some (.int .i64 a0_3) := (blk_cell BK225.out 3).trans rfl
              have hcz18_4 : wc.cell? ⟨gb225, 4, none⟩ = some (.int .i64 a0_4) := (blk_cell BK225.out 4).trans rfl
              have hcz18_5 : wc.cell? ⟨gb225, 5, none⟩ = some (.int .i64 a0_5) := (blk_cell BK225.out 5).trans rfl
              have hcz18_6 : wc.cell? ⟨gb225, 6, none⟩ = some (.int .i64 a0_6) := (blk_cell BK225.out 6).trans rfl
              have hcz18_7 : wc.cell? ⟨gb225, 7, none⟩ = some (.int .i64 a0_7) := (blk_cell BK225.out 7).trans rfl
              have hcz18_8 : wc.cell? ⟨gb225, 8, none⟩ = some (.int .i64 a0_8) := (blk_cell BK225.out 8).trans rfl
              have hcz18_9 : wc.cell? ⟨gb225, 9, none⟩ = some (.int .i64 a0_9) := (blk_cell BK225.out 9).trans rfl
              have hcz18_10 : wc.cell? ⟨gb225, 10, none⟩ = some (.int .i64 a0_10) := (blk_cell BK225.out 10).trans rfl
              have hfz18_0 := blk_frozen BK225.out 0
              have hfz18_1 := blk_frozen BK225.out 1
              have hfz18_2 := blk_frozen BK225.out 2
              have hfz18_3 := blk_frozen BK225.out 3
              have hfz18_4 := blk_frozen BK225.out 4
              have hfz18_5 := blk_frozen BK225.out 5
              have hfz18_6 := blk_frozen BK225.out 6
              have hfz18_7 := blk_frozen BK225.out 7
              have hfz18_8 := blk_frozen BK225.out 8
              have hfz18_9 := blk_frozen BK225.out 9
              have hfz18_10 := blk_frozen BK225.out 10
              go_wp2
              go_meet
              case rel => exact ⟨_, ((a0_8 == 0)), (by first | rfl | (simp; done) | (simp [*]; done)), H', ⟨by have := HJ2.out; have := HJ10.out; first | omega | exact Nat.le_refl _⟩, ⟨by (with_reducible repeat (first | refine blk_drewN ?_ _ | refine blk_drew ?_ | refine blk_alloc ?_ _)); exact BK225.out⟩, ⟨by repeat (first | (with_reducible first | exact HB.out | apply below_alloc | apply pw_below_drewN | apply below_drew1 | refine below_set ?_ GE225.out) | exact HB.out)⟩⟩
            · rw [if_neg c17] at H
              have c17b0 : (a0_7 == 0) = false := beq_eq_false_iff_ne.mpr c17
              have c17b1 : (a0_7 != 0) = true := bne_iff_ne.mpr c17
              (first | rw [c17b0] | (simp only [i64_w, i32_w]; rw [c17b0]) | skip)
              have H' := Aside0.mk H
              clear H
              have hcz19_0 : wc.cell? ⟨gb225, 0, none⟩ = some (.int .i64 a0_0) := (blk_cell BK225.out 0).trans rfl
              have hcz19_1 : wc.cell? ⟨gb225, 1, none⟩ = some (.int .i64 a0_1) := (blk_cell BK225.out 1).trans rfl
              have hcz19_2 : wc.cell? ⟨gb225, 2, none⟩ = some (.int .i64 a0_2) := (blk_cell BK225.out 2).trans rfl
              have hcz19_3 : wc.cell? ⟨gb225, 3, none⟩ = some (.int .i64 a0_3) := (blk_cell BK225.out 3).trans rfl
              have hcz19_4 : wc.cell? ⟨gb225, 4, none⟩ = some (.int .i64 a0_4) := (blk_cell BK225.out 4).trans rfl
              have hcz19_5 : wc.cell? ⟨gb225, 5, none⟩ = some (.int .i64 a0_5) := (blk_cell BK225.out 5).trans rfl
              have hcz19_6 : wc.cell? ⟨gb225, 6, none⟩ = some (.int .i64 a0_6) := (blk_cell BK225.out 6).trans rfl
              have hcz19_7 : wc.cell? ⟨gb225, 7, none⟩ = some (.int .i64 a0_7) := (blk_cell BK225.out 7).trans rfl
              have hcz19_8 : wc.cell? ⟨gb225, 8, none⟩ = some (.int .i64 a0_8) := (blk_cell BK225.out 8).trans rfl
              have hcz19_9 : wc.cell? ⟨gb225, 9, none⟩ = some (.int .i64 a0_9) := (blk_cell BK225.out 9).trans rfl
              have hcz19_10 : wc.cell? ⟨gb225, 10, none⟩ = some (.int .i64 a0_10) := (blk_cell BK225.out 10).trans rfl
              have hfz19_0 := blk_frozen BK225.out 0
              have hfz19_1 := blk_frozen BK225.out 1
              have hfz19_2 := blk_frozen BK225.out 2
              have hfz19_3 := blk_frozen BK225.out 3
              have hfz19_4 := blk_frozen BK225.out 4
              have hfz19_5 := blk_frozen BK225.out 5
              have hfz19_6 := blk_frozen BK225.out 6
              have hfz19_7 := blk_frozen BK225.out 7
              have hfz19_8 := blk_frozen BK225.out 8
              have hfz19_9 := blk_frozen BK225.out 9
              have hfz19_10 := blk_frozen BK225.out 10
              go_wp2
              go_meet
              case rel => exact ⟨_, (false), (by first | rfl | (simp; done) | (simp [*]; done)), H', ⟨by have := HJ2.out; have := HJ10.out; first | omega | exact Nat.le_refl _⟩, ⟨by (with_reducible repeat (first | refine blk_drewN ?_ _ | refine blk_drew ?_ | refine blk_alloc ?_ _)); exact BK225.out⟩, ⟨by repeat (first | (with_reducible first | exact HB.out | apply below_alloc | apply pw_below_drewN | apply below_drew1 | refine below_set ?_ GE225.out) | exact HB.out)⟩⟩
          case rest =>
            clear HC16
            try clear c1
            try clear p2
            try clear c6
            try clear p6
            try clear c7
            try clear c13
            try clear c17
            try clear c17b0
            try clear c17b1
            try clear hcz10_0
            try clear hcz10_1
            try clear hcz10_10
            try clear hcz10_2
            try clear hcz10_3
            try clear hcz10_4
            try clear hcz10_5
            try clear hcz10_6
            try clear hcz10_7
            try clear hcz10_8
            try clear hcz10_9
            try clear hcz14_0
            try clear hcz14_1
            try clear hcz14_10
            try clear hcz14_2
            try clear hcz14_3
            try clear hcz14_4
            try clear hcz14_5
            try clear hcz14_6
            try clear hcz14_7
            try clear hcz14_8
            try clear hcz14_9
            try clear hcz15_0
            try clear hcz15_1
            try clear hcz15_10
            try clear hcz15_2
            try clear hcz15_3
            try clear hcz15_4
            try clear hcz15_5
            try clear hcz15_6
            try clear hcz15_7
            try clear hcz15_8
            try clear hcz15_9
            try clear hcz18_0
            try clear hcz18_1
            try clear hcz18_10
            try clear hcz18_2
            try clear hcz18_3
            try clear hcz18_4
            try clear hcz18_5
            try clear hcz18_6
            try clear hcz18_7
            try clear hcz18_8
            try clear hcz18_9
            try clear hcz19_0
            try clear hcz19_1
            try clear hcz19_10
            try clear hcz19_2
            try clear hcz19_3
            try clear hcz19_4
            try clear hcz19_5
            try clear hcz19_6
            try clear hcz19_7
            try clear hcz19_8
            try clear hcz19_9
            try clear hcz5_0
            try clear hcz5_1
            try clear hcz5_10
            try clear hcz5_2
            try clear hcz5_3
            try clear hcz5_4
            try clear hcz5_5
            try clear hcz5_6
            try clear hcz5_7
            try clear hcz5_8
            try clear hcz5_9
            try clear hcz9_0
            try clear hcz9_1
            try clear hcz9_10
            try clear hcz9_2
            try clear hcz9_3
            try clear hcz9_4
            try clear hcz9_5
            try clear hcz9_6
            try clear hcz9_7
            try clear hcz9_8
            try clear hcz9_9
            try clear hfz10_0
            try clear hfz10_1
            try clear hfz10_10
            try clear hfz10_2
            try clear hfz10_3
            try clear hfz10_4
            try clear hfz10_5
            try clear hfz10_6
            try clear hfz10_7
            try clear hfz10_8
            try clear hfz10_9
            try clear hfz14_0
            try clear hfz14_1
            try clear hfz14_10
            try clear hfz14_2
            try clear hfz14_3
            try clear hfz14_4
            try clear hfz14_5
            try clear hfz14_6
            try clear hfz14_7
            try clear hfz14_8
            try clear hfz14_9
            try clear hfz15_0
            try clear hfz15_1
            try clear hfz15_10
            try clear hfz15_2
            try clear hfz15_3
            try clear hfz15_4
            try clear hfz15_5
            try clear hfz15_6
            try clear hfz15_7
            try clear hfz15_8
            try clear hfz15_9
            try clear hfz18_0
            try clear hfz18_1
            try clear hfz18_10
            try clear hfz18_2
            try clear hfz18_3
            try clear hfz18_4
            try clear hfz18_5
            try clear hfz18_6
            try clear hfz18_7
            try clear hfz18_8
            try clear hfz18_9
            try clear hfz19_0
            try clear hfz19_1
            try clear hfz19_10
            try clear hfz19_2
            try clear hfz19_3
            try clear hfz19_4
            try clear hfz19_5
            try clear hfz19_6
            try clear hfz19_7
            try clear hfz19_8
            try clear hfz19_9
            try clear hfz5_0
            try clear hfz5_1
            try clear hfz5_10
            try clear hfz5_2
            try clear hfz5_3
            try clear hfz5_4
            try clear hfz5_5
            try clear hfz5_6
            try clear hfz5_7
            try clear hfz5_8
            try clear hfz5_9
            try clear hfz9_0
            try clear hfz9_1
            try clear hfz9_10
            try clear hfz9_2
            try clear hfz9_3
            try clear hfz9_4
            try clear hfz9_5
            try clear hfz9_6
            try clear hfz9_7
            try clear hfz9_8
            try clear hfz9_9
            try clear p2
            try clear p6
            obtain ⟨kq, x6_15, rfl, HA, HJ15, BK225, HB⟩ := hcut
            cases kq with
            | zero => exact absurd HA.out (by simp [storagebarterref15_parts.j2])
            | succ kj15 =>
              have H := HA.out
              clear HA
              simp only [storagebarterref15_parts.j2] at H
              by_cases c20 : a0_5 = 1
              · rw [if_pos c20] at H
                have c20b0 : (a0_5 == 1) = true := beq_iff_eq.mpr c20
                have c20b1 : (a0_5 != 1) = false := bne_eq_false_iff_eq.mpr c20
                clear c20
                by_cases c21 : t226 = true
                · subst c21
                  rw [if_pos rfl] at H
                  by_cases c22 : x4_2 = true
                  · subst c22
                    rw [if_pos rfl] at H
                    obtain rfl := Option.some.inj H
                    have hcz23_0 : wc.cell? ⟨gb225, 0, none⟩ = some (.int .i64 a0_0) := (blk_cell BK225.out 0).trans rfl
                    have hcz23_1 : wc.cell? ⟨gb225, 1, none⟩ = some (.int .i64 a0_1) := (blk_cell BK225.out 1).trans rfl
                    have hcz23_2 : wc.cell? ⟨gb225, 2, none⟩ = some (.int .i64 a0_2) := (blk_cell BK225.out 2).trans rfl
                    have hcz23_3 : wc.cell? ⟨gb225, 3, none⟩ = some (.int .i64 a0_3) := (blk_cell BK225.out 3).trans rfl
                    have hcz23_4 : wc.cell? ⟨gb225, 4, none⟩ = some (.int .i64 a0_4) := (blk_cell BK225.out 4).trans rfl
                    have hcz23_5 : wc.cell? ⟨gb225, 5, none⟩ = some (.int .i64 a0_5) := (blk_cell BK225.out 5).trans rfl
                    have hcz23_6 : wc.cell? ⟨gb225, 6, none⟩ = some (.int .i64 a0_6) := (blk_cell BK225.out 6).trans rfl
                    have hcz23_7 : wc.cell? ⟨gb225, 7, none⟩ = some (.int .i64 a0_7) := (blk_cell BK225.out 7).trans rfl
                    have hcz23_8 : wc.cell? ⟨gb225, 8, none⟩ = some (.int .i64 a0_8) := (blk_cell BK225.out 8).trans rfl
                    have hcz23_9 : wc.cell? ⟨gb225, 9, none⟩ = some (.int .i64 a0_9) := (blk_cell BK225.out 9).trans rfl
                    have hcz23_10 : wc.cell? ⟨gb225, 10, none⟩ = some (.int .i64 a0_10) := (blk_cell BK225.out 10).trans rfl
                    have hfz23_0 := blk_frozen BK225.out 0
                    have hfz23_1 := blk_frozen BK225.out 1
                    have hfz23_2 := blk_frozen BK225.out 2
                    have hfz23_3 := blk_frozen BK225.out 3
                    have hfz23_4 := blk_frozen BK225.out 4
                    have hfz23_5 := blk_frozen BK225.out 5
                    have hfz23_6 := blk_frozen BK225.out 6
                    have hfz23_7 := blk_frozen BK225.out 7
                    have hfz23_8 := blk_frozen BK225.out 8
                    have hfz23_9 := blk_frozen BK225.out 9
                    have hfz23_10 := blk_frozen BK225.out 10
                    go_wp2
                    go_ret
                    exact ⟨by first | rfl | (simp [errW_none, errW_some] <;> rfl) | (simp [*, errW_none, errW_some] <;> rfl), by repeat (first | (with_reducible first | exact HB.out | apply below_alloc | apply pw_below_drewN | apply below_drew1 | refine below_set ?_ GE225.out) | exact HB.out)⟩
                  · replace c22 := Bool.eq_false_iff.mpr c22
                    subst c22
                    rw [if_neg (show ¬ (false = true) by decide)] at H
                    obtain rfl := Option.some.inj H
                    have hcz24_0 : wc.cell? ⟨gb225, 0, none⟩ = some (.int .i64 a0_0) := (blk_cell BK225.out 0).trans rfl
                    have hcz24_1 : wc.cell? ⟨gb225, 1, none⟩ = some (.int .i64 a0_1) := (blk_cell BK225.out 1).trans rfl
                    have hcz24_2 : wc.cell? ⟨gb225, 2, none⟩ = some (.int .i64 a0_2) := (blk_cell BK225.out 2).trans rfl
                    have hcz24_3 : wc.cell? ⟨gb225, 3, none⟩ = some (.int .i64 a0_3) := (blk_cell BK225.out 3).trans rfl
                    have hcz24_4 : wc.cell? ⟨gb225, 4, none⟩ = some (.int .i64 a0_4) := (blk_cell BK225.out 4).trans rfl
                    have hcz24_5 : wc.cell? ⟨gb225, 5, none⟩ = some (.int .i64 a0_5) := (blk_cell BK225.out 5).trans rfl
                    have hcz24_6 : wc.cell? ⟨gb225, 6, none⟩ = some (.int .i64 a0_6) := (blk_cell BK225.out 6).trans rfl
                    have hcz24_7 : wc.cell? ⟨gb225, 7, none⟩ = some (.int .i64 a0_7) := (blk_cell BK225.out 7).trans rfl
                    have hcz24_8 : wc.cell? ⟨gb225, 8, none⟩ = some (.int .i64 a0_8) := (blk_cell BK225.out 8).trans rfl
                    have hcz24_9 : wc.cell? ⟨gb225, 9, none⟩ = some (.int .i64 a0_9) := (blk_cell BK225.out 9).trans rfl
                    have hcz24_10 : wc.cell? ⟨gb225, 10, none⟩ = some (.int .i64 a0_10) := (blk_cell BK225.out 10).trans rfl
                    have hfz24_0 := blk_frozen BK225.out 0
                    have hfz24_1 := blk_frozen BK225.out 1
                    have hfz24_2 := blk_frozen BK225.out 2
                    have hfz24_3 := blk_frozen BK225.out 3
                    have hfz24_4 := blk_frozen BK225.out 4
                    have hfz24_5 := blk_frozen BK225.out 5
                    have hfz24_6 := blk_frozen BK225.out 6
                    have hfz24_7 := blk_frozen BK225.out 7
                    have hfz24_8 := blk_frozen BK225.out 8
                    have hfz24_9 := blk_frozen BK225.out 9
                    have hfz24_10 := blk_frozen BK225.out 10
                    go_wp2
                    go_ret
                    exact ⟨by first | rfl | (simp [errW_none, errW_some] <;> rfl) | (simp [*, errW_none, errW_some] <;> rfl), by repeat (first | (with_reducible first | exact HB.out | apply below_alloc | apply pw_below_drewN | apply below_drew1 | refine below_set ?_ GE225.out) | exact HB.out)⟩
                · replace c21 := Bool.eq_false_iff.mpr c21
                  subst c21
                  rw [if_neg (show ¬ (false = true) by decide)] at H
                  obtain rfl := Option.some.inj H
                  have hcz25_0 : wc.cell? ⟨gb225, 0, none⟩ = some (.int .i64 a0_0) := (blk_cell BK225.out 0).trans rfl
                  have hcz25_1 : wc.cell? ⟨gb225, 1, none⟩ = some (.int .i64 a0_1) := (blk_cell BK225.out 1).trans rfl
                  have hcz25_2 : wc.cell? ⟨gb225, 2, none⟩ = some (.int .i64 a0_2) := (blk_cell BK225.out 2).trans rfl
                  have hcz25_3 : wc.cell? ⟨gb225, 3, none⟩ = some (.int .i64 a0_3) := (blk_cell BK225.out 3).trans rfl
                  have hcz25_4 : wc.cell? ⟨gb225, 4, none⟩ = some (.int .i64 a0_4) := (blk_cell BK225.out 4).trans rfl
                  have hcz25_5 : wc.cell? ⟨gb225, 5, none⟩ = some (.int .i64 a0_5) := (blk_cell BK225.out 5).trans rfl
                  have hcz25_6 : wc.cell? ⟨gb225, 6, none⟩ = some (.int .i64 a0_6) := (blk_cell BK225.out 6).trans rfl
                  have hcz25_7 : wc.cell? ⟨gb225, 7, none⟩ = some (.int .i64 a0_7) := (blk_cell BK225.out 7).trans rfl
                  have hcz25_8 : wc.cell? ⟨gb225, 8, none⟩ = some (.int .i64 a0_8) := (blk_cell BK225.out 8).trans rfl
                  have hcz25_9 : wc.cell? ⟨gb225, 9, none⟩ = some (.int .i64 a0_9) := (blk_cell BK225.out 9).trans rfl
                  have hcz25_10 : wc.cell? ⟨gb225, 10, none⟩ = some (.int .i64 a0_10) := (blk_cell BK225.out 10).trans rfl
                  have hfz25_0 := blk_frozen BK225.out 0
                  have hfz25_1 := blk_frozen BK225.out 1
                  have hfz25_2 := blk_frozen BK225.out 2
                  have hfz25_3 := blk_frozen BK225.out 3
                  have hfz25_4 := blk_frozen BK225.out 4
                  have hfz25_5 := blk_frozen BK225.out 5
                  have hfz25_6 := blk_frozen BK225.out 6
                  have hfz25_7 := blk_frozen BK225.out 7
                  have hfz25_8 := blk_frozen BK225.out 8
                  have hfz25_9 := blk_frozen BK225.out 9
                  have hfz25_10 := blk_frozen BK225.out 10
                  go_wp2
                  go_ret
                  exact ⟨by first | rfl | (simp [errW_none, errW_some] <;> rfl) | (simp [*, errW_none, errW_some] <;> rfl), by repeat (first | (with_reducible first | exact HB.out | apply below_alloc | apply pw_below_drewN | apply below_drew1 | refine below_set ?_ GE225.out) | exact HB.out)⟩
              · rw [if_neg c20] at H
                have c20b0 : (a0_5 == 1) = false := beq_eq_false_iff_ne.mpr c20
                have c20b1 : (a0_5 != 1) = true := bne_iff_ne.mpr c20
                by_cases c26 : a0_5 = 2
                · rw [if_pos c26] at H
                  have c26b0 : (a0_5 == 2) = true := beq_iff_eq.mpr c26
                  have c26b1 : (a0_5 != 2) = false := bne_eq_false_iff_eq.mpr c26
                  clear c26
                  by_cases c27 : t226 = true
                  · subst c27
                    rw [if_pos rfl] at H
                    by_cases c28 : x6_15 = true
                    · subst c28
                      rw [if_pos rfl] at H
                      obtain rfl := Option.some.inj H
                      have hcz29_0 : wc.cell? ⟨gb225, 0, none⟩ = some (.int .i64 a0_0) := (blk_cell BK225.out 0).trans rfl
                      have hcz29_1 : wc.cell? ⟨gb225, 1, none⟩ = some (.int .i64 a0_1) := (blk_cell BK225.out 1).trans rfl
                      have hcz29_2 : wc.cell? ⟨gb225, 2, none⟩ = some (.int .i64 a0_2) := (blk_cell BK225.out 2).trans rfl
                      have hcz29_3 : wc.cell? ⟨gb225, 3, none⟩ = some (.int .i64 a0_3) := (blk_cell BK225.out 3).trans rfl
                      have hcz29_4 : wc.cell? ⟨gb225, 4, none⟩ = some (.int .i64 a0_4) := (blk_cell BK225.out 4).trans rfl
                      have hcz29_5 : wc.cell? ⟨gb225, 5, none⟩ = some (.int .i64 a0_5) := (blk_cell BK225.out 5).trans rfl
                      have hcz29_6 : wc.cell? ⟨gb225, 6, none⟩ = some (.int .i64 a0_6) := (blk_cell BK225.out 6).trans rfl
                      have hcz29_7 : wc.cell? ⟨gb225, 7, none⟩ = some (.int .i64 a0_7) := (blk_cell BK225.out 7).trans rfl
                      have hcz29_8 : wc.cell? ⟨gb225, 8, none⟩ = some (.int .i64 a0_8) := (blk_cell BK225.out 8).trans rfl
                      have hcz29_9 : wc.cell? ⟨gb225, 9, none⟩ = some (.int .i64 a0_9) := (blk_cell BK225.out 9).trans rfl
                      have hcz29_10 : wc.cell? ⟨gb225, 10, none⟩ = some (.int .i64 a0_10) := (blk_cell BK225.out 10).trans rfl
                      have hfz29_0 := blk_frozen BK225.out 0
                      have hfz29_1 := blk_frozen BK225.out 1
                      have hfz29_2 := blk_frozen BK225.out 2
                      have hfz29_3 := blk_frozen BK225.out 3
                      have hfz29_4 := blk_frozen BK225.out 4
                      have hfz29_5 := blk_frozen BK225.out 5
                      have hfz29_6 := blk_frozen BK225.out 6
                      have hfz29_7 := blk_frozen BK225.out 7
                      have hfz29_8 := blk_frozen BK225.out 8
                      have hfz29_9 := blk_frozen BK225.out 9
                      have hfz29_10 := blk_frozen BK225.out 10
                      go_wp2
                      go_ret
                      exact ⟨by first | rfl | (simp [errW_none, errW_some] <;> rfl) | (simp [*, errW_none, errW_some] <;> rfl), by repeat (first | (with_reducible first | exact HB.out | apply below_alloc | apply pw_below_drewN | apply below_drew1 | refine below_set ?_ GE225.out) | exact HB.out)⟩
                    · replace c28 := Bool.eq_false_iff.mpr c28
                      subst c28
                      rw [if_neg (show ¬ (false = true) by decide)] at H
                      obtain rfl := Option.some.inj H
                      have hcz30_0 : wc.cell? ⟨gb225, 0, none⟩ = some (.int .i64 a0_0) := (blk_cell BK225.out 0).trans rfl
                      have hcz30_1 : wc.cell? ⟨gb225, 1, none⟩ = some (.int .i64 a0_1) := (blk_cell BK225.out 1).trans rfl
                      have hcz30_2 : wc.cell? ⟨gb225, 2, none⟩ = some (.int .i64 a0_2) := (blk_cell BK225.out 2).trans rfl
                      have hcz30_3 : wc.cell? ⟨gb225, 3, none⟩ = some (.int .i64 a0_3) := (blk_cell BK225.out 3).trans rfl
                      have hcz30_4 : wc.cell? ⟨gb225, 4, none⟩ = some (.int .i64 a0_4) := (blk_cell BK225.out 4).trans rfl
                      have hcz30_5 : wc.cell? ⟨gb225, 5, none⟩ = some (.int .i64 a0_5) := (blk_cell BK225.out 5).trans rfl
                      have hcz30_6 : wc.cell? ⟨gb225, 6, none⟩ = some (.int .i64 a0_6) := (blk_cell BK225.out 6).trans rfl
                      have hcz30_7 : wc.cell? ⟨gb225, 7, none⟩ = some (.int .i64 a0_7) := (blk_cell BK225.out 7).trans rfl
                      have hcz30_8 : wc.cell? ⟨gb225, 8, none⟩ = some (.int .i64 a0_8) := (blk_cell BK225.out 8).trans rfl
                      have hcz30_9 : wc.cell? ⟨gb225, 9, none⟩ = some (.int .i64 a0_9) := (blk_cell BK225.out 9).trans rfl
                      have hcz30_10 : wc.cell? ⟨gb225, 10, none⟩ = some (.int .i64 a0_10) := (blk_cell BK225.out 10).trans rfl
                      have hfz30_0 := blk_frozen BK225.out 0
                      have hfz30_1 := blk_frozen BK225.out 1
                      have hfz30_2 := blk_frozen BK225.out 2
                      have hfz30_3 := blk_frozen BK225.out 3
                      have hfz30_4 := blk_frozen BK225.out 4
                      have hfz30_5 := blk_frozen BK225.out 5
                      have hfz30_6 := blk_frozen BK225.out 6
                      have hfz30_7 := blk_frozen BK225.out 7
                      have hfz30_8 := blk_frozen BK225.out 8
                      have hfz30_9 := blk_frozen BK225.out 9
                      have hfz30_10 := blk_frozen BK225.out 10
                      go_wp2
                      go_ret
                      exact ⟨by first | rfl | (simp [errW_none, errW_some] <;> rfl) | (simp [*, errW_none, errW_some] <;> rfl), by repeat (first | (with_reducible first | exact HB.out | apply below_alloc | apply pw_below_drewN | apply below_drew1 | refine below_set ?_ GE225.out) | exact HB.out)⟩
                  · replace c27 := Bool.eq_false_iff.mpr c27
                    subst c27
                    rw [if_neg (show ¬ (false = true) by decide)] at H
                    obtain rfl := Option.some.inj H
                    have hcz31_0 : wc.cell? ⟨gb225, 0, none⟩ = some (.int .i64 a0_0) := (blk_cell BK225.out 0).trans rfl
                    have hcz31_1 : wc.cell? ⟨gb225, 1, none⟩ = some (.int .i64 a0_1) := (blk_cell BK225.out 1).trans rfl
                    have hcz31_2 : wc.cell? ⟨gb225, 2, none⟩ = some (.int .i64 a0_2) := (blk_cell BK225.out 2).trans rfl
                    have hcz31_3 : wc.cell? ⟨gb225, 3, none⟩ = some (.int .i64 a0_3) := (blk_cell BK225.out 3).trans rfl
                    have hcz31_4 : wc.cell? ⟨gb225, 4, none⟩ = some (.int .i64 a0_4) := (blk_cell BK225.out 4).trans rfl
                    have hcz31_5 : wc.cell? ⟨gb225, 5, none⟩ = some (.int .i64 a0_5) := (blk_cell BK225.out 5).trans rfl
                    have hcz31_6 : wc.cell? ⟨gb225, 6, none⟩ = some (.int .i64 a0_6) := (blk_cell BK225.out 6).trans rfl
                    have hcz31_7 : wc.cell? ⟨gb225, 7, none⟩ = some (.int .i64 a0_7) := (blk_cell BK225.out 7).trans rfl
                    have hcz31_8 : wc.cell? ⟨gb225, 8, none⟩ = some (.int .i64 a0_8) := (blk_cell BK225.out 8).trans rfl
                    have hcz31_9 : wc.cell? ⟨gb225, 9, none⟩ = some (.int .i64 a0_9) := (blk_cell BK225.out 9).trans rfl
                    have hcz31_10 : wc.cell? ⟨gb225, 10, none⟩ = some (.int .i64 a0_10) := (blk_cell BK225.out 10).trans rfl
                    have hfz31_0 := blk_frozen BK225.out 0
                    have hfz31_1 := blk_frozen BK225.out 1
                    have hfz31_2 := blk_frozen BK225.out 2
                    have hfz31_3 := blk_frozen BK225.out 3
                    have hfz31_4 := blk_frozen BK225.out 4
                    have hfz31_5 := blk_frozen BK225.out 5
                    have hfz31_6 := blk_frozen BK225.out 6
                    have hfz31_7 := blk_frozen BK225.out 7
                    have hfz31_8 := blk_frozen BK225.out 8
                    have hfz31_9 := blk_frozen BK225.out 9
                    have hfz31_10 := blk_frozen BK225.out 10
                    go_wp2
                    go_ret
                    exact ⟨by first | rfl | (simp [errW_none, errW_some] <;> rfl) | (simp [*, errW_none, errW_some] <;> rfl), by repeat (first | (with_reducible first | exact HB.out | apply below_alloc | apply pw_below_drewN | apply below_drew1 | refine below_set ?_ GE225.out) | exact HB.out)⟩
                · rw [if_neg c26] at H
                  have c26b0 : (a0_5 == 2) = false := beq_eq_false_iff_ne.mpr c26
                  have c26b1 : (a0_5 != 2) = true := bne_iff_ne.mpr c26
                  have HC32 := Aside0.mk H
                  clear H
                  have hcz33_0 : wc.cell? ⟨gb225, 0, none⟩ = some (.int .i64 a0_0) := (blk_cell BK225.out 0).trans rfl
                  have hcz33_1 : wc.cell? ⟨gb225, 1, none⟩ = some (.int .i64 a0_1) := (blk_cell BK225.out 1).trans rfl
                  have hcz33_2 : wc.cell? ⟨gb225, 2, none⟩ = some (.int .i64 a0_2) := (blk_cell BK225.out 2).trans rfl
                  have hcz33_3 : wc.cell? ⟨gb225, 3, none⟩ = some (.int .i64 a0_3) := (blk_cell BK225.out 3).trans rfl
                  have hcz33_4 : wc.cell? ⟨gb225, 4, none⟩ = some (.int .i64 a0_4) := (blk_cell BK225.out 4).trans rfl
                  have hcz33_5 : wc.cell? ⟨gb225, 5, none⟩ = some (.int .i64 a0_5) := (blk_cell BK225.out 5).trans rfl
                  have hcz33_6 : wc.cell? ⟨gb225, 6, none⟩ = some (.int .i64 a0_6) := (blk_cell BK225.out 6).trans rfl
                  have hcz33_7 : wc.cell? ⟨gb225, 7, none⟩ = some (.int .i64 a0_7) := (blk_cell BK225.out 7).trans rfl
                  have hcz33_8 : wc.cell? ⟨gb225, 8, none⟩ = some (.int .i64 a0_8) := (blk_cell BK225.out 8).trans rfl
                  have hcz33_9 : wc.cell? ⟨gb225, 9, none⟩ = some (.int .i64 a0_9) := (blk_cell BK225.out 9).trans rfl
                  have hcz33_10 : wc.cell? ⟨gb225, 10, none⟩ = some (.int .i64 a0_10) := (blk_cell BK225.out 10).trans rfl
                  have hfz33_0 := blk_frozen BK225.out 0
                  have hfz33_1 := blk_frozen BK225.out 1
                  have hfz33_2 := blk_frozen BK225.out 2
                  have hfz33_3 := blk_frozen BK225.out 3
                  have hfz33_4 := blk_frozen BK225.out 4
                  have hfz33_5 := blk_frozen BK225.out 5
                  have hfz33_6 := blk_frozen BK225.out 6
                  have hfz33_7 := blk_frozen BK225.out 7
                  have hfz33_8 := blk_frozen BK225.out 8
                  have hfz33_9 := blk_frozen BK225.out 9
                  have hfz33_10 := blk_frozen BK225.out 10
                  go_upto_if 60 with (fail)
                  go_cut [60] (fun v60 wc => ∃ (kq : Nat) (x60_31 : Bool), v60 = .bool x60_31 ∧ Aside0 (storagebarterref15_parts.j3 kq t226 x4_2 x6_15 a0_5 x60_31 a0_0 a0_1 a0_2 a0_3 a0_4 a0_5 a0_6 a0_7 a0_8 a0_9 a0_10 = some r) ∧ Aside0 (kq ≤ kj15) ∧ Aside0 (wc.heap[gb225]? = some (.cells #[.int .i64 a0_0, .int .i64 a0_1, .int .i64 a0_2, .int .i64 a0_3, .int .i64 a0_4, .int .i64 a0_5, .int .i64 a0_6, .int .i64 a0_7, .int .i64 a0_8, .int .i64 a0_9, .int .i64 a0_10] 64 (0, 0))) ∧ Aside0 (Below w.heap.size w wc))
                  case first =>
                    have H := HC32.out
                    clear HC32
                    by_cases c34 : a0_5 = 3
                    · rw [if_pos c34] at H
                      have c34b0 : (a0_5 == 3) = true := beq_iff_eq.mpr c34
                      have c34b1 : (a0_5 != 3) = false := bne_eq_false_iff_eq.mpr c34
                      clear c34
                      (first | rw [c34b0] | (simp only [i64_w, i32_w]; rw [c34b0]) | skip)
                      have H' := Aside0.mk H
                      clear H
                      go_wp2
                      go_meet
                      case rel => exact ⟨_, ((a0_5 == 3)), (by first | rfl | (simp; done) | (simp [*]; done)), H', ⟨by have := HJ2.out; have := HJ10.out; have := HJ15.out; first | omega | exact Nat.le_refl _⟩, ⟨by (with_reducible repeat (first | refine blk_drewN ?_ _ | refine blk_drew ?_ | refine blk_alloc ?_ _)); exact BK225.out⟩, ⟨by repeat (first | (with_reducible first | exact HB.out | apply below_alloc | apply pw_below_drewN | apply below_drew1 | refine below_set ?_ GE225.out) | exact HB.out)⟩⟩
                    · rw [if_neg c34] at H
                      have c34b0 : (a0_5 == 3) = false := beq_eq_false_iff_ne.mpr c34
                      have c34b1 : (a0_5 != 3) = true := bne_iff_ne.mpr c34
                      (first | rw [c34b0] | (simp only [i64_w, i32_w]; rw [c34b0]) | skip)
                      have H' := Aside0.mk H
                      clear H
                      go_wp2
                      go_meet
                      case rel => exact ⟨_, ((a0_5 == 5)), (by first | rfl | (simp; done) | (simp [*]; done)), H', ⟨by have := HJ2.out; have := HJ10.out; have := HJ15.out; first | omega | exact Nat.le_refl _⟩, ⟨by (with_reducible repeat (first | refine blk_drewN ?_ _ | refine blk_drew ?_ | refine blk_alloc ?_ _)); exact BK225.out⟩, ⟨by repeat (first | (with_reducible first | exact HB.out | apply below_alloc | apply pw_below_drewN | apply below_drew1 | refine below_set ?_ GE225.out) | exact HB.out)⟩⟩
                  case rest =>
                    clear HC32
                    try clear c1
                    try clear c2
                    try clear p2
                    try clear c3
                    try clear c6
                    try clear p6
                    try clear c7
                    try clear c13
                    try clear c17
                    try clear c17b0
                    try clear c17b1
                    try clear c20
                    try clear c20b0
                    try clear c20b1
                    try clear c21
                    try clear c22
                    try clear c26
                    try clear c26b0
                    try clear c26b1
                    try clear c27
                    try clear c28
                    try clear c34
                    try clear c34b0
                    try clear c34b1
                    try clear hcz10_0
                    try clear hcz10_1
                    try clear hcz10_10
                    try clear hcz10_2
                    try clear hcz10_3
                    try clear hcz10_4
                    try clear hcz10_5
                    try clear hcz10_6
                    try clear hcz10_7
                    try clear hcz10_8
                    try clear hcz10_9
                    try clear hcz14_0
                    try clear hcz14_1
                    try clear hcz14_10
                    try clear hcz14_2
                    try clear hcz14_3
                    try clear hcz14_4
                    try clear hcz14_5
                    try clear hcz14_6
                    try clear hcz14_7
                    try clear hcz14_8
                    try clear hcz14_9
                    try clear hcz15_0
                    try clear hcz15_1
                    try clear hcz15_10
                    try clear hcz15_2
                    try clear hcz15_3
                    try clear hcz15_4
                    try clear hcz15_5
                    try clear hcz15_6
                    try clear hcz15_7
                    try clear hcz15_8
                    try clear hcz15_9
                    try clear hcz18_0
                    try clear hcz18_1
                    try clear hcz18_10
                    try clear hcz18_2
                    try clear hcz18_3
                    try clear hcz18_4
                    try clear hcz18_5
                    try clear hcz18_6
                    try clear hcz18_7
                    try clear hcz18_8
                    try clear hcz18_9
                    try clear hcz19_0
                    try clear hcz19_1
                    try clear hcz19_10
                    try clear hcz19_2
                    try clear hcz19_3
                    try clear hcz19_4
                    try clear hcz19_5
                    try clear hcz19_6
                    try clear hcz19_7
                    try clear hcz19_8
                    try clear hcz19_9
                    try clear hcz23_0
                    try clear hcz23_1
                    try clear hcz23_10
                    try clear hcz23_2
                    try clear hcz23_3
                    try clear hcz23_4
                    try clear hcz23_5
                    try clear hcz23_6
                    try clear hcz23_7
                    try clear hcz23_8
                    try clear hcz23_9
                    try clear hcz24_0
                    try clear hcz24_1
                    try clear hcz24_10
                    try clear hcz24_2
                    try clear hcz24_3
                    try clear hcz24_4
                    try clear hcz24_5
                    try clear hcz24_6
                    try clear hcz24_7
                    try clear hcz24_8
                    try clear hcz24_9
                    try clear hcz25_0
                    try clear hcz25_1
                    try clear hcz25_10
                    try clear hcz25_2
                    try clear hcz25_3
                    try clear hcz25_4
                    try clear hcz25_5
                    try clear hcz25_6
                    try clear hcz25_7
                    try clear hcz25_8
                    try clear hcz25_9
                    try clear hcz29_0
                    try clear hcz29_1
                    try clear hcz29_10
                    try clear hcz29_2
                    try clear hcz29_3
                    try clear hcz29_4
                    try clear hcz29_5
                    try clear hcz29_6
                    try clear hcz29_7
                    try clear hcz29_8
                    try clear hcz29_9
                    try clear hcz30_0
                    try clear hcz30_1
                    try clear hcz30_10
                    try clear hcz30_2
                    try clear hcz30_3
                    try clear hcz30_4
                    try clear hcz30_5
                    try clear hcz30_6
                    try clear hcz30_7
                    try clear hcz30_8
                    try clear hcz30_9
                    try clear hcz31_0
                    try clear hcz31_1
                    try clear hcz31_10
                    try clear hcz31_2
                    try clear hcz31_3
                    try clear hcz31_4
                    try clear hcz31_5
                    try clear hcz31_6
                    try clear hcz31_7
                    try clear hcz31_8
                    try clear hcz31_9
                    try clear hcz33_0
                    try clear hcz33_1
                    try clear hcz33_10
                    try clear hcz33_2
                    try clear hcz33_3
                    try clear hcz33_4
                    try clear hcz33_5
                    try clear hcz33_6
                    try clear hcz33_7
                    try clear hcz33_8
                    try clear hcz33_9
                    try clear hcz5_0
                    try clear hcz5_1
                    try clear hcz5_10
                    try clear hcz5_2
                    try clear hcz5_3
                    try clear hcz5_4
                    try clear hcz5_5
                    try clear hcz5_6
                    try clear hcz5_7
                    try clear hcz5_8
                    try clear hcz5_9
                    try clear hcz9_0
                    try clear hcz9_1
                    try clear hcz9_10
                    try clear hcz9_2
                    try clear hcz9_3
                    try clear hcz9_4
                    try clear hcz9_5
                    try clear hcz9_6
                    try clear hcz9_7
                    try clear hcz9_8
                    try clear hcz9_9
                    try clear hfz10_0
                    try clear hfz10_1
                    try clear hfz10_10
                    try clear hfz10_2
                    try clear hfz10_3
                    try clear hfz10_4
                    try clear hfz10_5
                    try clear hfz10_6
                    try clear hfz10_7
                    try clear hfz10_8
                    try clear hfz10_9
                    try clear hfz14_0
                    try clear hfz14_1
                    try clear hfz14_10
                    try clear hfz14_2
                    try clear hfz14_3
                    try clear hfz14_4
                    try clear hfz14_5
                    try clear hfz14_6
                    try clear hfz14_7
                    try clear hfz14_8
                    try clear hfz14_9
                    try clear hfz15_0
                    try clear hfz15_1
                    try clear hfz15_10
                    try clear hfz15_2
                    try clear hfz15_3
                    try clear hfz15_4
                    try clear hfz15_5
                    try clear hfz15_6
                    try clear hfz15_7
                    try clear hfz15_8
                    try clear hfz15_9
                    try clear hfz18_0
                    try clear hfz18_1
                    try clear hfz18_10
                    try clear hfz18_2
                    try clear hfz18_3
                    try clear hfz18_4
                    try clear hfz18_5
                    try clear hfz18_6
                    try clear hfz18_7
                    try clear hfz18_8
                    try clear hfz18_9
                    try clear hfz19_0
                    try clear hfz19_1
                    try clear hfz19_10
                    try clear hfz19_2
                    try clear hfz19_3
                    try clear hfz19_4
                    try clear hfz19_5
                    try clear hfz19_6
                    try clear hfz19_7
                    try clear hfz19_8
                    try clear hfz19_9
                    try clear hfz23_0
                    try clear hfz23_1
                    try clear hfz23_10
                    try clear hfz23_2
                    try clear hfz23_3
                    try clear hfz23_4
                    try clear hfz23_5
                    try clear hfz23_6
                    try clear hfz23_7
                    try clear hfz23_8
                    try clear hfz23_9
                    try clear hfz24_0
                    try clear hfz24_1
                    try clear hfz24_10
                    try clear hfz24_2
                    try clear hfz24_3
                    try clear hfz24_4
                    try clear hfz24_5
                    try clear hfz24_6
                    try clear hfz24_7
                    try clear hfz24_8
                    try clear hfz24_9
                    try clear hfz25_0
                    try clear hfz25_1
                    try clear hfz25_10
                    try clear hfz25_2
                    try clear hfz25_3
                    try clear hfz25_4
                    try clear hfz25_5
                    try clear hfz25_6
                    try clear hfz25_7
                    try clear hfz25_8
                    try clear hfz25_9
                    try clear hfz29_0
                    try clear hfz29_1
                    try clear hfz29_10
                    try clear hfz29_2
                    try clear hfz29_3
                    try clear hfz29_4
                    try clear hfz29_5
                    try clear hfz29_6
                    try clear hfz29_7
                    try clear hfz29_8
                    try clear hfz29_9
                    try clear hfz30_0
                    try clear hfz30_1
                    try clear hfz30_10
                    try clear hfz30_2
                    try clear hfz30_3
                    try clear hfz30_4
                    try clear hfz30_5
                    try clear hfz30_6
                    try clear hfz30_7
                    try clear hfz30_8
                    try clear hfz30_9
                    try clear hfz31_0
                    try clear hfz31_1
                    try clear hfz31_10
                    try clear hfz31_2
                    try clear hfz31_3
                    try clear hfz31_4
                    try clear hfz31_5
                    try clear hfz31_6
                    try clear hfz31_7
                    try clear hfz31_8
                    try clear hfz31_9
                    try clear hfz33_0
                    try clear hfz33_1
                    try clear hfz33_10
                    try clear hfz33_2
                    try clear hfz33_3
                    try clear hfz33_4
                    try clear hfz33_5
                    try clear hfz33_6
                    try clear hfz33_7
                    try clear hfz33_8
                    try clear hfz33_9
                    try clear hfz5_0
                    try clear hfz5_1
                    try clear hfz5_10
                    try clear hfz5_2
                    try clear hfz5_3
                    try clear hfz5_4
                    try clear hfz5_5
                    try clear hfz5_6
                    try clear hfz5_7
                    try clear hfz5_8
                    try clear hfz5_9
                    try clear hfz9_0
                    try clear hfz9_1
                    try clear hfz9_10
                    try clear hfz9_2
                    try clear hfz9_3
                    try clear hfz9_4
                    try clear hfz9_5
                    try clear hfz9_6
                    try clear hfz9_7
                    try clear hfz9_8
                    try clear hfz9_9
                    try clear p2
                    try clear p6
                    obtain ⟨kq, x60_31, rfl, HA, HJ31, BK225, HB⟩ := hcut
                    cases kq with
                    | zero => exact absurd HA.out (by simp [storagebarterref15_parts.j3])
                    | succ kj31 =>
                      have H := HA.out
                      clear HA
                      simp only [storagebarterref15_parts.j3] at H
                      by_cases c35 : x60_31 = true
                      · subst c35
                        rw [if_pos rfl] at H
                        by_cases c36 : t226 = true
                        · subst c36
                          rw [if_pos rfl] at H
                          by_cases c37 : x6_15 = true
                          · subst c37
                            rw [if_pos rfl] at H
                            obtain rfl := Option.some.inj H
                            have hcz38_0 : wc.cell? ⟨gb225, 0, none⟩ = some (.int .i64 a0_0) := (blk_cell BK225.out 0).trans rfl
                            have hcz38_1 : wc.cell? ⟨gb225, 1, none⟩ = some (.int .i64 a0_1) := (blk_cell BK225.out 1).trans rfl
                            have hcz38_2 : wc.cell? ⟨gb225, 2, none⟩ = some (.int .i64 a0_2) := (blk_cell BK225.out 2).trans rfl
                            have hcz38_3 : wc.cell? ⟨gb225, 3, none⟩ = some (.int .i64 a0_3) := (blk_cell BK225.out 3).trans rfl
                            have hcz38_4 : wc.cell? ⟨gb225, 4, none⟩ = some (.int .i64 a0_4) := (blk_cell BK225.out 4).trans rfl
                            have hcz38_5 : wc.cell? ⟨gb225, 5, none⟩ = some (.int .i64 a0_5) := (blk_cell BK225.out 5).trans rfl
                            have hcz38_6 : wc.cell? ⟨gb225, 6, none⟩ = some (.int .i64 a0_6) := (blk_cell BK225.out 6).trans rfl
                            have hcz38_7 : wc.cell? ⟨gb225, 7, none⟩ = some (.int .i64 a0_7) := (blk_cell BK225.out 7).trans rfl
                            have hcz38_8 : wc.cell? ⟨gb225, 8, none⟩ = some (.int .i64 a0_8) := (blk_cell BK225.out 8).trans rfl
                            have hcz38_9 : wc.cell? ⟨gb225, 9, none⟩ = some (.int .i64 a0_9) := (blk_cell BK225.out 9).trans rfl
                            have hcz38_10 : wc.cell? ⟨gb225, 10, none⟩ = some (.int .i64 a0_10) := (blk_cell BK225.out 10).trans rfl
                            have hfz38_0 := blk_frozen BK225.out 0
                            have hfz38_1 := blk_frozen BK225.out 1
                            have hfz38_2 := blk_frozen BK225.out 2
                            have hfz38_3 := blk_frozen BK225.out 3
                            have hfz38_4 := blk_frozen BK225.out 4
                            have hfz38_5 := blk_frozen BK225.out 5
                            have hfz38_6 := blk_frozen BK225.out 6
                            have hfz38_7 := blk_frozen BK225.out 7
                            have hfz38_8 := blk_frozen BK225.out 8
                            have hfz38_9 := blk_frozen BK225.out 9
                            have hfz38_10 := blk_frozen BK225.out 10
                            go_wp2
                            go_ret
                            exact ⟨by first | rfl | (simp [errW_none, errW_some] <;> rfl) | (simp [*, errW_none, errW_some] <;> rfl), by repeat (first | (with_reducible first | exact HB.out | apply below_alloc | apply pw_below_drewN | apply below_drew1 | refine below_set ?_ GE225.out) | exact HB.out)⟩
                          · replace c37 := Bool.eq_false_iff.mpr c37
                            subst c37
                            rw [if_neg (show ¬ (false = true) by decide)] at H
                            obtain rfl := Option.some.inj H
                            go_wp2
                            go_ret
                            exact ⟨by first | rfl | (simp [errW_none, errW_some] <;> rfl) | (simp [*, errW_none, errW_some] <;> rfl), by repeat (first | (with_reducible first | exact HB.out | apply below_alloc | apply pw_below_drewN | apply below_drew1 | refine below_set ?_ GE225.out) | exact HB.out)⟩
                        · replace c36 := Bool.eq_false_iff.mpr c36
                          subst c36
                          rw [if_neg (show ¬ (false = true) by decide)] at H
                          obtain rfl := Option.some.inj H
                          go_wp2
                          go_ret
                          exact ⟨by first | rfl | (simp [errW_none, errW_some] <;> rfl) | (simp [*, errW_none, errW_some] <;> rfl), by repeat (first | (with_reducible first | exact HB.out | apply below_alloc | apply pw_below_drewN | apply below_drew1 | refine below_set ?_ GE225.out) | exact HB.out)⟩
                      · replace c35 := Bool.eq_false_iff.mpr c35
                        subst c35
                        rw [if_neg (show ¬ (false = true) by decide)] at H
                        by_cases c39 : a0_5 = 4
                        · rw [if_pos c39] at H
                          have c39b0 : (a0_5 == 4) = true := beq_iff_eq.mpr c39
                          have c39b1 : (a0_5 != 4) = false := bne_eq_false_iff_eq.mpr c39
                          clear c39
                          by_cases c40 : t226 = true
                          · subst c40
                            rw [if_pos rfl] at H
                            by_cases c41 : x4_2 = true
                            · subst c41
                              rw [if_pos rfl] at H
                              obtain rfl := Option.some.inj H
                              have hcz42_0 : wc.cell? ⟨gb225, 0, none⟩ = some (.int .i64 a0_0) := (blk_cell BK225.out 0).trans rfl
                              have hcz42_1 : wc.cell? ⟨gb225, 1, none⟩ = some (.int .i64 a0_1) := (blk_cell BK225.out 1).trans rfl
                              have hcz42_2 : wc.cell? ⟨gb225, 2, none⟩ = some (.int .i64 a0_2) := (blk_cell BK225.out 2).trans rfl
                              have hcz42_3 : wc.cell? ⟨gb225, 3, none⟩ = some (.int .i64 a0_3) := (blk_cell BK225.out 3).trans rfl
                              have hcz42_4 : wc.cell? ⟨gb225, 4, none⟩ = some (.int .i64 a0_4) := (blk_cell BK225.out 4).trans rfl
                              have hcz42_5 : wc.cell? ⟨gb225, 5, none⟩ = some (.int .i64 a0_5) := (blk_cell BK225.out 5).trans rfl
                              have hcz42_6 : wc.cell? ⟨gb225, 6, none⟩ = some (.int .i64 a0_6) := (blk_cell BK225.out 6).trans rfl
                              have hcz42_7 : wc.cell? ⟨gb225, 7, none⟩ = some (.int .i64 a0_7) := (blk_cell BK225.out 7).trans rfl
                              have hcz42_8 : wc.cell? ⟨gb225, 8, none⟩ = some (.int .i64 a0_8) := (blk_cell BK225.out 8).trans rfl
                              have hcz42_9 : wc.cell? ⟨gb225, 9, none⟩ = some (.int .i64 a0_9) := (blk_cell BK225.out 9).trans rfl
                              have hcz42_10 : wc.cell? ⟨gb225, 10, none⟩ = some (.int .i64 a0_10) := (blk_cell BK225.out 10).trans rfl
                              have hfz42_0 := blk_frozen BK225.out 0
                              have hfz42_1 := blk_frozen BK225.out 1
                              have hfz42_2 := blk_frozen BK225.out 2
                              have hfz42_3 := blk_frozen BK225.out 3
                              have hfz42_4 := blk_frozen BK225.out 4
                              have hfz42_5 := blk_frozen BK225.out 5
                              have hfz42_6 := blk_frozen BK225.out 6
                              have hfz42_7 := blk_frozen BK225.out 7
                              have hfz42_8 := blk_frozen BK225.out 8
                              have hfz42_9 := blk_frozen BK225.out 9
                              have hfz42_10 := blk_frozen BK225.out 10
                              go_wp2
                              go_ret
                              exact ⟨by first | rfl | (simp [errW_none, errW_some] <;> rfl) | (simp [*, errW_none, errW_some] <;> rfl), by repeat (first | (with_reducible first | exact HB.out | apply below_alloc | apply pw_below_drewN | apply below_drew1 | refine below_set ?_ GE225.out) | exact HB.out)⟩
                            · replace c41 := Bool.eq_false_iff.mpr c41
                              subst c41
                              rw [if_neg (show ¬ (false = true) by decide)] at H
                              obtain rfl := Option.some.inj H
                              go_wp2
                              go_ret
                              exact ⟨by first | rfl | (simp [errW_none, errW_some] <;> rfl) | (simp [*, errW_none, errW_some] <;> rfl), by repeat (first | (with_reducible first | exact HB.out | apply below_alloc | apply pw_below_drewN | apply below_drew1 | refine below_set ?_ GE225.out) | exact HB.out)⟩
                          · replace c40 := Bool.eq_false_iff.mpr c40
                            subst c40
                            rw [if_neg (show ¬ (false = true) by decide)] at H
                            obtain rfl := Option.some.inj H
                            go_wp2
                            go_ret
                            exact ⟨by first | rfl | (simp [errW_none, errW_some] <;> rfl) | (simp [*, errW_none, errW_some] <;> rfl), by repeat (first | (with_reducible first | exact HB.out | apply below_alloc | apply pw_below_drewN | apply below_drew1 | refine below_set ?_ GE225.out) | exact HB.out)⟩
                        · rw [if_neg c39] at H
                          have c39b0 : (a0_5 == 4) = false := beq_eq_false_iff_ne.mpr c39
                          have c39b1 : (a0_5 != 4) = true := bne_iff_ne.mpr c39
                          by_cases c43 : a0_5 = 6
                          · rw [if_pos c43] at H
                            have c43b0 : (a0_5 == 6) = true := beq_iff_eq.mpr c43
                            have c43b1 : (a0_5 != 6) = false := bne_eq_false_iff_eq.mpr c43
                            clear c43
                            replace H := Option.bind_eq_some_iff.mp H
                            obtain ⟨t230, A440, H⟩ := H
                            try dsimp only at H
                            have A44 := Aside0.mk A440
                            clear A440
                            by_cases c45 : t230 = true
                            · subst c45
                              rw [if_pos rfl] at H
                              replace H := Option.bind_eq_some_iff.mp H
                              obtain ⟨t231, A460, H⟩ := H
                              try dsimp only at H
                              have A46 := Aside0.mk A460
                              clear A460
                              by_cases c47 : t231 = true
                              · subst c47
                                rw [if_pos rfl] at H
                                replace H := Option.bind_eq_some_iff.mp H
                                obtain ⟨t232, A480, H⟩ := H
                                try dsimp only at H
                                have A48 := Aside0.mk A480
                                clear A480
                                by_cases c49 : t232 = true
                                · subst c49
                                  rw [if_pos rfl] at H
                                  obtain rfl := Option.some.inj H
                                  have hcz50_0 : wc.cell? ⟨gb225, 0, none⟩ = some (.int .i64 a0_0) := (blk_cell BK225.out 0).trans rfl
                                  have hcz50_1 : wc.cell? ⟨gb225, 1, none⟩ = some (.int .i64 a0_1) := (blk_cell BK225.out 1).trans rfl
                                  have hcz50_2 : wc.cell? ⟨gb225, 2, none⟩ = some (.int .i64 a0_2) := (blk_cell BK225.out 2).trans rfl
                                  have hcz50_3 : wc.cell? ⟨gb225, 3, none⟩ = some (.int .i64 a0_3) := (blk_cell BK225.out 3).trans rfl
                                  have hcz50_4 : wc.cell? ⟨gb225, 4, none⟩ = some (.int .i64 a0_4) := (blk_cell BK225.out 4).trans rfl
                                  have hcz50_5 : wc.cell? ⟨gb225, 5, none⟩ = some (.int .i64 a0_5) := (blk_cell BK225.out 5).trans rfl
                                  have hcz50_6 : wc.cell? ⟨gb225, 6, none⟩ = some (.int .i64 a0_6) := (blk_cell BK225.out 6).trans rfl
                                  have hcz50_7 : wc.cell? ⟨gb225, 7, none⟩ = some (.int .i64 a0_7) := (blk_cell BK225.out 7).trans rfl
                                  have hcz50_8 : wc.cell? ⟨gb225, 8, none⟩ = some (.int .i64 a0_8) := (blk_cell BK225.out 8).trans rfl
                                  have hcz50_9 : wc.cell? ⟨gb225, 9, none⟩ = some (.int .i64 a0_9) := (blk_cell BK225.out 9).trans rfl
                                  have hcz50_10 : wc.cell? ⟨gb225, 10, none⟩ = some (.int .i64 a0_10) := (blk_cell BK225.out 10).trans rfl
                                  have hfz50_0 := blk_frozen BK225.out 0
                                  have hfz50_1 := blk_frozen BK225.out 1
                                  have hfz50_2 := blk_frozen BK225.out 2
                                  have hfz50_3 := blk_frozen BK225.out 3
                                  have hfz50_4 := blk_frozen BK225.out 4
                                  have hfz50_5 := blk_frozen BK225.out 5
                                  have hfz50_6 := blk_frozen BK225.out 6
                                  have hfz50_7 := blk_frozen BK225.out 7
                                  have hfz50_8 := blk_frozen BK225.out 8
                                  have hfz50_9 := blk_frozen BK225.out 9
                                  have hfz50_10 := blk_frozen BK225.out 10
                                  go_wp2_with (first | ((with_reducible refine gate_callee (f := 66) rfl ?_); refine goesL_ (some 87) rfl rfl Try.func66 (by kernel_rfl) rfl #[.int .i64 a0_6, .int .i64 0, .int .i64 2147483646] rfl (by (try simp only [List.map_toArray, List.map_cons, List.map_nil]); first | done | rfl | (simp only [List.length_drop, List.length_take]; rfl)) ?_; (with_reducible refine (storagebarterref15_in.calls a0_6 0 2147483646 true _ A44.out).mono ?_); rintro e w' ⟨rfl, ⟨nd, rfl⟩⟩; refine ⟨_, rfl, ?_⟩) | (go_at_call 66; (with_reducible refine (storagebarterref15_in.calls a0_7 0 2147483646 true _ A46.out).mono ?_); rintro e w' ⟨rfl, ⟨nd, rfl⟩⟩) | (go_at_call 66; (with_reducible refine (storagebarterref15_in.calls a0_8 0 256 true _ A48.out).mono ?_); rintro e w' ⟨rfl, ⟨nd, rfl⟩⟩))
                                  go_ret
                                  exact ⟨by first | rfl | (simp [errW_none, errW_some] <;> rfl) | (simp [*, errW_none, errW_some] <;> rfl), by repeat (first | (with_reducible first | exact HB.out | apply below_alloc | apply pw_below_drewN | apply below_drew1 | refine below_set ?_ GE225.out) | exact HB.out)⟩
                                · replace c49 := Bool.eq_false_iff.mpr c49
                                  subst c49
                                  rw [if_neg (show ¬ (false = true) by decide)] at H
                                  obtain rfl := Option.some.inj H
                                  have hcz51_0 : wc.cell? ⟨gb225, 0, none⟩ = some (.int .i64 a0_0) := (blk_cell BK225.out 0).trans rfl
                                  have hcz51_1 : wc.cell? ⟨gb225, 1, none⟩ = some (.int .i64 a0_1) := (blk_cell BK225.out 1).trans rfl
                                  have hcz51_2 : wc.cell? ⟨gb225, 2, none⟩ = some (.int .i64 a0_2) := (blk_cell BK225.out 2).trans rfl
                                  have hcz51_3 : wc.cell? ⟨gb225, 3, none⟩ = some (.int .i64 a0_3) := (blk_cell BK225.out 3).trans rfl
                                  have hcz51_4 : wc.cell? ⟨gb225, 4, none⟩ = some (.int .i64 a0_4) := (blk_cell BK225.out 4).trans rfl
                                  have hcz51_5 : wc.cell? ⟨gb225, 5, none⟩ = some (.int .i64 a0_5) := (blk_cell BK225.out 5).trans rfl
                                  have hcz51_6 : wc.cell? ⟨gb225, 6, none⟩ = some (.int .i64 a0_6) := (blk_cell BK225.out 6).trans rfl
                                  have hcz51_7 : wc.cell? ⟨gb225, 7, none⟩ = some (.int .i64 a0_7) := (blk_cell BK225.out 7).trans rfl
                                  have hcz51_8 : wc.cell? ⟨gb225, 8, none⟩ = some (.int .i64 a0_8) := (blk_cell BK225.out 8).trans rfl
                                  have hcz51_9 : wc.cell? ⟨gb225, 9, none⟩ = some (.int .i64 a0_9) := (blk_cell BK225.out 9).trans rfl
                                  have hcz51_10 : wc.cell? ⟨gb225, 10, none⟩ = some (.int .i64 a0_10) := (blk_cell BK225.out 10).trans rfl
                                  have hfz51_0 := blk_frozen BK225.out 0
                                  have hfz51_1 := blk_frozen BK225.out 1
                                  have hfz51_2 := blk_frozen BK225.out 2
                                  have hfz51_3 := blk_frozen BK225.out 3
                                  have hfz51_4 := blk_frozen BK225.out 4
                                  have hfz51_5 := blk_frozen BK225.out 5
                                  have hfz51_6 := blk_frozen BK225.out 6
                                  have hfz51_7 := blk_frozen BK225.out 7
                                  have hfz51_8 := blk_frozen BK225.out 8
                                  have hfz51_9 := blk_frozen BK225.out 9
                                  have hfz51_10 := blk_frozen BK225.out 10
                                  go_wp2_with (first | ((with_reducible refine gate_callee (f := 66) rfl ?_); refine goesL_ (some 87) rfl rfl Try.func66 (by kernel_rfl) rfl #[.int .i64 a0_6, .int .i64 0, .int .i64 2147483646] rfl (by (try simp only [List.map_toArray, List.map_cons, List.map_nil]); first | done | rfl | (simp only [List.length_drop, List.length_take]; rfl)) ?_; (with_reducible refine (storagebarterref15_in.calls a0_6 0 2147483646 true _ A44.out).mono ?_); rintro e w' ⟨rfl, ⟨nd, rfl⟩⟩; refine ⟨_, rfl, ?_⟩) | (go_at_call 66; (with_reducible refine (storagebarterref15_in.calls a0_7 0 2147483646 true _ A46.out).mono ?_); rintro e w' ⟨rfl, ⟨nd, rfl⟩⟩) | (go_at_call 66; (with_reducible refine (storagebarterref15_in.calls a0_8 0 256 false _ A48.out).mono ?_); rintro e w' ⟨rfl, ⟨nd, rfl⟩⟩))
                                  go_ret
                                  exact ⟨by first | rfl | (simp [errW_none, errW_some] <;> rfl) | (simp [*, errW_none, errW_some] <;> rfl), by repeat (first | (with_reducible first | exact HB.out | apply below_alloc | apply pw_below_drewN | apply below_drew1 | refine below_set ?_ GE225.out) | exact HB.out)⟩
                              · replace c47 := Bool.eq_false_iff.mpr c47
                                subst c47
                                rw [if_neg (show ¬ (false = true) by decide)] at H
                                obtain rfl := Option.some.inj H
                                have hcz52_0 : wc.cell? ⟨gb225, 0, none⟩ = some (.int .i64 a0_0) := (blk_cell BK225.out 0).trans rfl
                                have hcz52_1 : wc.cell? ⟨gb225, 1, none⟩ = some (.int .i64 a0_1) := (blk_cell BK225.out 1).trans rfl
                                have hcz52_2 : wc.cell? ⟨gb225, 2, none⟩ = some (.int .i64 a0_2) := (blk_cell BK225.out 2).trans rfl
                                have hcz52_3 : wc.cell? ⟨gb225, 3, none⟩ = some (.int .i64 a0_3) := (blk_cell BK225.out 3).trans rfl
                                have hcz52_4 : wc.cell? ⟨gb225, 4, none⟩ = some (.int .i64 a0_4) := (blk_cell BK225.out 4).trans rfl
                                have hcz52_5 : wc.cell? ⟨gb225, 5, none⟩ = some (.int .i64 a0_5) := (blk_cell BK225.out 5).trans rfl
                                have hcz52_6 : wc.cell? ⟨gb225, 6, none⟩ = some (.int .i64 a0_6) := (blk_cell BK225.out 6).trans rfl
                                have hcz52_7 : wc.cell? ⟨gb225, 7, none⟩ = some (.int .i64 a0_7) := (blk_cell BK225.out 7).trans rfl
                                have hcz52_8 : wc.cell? ⟨gb225, 8, none⟩ = some (.int .i64 a0_8) := (blk_cell BK225.out 8).trans rfl
                                have hcz52_9 : wc.cell? ⟨gb225, 9, none⟩ = some (.int .i64 a0_9) := (blk_cell BK225.out 9).trans rfl
                                have hcz52_10 : wc.cell? ⟨gb225, 10, none⟩ = some (.int .i64 a0_10) := (blk_cell BK225.out 10).trans rfl
                                have hfz52_0 := blk_frozen BK225.out 0
                                have hfz52_1 := blk_frozen BK225.out 1
                                have hfz52_2 := blk_frozen BK225.out 2
                                have hfz52_3 := blk_frozen BK225.out 3
                                have hfz52_4 := blk_frozen BK225.out 4
                                have hfz52_5 := blk_frozen BK225.out 5
                                have hfz52_6 := blk_frozen BK225.out 6
                                have hfz52_7 := blk_frozen BK225.out 7
                                have hfz52_8 := blk_frozen BK225.out 8
                                have hfz52_9 := blk_frozen BK225.out 9
                                have hfz52_10 := blk_frozen BK225.out 10
                                go_wp2_with (first | ((with_reducible refine gate_callee (f := 66) rfl ?_); refine goesL_ (some 87) rfl rfl Try.func66 (by kernel_rfl) rfl #[.int .i64 a0_6, .int .i64 0, .int .i64 2147483646] rfl (by (try simp only [List.map_toArray, List.map_cons, List.map_nil]); first | done | rfl | (simp only [List.length_drop, List.length_take]; rfl)) ?_; (with_reducible refine (storagebarterref15_in.calls a0_6 0 2147483646 true _ A44.out).mono ?_); rintro e w' ⟨rfl, ⟨nd, rfl⟩⟩; refine ⟨_, rfl, ?_⟩) | (go_at_call 66; (with_reducible refine (storagebarterref15_in.calls a0_7 0 2147483646 false _ A46.out).mono ?_); rintro e w' ⟨rfl, ⟨nd, rfl⟩⟩))
                                go_ret
                                exact ⟨by first | rfl | (simp [errW_none, errW_some] <;> rfl) | (simp [*, errW_none, errW_some] <;> rfl), by repeat (first | (with_reducible first | exact HB.out | apply below_alloc | apply pw_below_drewN | apply below_drew1 | refine below_set ?_ GE225.out) | exact HB.out)⟩
                            · replace c45 := Bool.eq_false_iff.mpr c45
                              subst c45
                              rw [if_neg (show ¬ (false = true) by decide)] at H
                              obtain rfl := Option.some.inj H
                              have hcz53_0 : wc.cell? ⟨gb225, 0, none⟩ = some (.int .i64 a0_0) := (blk_cell BK225.out 0).trans rfl
                              have hcz53_1 : wc.cell? ⟨gb225, 1, none⟩ = some (.int .i64 a0_1) := (blk_cell BK225.out 1).trans rfl
                              have hcz53_2 : wc.cell? ⟨gb225, 2, none⟩ = some (.int .i64 a0_2) := (blk_cell BK225.out 2).trans rfl
                              have hcz53_3 : wc.cell? ⟨gb225, 3, none⟩ = some (.int .i64 a0_3) := (blk_cell BK225.out 3).trans rfl
                              have hcz53_4 : wc.cell? ⟨gb225, 4, none⟩ = some (.int .i64 a0_4) := (blk_cell BK225.out 4).trans rfl
                              have hcz53_5 : wc.cell? ⟨gb225, 5, none⟩ = some (.int .i64 a0_5) := (blk_cell BK225.out 5).trans rfl
                              have hcz53_6 : wc.cell? ⟨gb225, 6, none⟩ = some (.int .i64 a0_6) := (blk_cell BK225.out 6).trans rfl
                              have hcz53_7 : wc.cell? ⟨gb225, 7, none⟩ = some (.int .i64 a0_7) := (blk_cell BK225.out 7).trans rfl
                              have hcz53_8 : wc.cell? ⟨gb225, 8, none⟩ = some (.int .i64 a0_8) := (blk_cell BK225.out 8).trans rfl
                              have hcz53_9 : wc.cell? ⟨gb225, 9, none⟩ = some (.int .i64 a0_9) := (blk_cell BK225.out 9).trans rfl
                              have hcz53_10 : wc.cell? ⟨gb225, 10, none⟩ = some (.int .i64 a0_10) := (blk_cell BK225.out 10).trans rfl
                              have hfz53_0 := blk_frozen BK225.out 0
                              have hfz53_1 := blk_frozen BK225.out 1
                              have hfz53_2 := blk_frozen BK225.out 2
                              have hfz53_3 := blk_frozen BK225.out 3
                              have hfz53_4 := blk_frozen BK225.out 4
                              have hfz53_5 := blk_frozen BK225.out 5
                              have hfz53_6 := blk_frozen BK225.out 6
                              have hfz53_7 := blk_frozen BK225.out 7
                              have hfz53_8 := blk_frozen BK225.out 8
                              have hfz53_9 := blk_frozen BK225.out 9
                              have hfz53_10 := blk_frozen BK225.out 10
                              go_wp2_with (first | ((with_reducible refine gate_callee (f := 66) rfl ?_); refine goesL_ (some 87) rfl rfl Try.func66 (by kernel_rfl) rfl #[.int .i64 a0_6, .int .i64 0, .int .i64 2147483646] rfl (by (try simp only [List.map_toArray, List.map_cons, List.map_nil]); first | done | rfl | (simp only [List.length_drop, List.length_take]; rfl)) ?_; (with_reducible refine (storagebarterref15_in.calls a0_6 0 2147483646 false _ A44.out).mono ?_); rintro e w' ⟨rfl, ⟨nd, rfl⟩⟩; refine ⟨_, rfl, ?_⟩))
                              go_ret
                              exact ⟨by first | rfl | (simp [errW_none, errW_some] <;> rfl) | (simp [*, errW_none, errW_some] <;> rfl), by repeat (first | (with_reducible first | exact HB.out | apply below_alloc | apply pw_below_drewN | apply below_drew1 | refine below_set ?_ GE225.out) | exact HB.out)⟩
                          · rw [if_neg c43] at H
                            have c43b0 : (a0_5 == 6) = false := beq_eq_false_iff_ne.mpr c43
                            have c43b1 : (a0_5 != 6) = true := bne_iff_ne.mpr c43
                            by_cases c54 : a0_5 = 7
                            · rw [if_pos c54] at H
                              have c54b0 : (a0_5 == 7) = true := beq_iff_eq.mpr c54
                              have c54b1 : (a0_5 != 7) = false := bne_eq_false_iff_eq.mpr c54
                              clear c54
                              replace H := Option.bind_eq_some_iff.mp H
                              obtain ⟨t233, A550, H⟩ := H
                              try dsimp only at H
                              have A55 := Aside0.mk A550
                              clear A550
                              by_cases c56 : t233 = true
                              · subst c56
                                rw [if_pos rfl] at H
                                by_cases c57 : x4_2 = true
                                · subst c57
                                  rw [if_pos rfl] at H
                                  replace H := Option.bind_eq_some_iff.mp H
                                  obtain ⟨t234, A580, H⟩ := H
                                  try dsimp only at H
                                  have A58 := Aside0.mk A580
                                  clear A580
                                  obtain rfl := Option.some.inj H
                                  have hcz59_0 : wc.cell? ⟨gb225, 0, none⟩ = some (.int .i64 a0_0) := (blk_cell BK225.out 0).trans rfl
                                  have hcz59_1 : wc.cell? ⟨gb225, 1, none⟩ = some (.int .i64 a0_1) := (blk_cell BK225.out 1).trans rfl
                                  have hcz59_2 : wc.cell? ⟨gb225, 2, none⟩ = some (.int .i64 a0_2) := (blk_cell BK225.out 2).trans rfl
                                  have hcz59_3 : wc.cell? ⟨gb225, 3, none⟩ = some (.int .i64 a0_3) := (blk_cell BK225.out 3).trans rfl
                                  have hcz59_4 : wc.cell? ⟨gb225, 4, none⟩ = some (.int .i64 a0_4) := (blk_cell BK225.out 4).trans rfl
                                  have hcz59_5 : wc.cell? ⟨gb225, 5, none⟩ = some (.int .i64 a0_5) := (blk_cell BK225.out 5).trans rfl
                                  have hcz59_6 : wc.cell? ⟨gb225, 6, none⟩ = some (.int .i64 a0_6) := (blk_cell BK225.out 6).trans rfl
                                  have hcz59_7 : wc.cell? ⟨gb225, 7, none⟩ = some (.int .i64 a0_7) := (blk_cell BK225.out 7).trans rfl
                                  have hcz59_8 : wc.cell? ⟨gb225, 8, none⟩ = some (.int .i64 a0_8) := (blk_cell BK225.out 8).trans rfl
                                  have hcz59_9 : wc.cell? ⟨gb225, 9, none⟩ = some (.int .i64 a0_9) := (blk_cell BK225.out 9).trans rfl
                                  have hcz59_10 : wc.cell? ⟨gb225, 10, none⟩ = some (.int .i64 a0_10) := (blk_cell BK225.out 10).trans rfl
                                  have hfz59_0 := blk_frozen BK225.out 0
                                  have hfz59_1 := blk_frozen BK225.out 1
                                  have hfz59_2 := blk_frozen BK225.out 2
                                  have hfz59_3 := blk_frozen BK225.out 3
                                  have hfz59_4 := blk_frozen BK225.out 4
                                  have hfz59_5 := blk_frozen BK225.out 5
                                  have hfz59_6 := blk_frozen BK225.out 6
                                  have hfz59_7 := blk_frozen BK225.out 7
                                  have hfz59_8 := blk_frozen BK225.out 8
                                  have hfz59_9 := blk_frozen BK225.out 9
                                  have hfz59_10 := blk_frozen BK225.out 10
                                  go_wp2_with (first | ((with_reducible refine gate_callee (f := 66) rfl ?_); refine goesL_ (some 107) rfl rfl Try.func66 (by kernel_rfl) rfl #[.int .i64 a0_6, .int .i64 0, .int .i64 2147483646] rfl (by (try simp only [List.map_toArray, List.map_cons, List.map_nil]); first | done | rfl | (simp only [List.length_drop, List.length_take]; rfl)) ?_; (with_reducible refine (storagebarterref15_in.calls a0_6 0 2147483646 true _ A55.out).mono ?_); rintro e w' ⟨rfl, ⟨nd, rfl⟩⟩; refine ⟨_, rfl, ?_⟩) | (go_at_call 73; (with_reducible refine (storagebarterref15_lock.calls a0_9 t234 _ A58.out).mono ?_); rintro e w' ⟨rfl, ⟨nd, rfl⟩⟩))
                                  go_ret
                                  exact ⟨by first | rfl | (simp [errW_none, errW_some] <;> rfl) | (simp [*, errW_none, errW_some] <;> rfl), by repeat (first | (with_reducible first | exact HB.out | apply below_alloc | apply pw_below_drewN | apply below_drew1 | refine below_set ?_ GE225.out) | exact HB.out)⟩
                                · replace c57 := Bool.eq_false_iff.mpr c57
                                  subst c57
                                  rw [if_neg (show ¬ (false = true) by decide)] at H
                                  obtain rfl := Option.some.inj H
                                  have hcz60_0 : wc.cell? ⟨gb225, 0, none⟩ = some (.int .i64 a0_0) := (blk_cell BK225.out 0).trans rfl
                                  have hcz60_1 : wc.cell? ⟨gb225, 1, none⟩ = some (.int .i64 a0_1) := (blk_cell BK225.out 1).trans rfl
                                  have hcz60_2 : wc.cell? ⟨gb225, 2, none⟩ = some (.int .i64 a0_2) := (blk_cell BK225.out 2).trans rfl
                                  have hcz60_3 : wc.cell? ⟨gb225, 3, none⟩ = some (.int .i64 a0_3) := (blk_cell BK225.out 3).trans rfl
                                  have hcz60_4 : wc.cell? ⟨gb225, 4, none⟩ = some (.int .i64 a0_4) := (blk_cell BK225.out 4).trans rfl
                                  have hcz60_5 : wc.cell? ⟨gb225, 5, none⟩ = some (.int .i64 a0_5) := (blk_cell BK225.out 5).trans rfl
                                  have hcz60_6 : wc.cell? ⟨gb225, 6, none⟩ = some (.int .i64 a0_6) := (blk_cell BK225.out 6).trans rfl
                                  have hcz60_7 : wc.cell? ⟨gb225, 7, none⟩ = some (.int .i64 a0_7) := (blk_cell BK225.out 7).trans rfl
                                  have hcz60_8 : wc.cell? ⟨gb225, 8, none⟩ = some (.int .i64 a0_8) := (blk_cell BK225.out 8).trans rfl
                                  have hcz60_9 : wc.cell? ⟨gb225, 9, none⟩ = some (.int .i64 a0_9) := (blk_cell BK225.out 9).trans rfl
                                  have hcz60_10 : wc.cell? ⟨gb225, 10, none⟩ = some (.int .i64 a0_10) := (blk_cell BK225.out 10).trans rfl
                                  have hfz60_0 := blk_frozen BK225.out 0
                                  have hfz60_1 := blk_frozen BK225.out 1
                                  have hfz60_2 := blk_frozen BK225.out 2
                                  have hfz60_3 := blk_frozen BK225.out 3
                                  have hfz60_4 := blk_frozen BK225.out 4
                                  have hfz60_5 := blk_frozen BK225.out 5
                                  have hfz60_6 := blk_frozen BK225.out 6
                                  have hfz60_7 := blk_frozen BK225.out 7
                                  have hfz60_8 := blk_frozen BK225.out 8
                                  have hfz60_9 := blk_frozen BK225.out 9
                                  have hfz60_10 := blk_frozen BK225.out 10
                                  go_wp2_with (first | ((with_reducible refine gate_callee (f := 66) rfl ?_); refine goesL_ (some 107) rfl rfl Try.func66 (by kernel_rfl) rfl #[.int .i64 a0_6, .int .i64 0, .int .i64 2147483646] rfl (by (try simp only [List.map_toArray, List.map_cons, List.map_nil]); first | done | rfl | (simp only [List.length_drop, List.length_take]; rfl)) ?_; (with_reducible refine (storagebarterref15_in.calls a0_6 0 2147483646 true _ A55.out).mono ?_); rintro e w' ⟨rfl, ⟨nd, rfl⟩⟩; refine ⟨_, rfl, ?_⟩))
                                  go_ret
                                  exact ⟨by first | rfl | (simp [errW_none, errW_some] <;> rfl) | (simp [*, errW_none, errW_some] <;> rfl), by repeat (first | (with_reducible first | exact HB.out | apply below_alloc | apply pw_below_drewN | apply below_drew1 | refine below_set ?_ GE225.out) | exact HB.out)⟩
                              · replace c56 := Bool.eq_false_iff.mpr c56
                                subst c56
                                rw [if_neg (show ¬ (false = true) by decide)] at H
                                obtain rfl := Option.some.inj H
                                have hcz61_0 : wc.cell? ⟨gb225, 0, none⟩ = some (.int .i64 a0_0) := (blk_cell BK225.out 0).trans rfl
                                have hcz61_1 : wc.cell? ⟨gb225, 1, none⟩ = some (.int .i64 a0_1) := (blk_cell BK225.out 1).trans rfl
                                have hcz61_2 : wc.cell? ⟨gb225, 2, none⟩ = some (.int .i64 a0_2) := (blk_cell BK225.out 2).trans rfl
                                have hcz61_3 : wc.cell? ⟨gb225, 3, none⟩ = some (.int .i64 a0_3) := (blk_cell BK225.out 3).trans rfl
                                have hcz61_4 : wc.cell? ⟨gb225, 4, none⟩ = some (.int .i64 a0_4) := (blk_cell BK225.out 4).trans rfl
                                have hcz61_5 : wc.cell? ⟨gb225, 5, none⟩ = some (.int .i64 a0_5) := (blk_cell BK225.out 5).trans rfl
                                have hcz61_6 : wc.cell? ⟨gb225, 6, none⟩ = some (.int .i64 a0_6) := (blk_cell BK225.out 6).trans rfl
                                have hcz61_7 : wc.cell? ⟨gb225, 7, none⟩ = some (.int .i64 a0_7) := (blk_cell BK225.out 7).trans rfl
                                have hcz61_8 : wc.cell? ⟨gb225, 8, none⟩ = some (.int .i64 a0_8) := (blk_cell BK225.out 8).trans rfl
                                have hcz61_9 : wc.cell? ⟨gb225, 9, none⟩ = some (.int .i64 a0_9) := (blk_cell BK225.out 9).trans rfl
                                have hcz61_10 : wc.cell? ⟨gb225, 10, none⟩ = some (.int .i64 a0_10) := (blk_cell BK225.out 10).trans rfl
                                have hfz61_0 := blk_frozen BK225.out 0
                                have hfz61_1 := blk_frozen BK225.out 1
                                have hfz61_2 := blk_frozen BK225.out 2
                                have hfz61_3 := blk_frozen BK225.out 3
                                have hfz61_4 := blk_frozen BK225.out 4
                                have hfz61_5 := blk_frozen BK225.out 5
                                have hfz61_6 := blk_frozen BK225.out 6
                                have hfz61_7 := blk_frozen BK225.out 7
                                have hfz61_8 := blk_frozen BK225.out 8
                                have hfz61_9 := blk_frozen BK225.out 9
                                have hfz61_10 := blk_frozen BK225.out 10
                                go_wp2_with (first | ((with_reducible refine gate_callee (f := 66) rfl ?_); refine goesL_ (some 107) rfl rfl Try.func66 (by kernel_rfl) rfl #[.int .i64 a0_6, .int .i64 0, .int .i64 2147483646] rfl (by (try simp only [List.map_toArray, List.map_cons, List.map_nil]); first | done | rfl | (simp only [List.length_drop, List.length_take]; rfl)) ?_; (with_reducible refine (storagebarterref15_in.calls a0_6 0 2147483646 false _ A55.out).mono ?_); rintro e w' ⟨rfl, ⟨nd, rfl⟩⟩; refine ⟨_, rfl, ?_⟩))
                                go_ret
                                exact ⟨by first | rfl | (simp [errW_none, errW_some] <;> rfl) | (simp [*, errW_none, errW_some] <;> rfl), by repeat (first | (with_reducible first | exact HB.out | apply below_alloc | apply pw_below_drewN | apply below_drew1 | refine below_set ?_ GE225.out) | exact HB.out)⟩
                            · rw [if_neg c54] at H
                              have c54b0 : (a0_5 == 7) = false := beq_eq_false_iff_ne.mpr c54
                              have c54b1 : (a0_5 != 7) = true := bne_iff_ne.mpr c54
                              by_cases c62 : a0_5 = 8
                              · rw [if_pos c62] at H
                                have c62b0 : (a0_5 == 8) = true := beq_iff_eq.mpr c62
                                have c62b1 : (a0_5 != 8) = false := bne_eq_false_iff_eq.mpr c62
                                clear c62
                                replace H := Option.bind_eq_some_iff.mp H
                                obtain ⟨t235, A630, H⟩ := H
                                try dsimp only at H
                                have A63 := Aside0.mk A630
                                clear A630
                                by_cases c64 : t235 = true
                                · subst c64
                                  rw [if_pos rfl] at H
                                  replace H := Option.bind_eq_some_iff.mp H
                                  obtain ⟨t236, A650, H⟩ := H
                                  try dsimp only at H
                                  have A65 := Aside0.mk A650
                                  clear A650
                                  by_cases c66 : t236 = true
                                  · subst c66
                                    rw [if_pos rfl] at H
                                    by_cases c67 : a0_8 = 0
                                    · rw [if_pos c67] at H
                                      have c67b0 : (a0_8 == 0) = true := beq_iff_eq.mpr c67
                                      have c67b1 : (a0_8 != 0) = false := bne_eq_false_iff_eq.mpr c67
                                      clear c67
                                      obtain rfl := Option.some.inj H
                                      have hcz68_0 : wc.cell? ⟨gb225, 0, none⟩ = some (.int .i64 a0_0) := (blk_cell BK225.out 0).trans rfl
                                      have hcz68_1 : wc.cell? ⟨gb225, 1, none⟩ = some (.int .i64 a0_1) := (blk_cell BK225.out 1).trans rfl
                                      have hcz68_2 : wc.cell? ⟨gb225, 2, none⟩ = some (.int .i64 a0_2) := (blk_cell BK225.out 2).trans rfl
                                      have hcz68_3 : wc.cell? ⟨gb225, 3, none⟩ = some (.int .i64 a0_3) := (blk_cell BK225.out 3).trans rfl
                                      have hcz68_4 : wc.cell? ⟨gb225, 4, none⟩ = some (.int .i64 a0_4) := (blk_cell BK225.out 4).trans rfl
                                      have hcz68_5 : wc.cell? ⟨gb225, 5, none⟩ = some (.int .i64 a0_5) := (blk_cell BK225.out 5).trans rfl
                                      have hcz68_6 : wc.cell? ⟨gb225, 6, none⟩ = some (.int .i64 a0_6) := (blk_cell BK225.out 6).trans rfl
                                      have hcz68_7 : wc.cell? ⟨gb225, 7, none⟩ = some (.int .i64 a0_7) := (blk_cell BK225.out 7).trans rfl
                                      have hcz68_8 : wc.cell? ⟨gb225, 8, none⟩ = some (.int .i64 a0_8) := (blk_cell BK225.out 8).trans rfl
                                      have hcz68_9 : wc.cell? ⟨gb225, 9, none⟩ = some (.int .i64 a0_9) := (blk_cell BK225.out 9).trans rfl
                                      have hcz68_10 : wc.cell? ⟨gb225, 10, none⟩ = some (.int .i64 a0_10) := (blk_cell BK225.out 10).trans rfl
                                      have hfz68_0 := blk_frozen BK225.out 0
                                      have hfz68_1 := blk_frozen BK225.out 1
                                      have hfz68_2 := blk_frozen BK225.out 2
                                      have hfz68_3 := blk_frozen BK225.out 3
                                      have hfz68_4 := blk_frozen BK225.out 4
                                      have hfz68_5 := blk_frozen BK225.out 5
                                      have hfz68_6 := blk_frozen BK225.out 6
                                      have hfz68_7 := blk_frozen BK225.out 7
                                      have hfz68_8 := blk_frozen BK225.out 8
                                      have hfz68_9 := blk_frozen BK225.out 9
                                      have hfz68_10 := blk_frozen BK225.out 10
                                      go_wp2_with (first | ((with_reducible refine gate_callee (f := 66) rfl ?_); refine goesL_ (some 120) rfl rfl Try.func66 (by kernel_rfl) rfl #[.int .i64 a0_6, .int .i64 0, .int .i64 2147483646] rfl (by (try simp only [List.map_toArray, List.map_cons, List.map_nil]); first | done | rfl | (simp only [List.length_drop, List.length_take]; rfl)) ?_; (with_reducible refine (storagebarterref15_in.calls a0_6 0 2147483646 true _ A63.out).mono ?_); rintro e w' ⟨rfl, ⟨nd, rfl⟩⟩; refine ⟨_, rfl, ?_⟩) | (go_at_call 66; (with_reducible refine (storagebarterref15_in.calls a0_7 0 4294967293 true _ A65.out).mono ?_); rintro e w' ⟨rfl, ⟨nd, rfl⟩⟩))
                                      go_ret
                                      exact ⟨by first | rfl | (simp [errW_none, errW_some] <;> rfl) | (simp [*, errW_none, errW_some] <;> rfl), by repeat (first | (with_reducible first | exact HB.out | apply below_alloc | apply pw_below_drewN | apply below_drew1 | refine below_set ?_ GE225.out) | exact HB.out)⟩
                                    · rw [if_neg c67] at H
                                      have c67b0 : (a0_8 == 0) = false := beq_eq_false_iff_ne.mpr c67
                                      have c67b1 : (a0_8 != 0) = true := bne_iff_ne.mpr c67
                                      obtain rfl := Option.some.inj H
                                      have hcz69_0 : wc.cell? ⟨gb225, 0, none⟩ = some (.int .i64 a0_0) := (blk_cell BK225.out 0).trans rfl
                                      have hcz69_1 : wc.cell? ⟨gb225, 1, none⟩ = some (.int .i64 a0_1) := (blk_cell BK225.out 1).trans rfl
                                      have hcz69_2 : wc.cell? ⟨gb225, 2, none⟩ = some (.int .i64 a0_2) := (blk_cell BK225.out 2).trans rfl
                                      have hcz69_3 : wc.cell? ⟨gb225, 3, none⟩ = some (.int .i64 a0_3) := (blk_cell BK225.out 3).trans rfl
                                      have hcz69_4 : wc.cell? ⟨gb225, 4, none⟩ = some (.int .i64 a0_4) := (blk_cell BK225.out 4).trans rfl
                                      have hcz69_5 : wc.cell? ⟨gb225, 5, none⟩ = some (.int .i64 a0_5) := (blk_cell BK225.out 5).trans rfl
                                      have hcz69_6 : wc.cell? ⟨gb225, 6, none⟩ = some (.int .i64 a0_6) := (blk_cell BK225.out 6).trans rfl
                                      have hcz69_7 : wc.cell? ⟨gb225, 7, none⟩ = some (.int .i64 a0_7) := (blk_cell BK225.out 7).trans rfl
                                      have hcz69_8 : wc.cell? ⟨gb225, 8, none⟩ = some (.int .i64 a0_8) := (blk_cell BK225.out 8).trans rfl
                                      have hcz69_9 : wc.cell? ⟨gb225, 9, none⟩ = some (.int .i64 a0_9) := (blk_cell BK225.out 9).trans rfl
                                      have hcz69_10 : wc.cell? ⟨gb225, 10, none⟩ = some (.int .i64 a0_10) := (blk_cell BK225.out 10).trans rfl
                                      have hfz69_0 := blk_frozen BK225.out 0
                                      have hfz69_1 := blk_frozen BK225.out 1
                                      have hfz69_2 := blk_frozen BK225.out 2
                                      have hfz69_3 := blk_frozen BK225.out 3
                                      have hfz69_4 := blk_frozen BK225.out 4
                                      have hfz69_5 := blk_frozen BK225.out 5
                                      have hfz69_6 := blk_frozen BK225.out 6
                                      have hfz69_7 := blk_frozen BK225.out 7
                                      have hfz69_8 := blk_frozen BK225.out 8
                                      have hfz69_9 := blk_frozen BK225.out 9
                                      have hfz69_10 := blk_frozen BK225.out 10
                                      go_wp2_with (first | ((with_reducible refine gate_callee (f := 66) rfl ?_); refine goesL_ (some 120) rfl rfl Try.func66 (by kernel_rfl) rfl #[.int .i64 a0_6, .int .i64 0, .int .i64 2147483646] rfl (by (try simp only [List.map_toArray, List.map_cons, List.map_nil]); first | done | rfl | (simp only [List.length_drop, List.length_take]; rfl)) ?_; (with_reducible refine (storagebarterref15_in.calls a0_6 0 2147483646 true _ A63.out).mono ?_); rintro e w' ⟨rfl, ⟨nd, rfl⟩⟩; refine ⟨_, rfl, ?_⟩) | (go_at_call 66; (with_reducible refine (storagebarterref15_in.calls a0_7 0 4294967293 true _ A65.out).mono ?_); rintro e w' ⟨rfl, ⟨nd, rfl⟩⟩))
                                      go_ret
                                      exact ⟨by first | rfl | (simp [errW_none, errW_some] <;> rfl) | (simp [*, errW_none, errW_some] <;> rfl), by repeat (first | (with_reducible first | exact HB.out | apply below_alloc | apply pw_below_drewN | apply below_drew1 | refine below_set ?_ GE225.out) | exact HB.out)⟩
                                  · replace c66 := Bool.eq_false_iff.mpr c66
                                    subst c66
                                    rw [if_neg (show ¬ (false = true) by decide)] at H
                                    obtain rfl := Option.some.inj H
                                    have hcz70_0 : wc.cell? ⟨gb225, 0, none⟩ = some (.int .i64 a0_0) := (blk_cell BK225.out 0).trans rfl
                                    have hcz70_1 : wc.cell? ⟨gb225, 1, none⟩ = some (.int .i64 a0_1) := (blk_cell BK225.out 1).trans rfl
                                    have hcz70_2 : wc.cell? ⟨gb225, 2, none⟩ = some (.int .i64 a0_2) := (blk_cell BK225.out 2).trans rfl
                                    have hcz70_3 : wc.cell? ⟨gb225, 3, none⟩ = some (.int .i64 a0_3) := (blk_cell BK225.out 3).trans rfl
                                    have hcz70_4 : wc.cell? ⟨gb225, 4, none⟩ = some (.int .i64 a0_4) := (blk_cell BK225.out 4).trans rfl
                                    have hcz70_5 : wc.cell? ⟨gb225, 5, none⟩ = some (.int .i64 a0_5) := (blk_cell BK225.out 5).trans rfl
                                    have hcz70_6 : wc.cell? ⟨gb225, 6, none⟩ = some (.int .i64 a0_6) := (blk_cell BK225.out 6).trans rfl
                                    have hcz70_7 : wc.cell? ⟨gb225, 7, none⟩ = some (.int .i64 a0_7) := (blk_cell BK225.out 7).trans rfl
                                    have hcz70_8 : wc.cell? ⟨gb225, 8, none⟩ = some (.int .i64 a0_8) := (blk_cell BK225.out 8).trans rfl
                                    have hcz70_9 : wc.cell? ⟨gb225, 9, none⟩ = some (.int .i64 a0_9) := (blk_cell BK225.out 9).trans rfl
                                    have hcz70_10 : wc.cell? ⟨gb225, 10, none⟩ = some (.int .i64 a0_10) := (blk_cell BK225.out 10).trans rfl
                                    have hfz70_0 := blk_frozen BK225.out 0
                                    have hfz70_1 := blk_frozen BK225.out 1
                                    have hfz70_2 := blk_frozen BK225.out 2
                                    have hfz70_3 := blk_frozen BK225.out 3
                                    have hfz70_4 := blk_frozen BK225.out 4
                                    have hfz70_5 := blk_frozen BK225.out 5
                                    have hfz70_6 := blk_frozen BK225.out 6
                                    have hfz70_7 := blk_frozen BK225.out 7
                                    have hfz70_8 := blk_frozen BK225.out 8
                                    have hfz70_9 := blk_frozen BK225.out 9
                                    have hfz70_10 := blk_frozen BK225.out 10
                                    go_wp2_with (first | ((with_reducible refine gate_callee (f := 66) rfl ?_); refine goesL_ (some 120) rfl rfl Try.func66 (by kernel_rfl) rfl #[.int .i64 a0_6, .int .i64 0, .int .i64 2147483646] rfl (by (try simp only [List.map_toArray, List.map_cons, List.map_nil]); first | done | rfl | (simp only [List.length_drop, List.length_take]; rfl)) ?_; (with_reducible refine (storagebarterref15_in.calls a0_6 0 2147483646 true _ A63.out).mono ?_); rintro e w' ⟨rfl, ⟨nd, rfl⟩⟩; refine ⟨_, rfl, ?_⟩) | (go_at_call 66; (with_reducible refine (storagebarterref15_in.calls a0_7 0 4294967293 false _ A65.out).mono ?_); rintro e w' ⟨rfl, ⟨nd, rfl⟩⟩))
                                    go_ret
                                    exact ⟨by first | rfl | (simp [errW_none, errW_some] <;> rfl) | (simp [*, errW_none, errW_some] <;> rfl), by repeat (first | (with_reducible first | exact HB.out | apply below_alloc | apply pw_below_drewN | apply below_drew1 | refine below_set ?_ GE225.out) | exact HB.out)⟩
                                · replace c64 := Bool.eq_false_iff.mpr c64
                                  subst c64
                                  rw [if_neg (show ¬ (false = true) by decide)] at H
                                  obtain rfl := Option.some.inj H
                                  have hcz71_0 : wc.cell? ⟨gb225, 0, none⟩ = some (.int .i64 a0_0) := (blk_cell BK225.out 0).trans rfl
                                  have hcz71_1 : wc.cell? ⟨gb225, 1, none⟩ = some (.int .i64 a0_1) := (blk_cell BK225.out 1).trans rfl
                                  have hcz71_2 : wc.cell? ⟨gb225, 2, none⟩ = some (.int .i64 a0_2) := (blk_cell BK225.out 2).trans rfl
                                  have hcz71_3 : wc.cell? ⟨gb225, 3, none⟩ = some (.int .i64 a0_3) := (blk_cell BK225.out 3).trans rfl
                                  have hcz71_4 : wc.cell? ⟨gb225, 4, none⟩ = some (.int .i64 a0_4) := (blk_cell BK225.out 4).trans rfl
                                  have hcz71_5 : wc.cell? ⟨gb225, 5, none⟩ = some (.int .i64 a0_5) := (blk_cell BK225.out 5).trans rfl
                                  have hcz71_6 : wc.cell? ⟨gb225, 6, none⟩ = some (.int .i64 a0_6) := (blk_cell BK225.out 6).trans rfl
                                  have hcz71_7 : wc.cell? ⟨gb225, 7, none⟩ = some (.int .i64 a0_7) := (blk_cell BK225.out 7).trans rfl
                                  have hcz71_8 : wc.cell? ⟨gb225, 8, none⟩ = some (.int .i64 a0_8) := (blk_cell BK225.out 8).trans rfl
                                  have hcz71_9 : wc.cell? ⟨gb225, 9, none⟩ = some (.int .i64 a0_9) := (blk_cell BK225.out 9).trans rfl
                                  have hcz71_10 : wc.cell? ⟨gb225, 10, none⟩ = some (.int .i64 a0_10) := (blk_cell BK225.out 10).trans rfl
                                  have hfz71_0 := blk_frozen BK225.out 0
                                  have hfz71_1 := blk_frozen BK225.out 1
                                  have hfz71_2 := blk_frozen BK225.out 2
                                  have hfz71_3 := blk_frozen BK225.out 3
                                  have hfz71_4 := blk_frozen BK225.out 4
                                  have hfz71_5 := blk_frozen BK225.out 5
                                  have hfz71_6 := blk_frozen BK225.out 6
                                  have hfz71_7 := blk_frozen BK225.out 7
                                  have hfz71_8 := blk_frozen BK225.out 8
                                  have hfz71_9 := blk_frozen BK225.out 9
                                  have hfz71_10 := blk_frozen BK225.out 10
                                  go_wp2_with (first | ((with_reducible refine gate_callee (f := 66) rfl ?_); refine goesL_ (some 120) rfl rfl Try.func66 (by kernel_rfl) rfl #[.int .i64 a0_6, .int .i64 0, .int .i64 2147483646] rfl (by (try simp only [List.map_toArray, List.map_cons, List.map_nil]); first | done | rfl | (simp only [List.length_drop, List.length_take]; rfl)) ?_; (with_reducible refine (storagebarterref15_in.calls a0_6 0 2147483646 false _ A63.out).mono ?_); rintro e w' ⟨rfl, ⟨nd, rfl⟩⟩; refine ⟨_, rfl, ?_⟩))
                                  go_ret
                                  exact ⟨by first | rfl | (simp [errW_none, errW_some] <;> rfl) | (simp [*, errW_none, errW_some] <;> rfl), by repeat (first | (with_reducible first | exact HB.out | apply below_alloc | apply pw_below_drewN | apply below_drew1 | refine below_set ?_ GE225.out) | exact HB.out)⟩
                              · rw [if_neg c62] at H
                                have c62b0 : (a0_5 == 8) = false := beq_eq_false_iff_ne.mpr c62
                                have c62b1 : (a0_5 != 8) = true := bne_iff_ne.mpr c62
                                obtain rfl := Option.some.inj H
                                go_wp2
                                go_ret
                                exact ⟨by first | rfl | (simp [errW_none, errW_some] <;> rfl) | (simp [*, errW_none, errW_some] <;> rfl), by repeat (first | (with_reducible first | exact HB.out | apply below_alloc | apply pw_below_drewN | apply below_drew1 | refine below_set ?_ GE225.out) | exact HB.out)⟩
end Go.Proofs.Ytcjdnahgffkbdaa.Q
