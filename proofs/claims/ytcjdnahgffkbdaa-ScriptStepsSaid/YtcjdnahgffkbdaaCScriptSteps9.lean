/- ScriptStepsSaid -/
import Derived.Test.YtcjdnahgffkbdaaCScriptSteps8
import Derived.Test.YtcjdnahgffkbdaaCScriptSteps4
import Derived.Test.YtcjdnahgffkbdaaCScriptSteps7
import Derived.Test.YtcjdnahgffkbdaaCScriptSteps5
import Derived.Deep.SlicePairs
import Derived.ProofKit
import Derived.OpenShut
import Derived.SizedLaws
import Derived.Test.YtcjdnahgffkbdaaRows
import Derived.WalkKit
import Derived.ShutString
import Derived.ChangeOld
import Derived.Below
import Derived.Test.YtcjdnahgffkbdaaCScriptSteps1
namespace Go.Proofs.Ytcjdnahgffkbdaa.Sss
open Go Go.RowKit Go.Proofs Go.Proofs.Ytcjdnahgffkbdaa.Gm Go.Proofs.Ytcjdnahgffkbdaa.Spt Go.Proofs.Ytcjdnahgffkbdaa.Sev Go.Proofs.Ytcjdnahgffkbdaa.Sdc Go.Proofs.Ytcjdnahgffkbdaa.Sen Go.Proofs.Ytcjdnahgffkbdaa.Sgt Go.Proofs.Ytcjdnahgffkbdaa.Srt Go.Proofs.Ytcjdnahgffkbdaa.Sri Go.Proofs.Ytcjdnahgffkbdaa.Ssa Go.Proofs.Ytcjdnahgffkbdaa.Spd Go.Proofs.Ytcjdnahgffkbdaa.Spe Go.Proofs.Ytcjdnahgffkbdaa.Sps Go.Proofs.Ytcjdnahgffkbdaa.Slw Go.Proofs.Ytcjdnahgffkbdaa.Son Go.Proofs.Ytcjdnahgffkbdaa.Srx Go.Proofs.Ytcjdnahgffkbdaa.Ssg Go.Proofs.Ytcjdnahgffkbdaa.Srg Go.Proofs.Ytcjdnahgffkbdaa.Srd2 Go.Proofs.Ytcjdnahgffkbdaa.Q Go.Proofs.YtcjdnahgffkbdaaW.PrintWords Go.Proofs.YtcjdnahgffkbdaaW.PrintLast Go.Proofs.YtcjdnahgffkbdaaW.PrintMore
set_option linter.unusedVariables false
def small (x : S28) : Prop := x.f4.size ≤ 100 ∧ x.f5.f2.length ≤ 4
structure OKX (xs : List S28) : Prop where
  len : xs.length ≤ 20
  we : ∀ x ∈ xs, WE x
  sm : ∀ x ∈ xs, small x
theorem OKX.tx {xs : List S28} (h : OKX xs) {x : S28} (hx : x ∈ xs) : x.f4.size ≤ 100 := (h.sm x hx).1
theorem OKX.sy {xs : List S28} (h : OKX xs) {x : S28} (hx : x ∈ xs) : x.f5.f2.length ≤ 4 := (h.sm x hx).2
theorem OKX.ok {xs : List S28} (h : OKX xs) : ∀ x ∈ xs, okE x := fun x hx => ⟨h.we x hx, by have := (h.sm x hx).1; omega, by have := (h.sm x hx).2; omega⟩
theorem putEs_le : ∀ (es : List S28), (∀ x ∈ es, okE x) → (putEs es).length ≤ 60000 * es.length
  | [], _ => by simp [putEs]
  | x :: es, h => by
    have h1 := putEs_le es (fun y hy => h y (List.mem_cons_of_mem _ hy))
    obtain ⟨a, b, c⟩ := h x List.mem_cons_self
    have h2 := putE_len a b c
    unfold putEs at h1 ⊢
    rw [List.flatMap_cons, List.length_append, List.length_cons]
    omega
theorem OKX.scr {xs : List S28} (h : OKX xs) : encR xs = (B (scr xs), 0) ∧ 1 ≤ (scr xs).length ∧ (scr xs).length ≤ 2000000 := by
  have h1 := putEs_le xs h.ok
  have hl := h.len
  have h2 : (putI (xs.length : Int)).length ≤ 10 := putI_len (by omega)
  have h3 : 1 ≤ (putI (xs.length : Int)).length := putI_pos _
  refine ⟨enc_ok (by omega) h.ok, ?_⟩
  unfold Slw.scr
  rw [List.length_append]
  omega
theorem dec_small {l : List UInt8} {xs : List S28} {e : Int} (h : decR l = (xs, e)) : xs.length ≤ 256 ∧ ∀ x ∈ xs, x.f5.f2.length ≤ 256 := by
  by_cases he : e = 0
  · subst he
    have h1 := enc_dec h
    exact ⟨h1.2.1, fun x hx => (h1.2.2 x hx).2.2⟩
  · have hx : xs = [] := by
      unfold decR at h
      dsimp only at h
      split at h
      · exact (Prod.mk.inj h).1.symm
      · split at h
        · exact (Prod.mk.inj h).1.symm
        · exact absurd (Prod.mk.inj h).2.symm he
    subst hx
    exact ⟨Nat.zero_le _, fun x hx => by cases hx⟩
theorem get_small {l : List UInt8} {a b e : Int} {x : S28} (h : getR l a = (x, b, e)) : x.f5.f2.length ≤ 256 := by
  unfold getR at h
  split at h
  · obtain ⟨h1, -⟩ := Prod.mk.inj h
    rw [← h1]
    exact Nat.zero_le _
  · rename_i h0
    have h0 : (rE l a 0).2.2 = 0 := by simpa using h0
    obtain ⟨h1, -⟩ := Prod.mk.inj h
    have h2 := (rE_sp (show rE l a 0 = (x, (rE l a 0).2.1, 0) from by rw [← h1]; exact Prod.ext rfl (Prod.ext rfl h0))).2.2
    exact h2.2.2
theorem rsame_same (xs : List S28) (hl : xs.length ≤ 256) (hs : ∀ x ∈ xs, x.f5.f2.length ≤ 256) : storagebarterref42_Same.f 800 xs xs = some true := by
  obtain ⟨b, h1, h2⟩ := rsame_eq xs xs 256 800 hs (by omega) (by omega) (by omega)
  rw [h1, h2.2 rfl]
theorem one_same2 (x : S28) (h : x.f5.f2.length ≤ 256) : storagebarterref42_One.f 300 x.f0 x.f1 x.f2 x.f3 x.f4 x.f5.f0 x.f5.f1 x.f5.f2 x.f0 x.f1 x.f2 x.f3 x.f4 x.f5.f0 x.f5.f1 x.f5.f2 = some true := by
  obtain ⟨b, h1, h2⟩ := one_eq x x 300 (by omega) (by omega)
  rw [h1, h2.2 rfl]
theorem B_small (t : ByteArray) : ∃ l, t = B l ∧ l.length = t.size := by
  obtain ⟨l, rfl⟩ := exB t
  exact ⟨l, rfl, by rw [B_size]⟩
theorem rgetB_x (tb : ByteArray) (l : List UInt8) (hb_ : tb = B l) (a : Int) (hs : l.length ≤ 17592186044416) (w : World) (x : S28) (b e : Int) (hr : getR l a = (x, b, e)) :
    Calls Try.prog 20 #[.string tb, .int .i64 a] w fun e' w' => ∃ v : Value, e' = .returned (.tuple #[.agg #[.int .i64 x.f0, .int .i64 x.f1, .int .i64 x.f2, .int .i64 x.f3, .string x.f4, .int .i64 x.f5.f0, .int .i64 x.f5.f1, v], .int .i64 b, .int .i64 e]) ∧ Kd.R k64 64 w' w.heap.size (fun _ => True) v x.f5.f2 ∧ Below w.heap.size w w' := by
  subst hb_
  exact rget_x l a hs w x b e hr
theorem decB_x (tb : ByteArray) (l : List UInt8) (hb_ : tb = B l) (hs : l.length ≤ 17592186044416) (w : World) (x : List S28) (e : Int) (hr : decR l = (x, e)) :
    Calls Try.prog 10 #[.string tb] w fun e' w' => ∃ v : Value, e' = .returned (.tuple #[v, .int .i64 e]) ∧ Kd.R k28 28 w' w.heap.size (fun _ => True) v x ∧ Below w.heap.size w w' := by
  subst hb_
  exact dec_x l hs w x e hr
theorem rdecB_x (tb : ByteArray) (l : List UInt8) (hb_ : tb = B l) (hs : l.length ≤ 17592186044416) (w : World) (x : List S28) (e : Int) (hr : decR l = (x, e)) :
    Calls Try.prog 19 #[.string tb] w fun e' w' => ∃ v : Value, e' = .returned (.tuple #[v, .int .i64 e]) ∧ Kd.R k28 28 w' w.heap.size (fun _ => True) v x ∧ Below w.heap.size w w' := by
  subst hb_
  exact rdec_x l hs w x e hr
theorem R_none {α : Type} {d : Kd α} {e : Nat} {w w1 : World} {base : Nat} {ok : Nat → Prop} {u : Value} {xs : List α} (h : d.R e w base ok u xs) (hg : w.grownBy w1 none) : d.R e w1 base ok u xs :=
  Kd.R_mono (Kd.R_move (Kd.R_bound h) (fun k hk => hg.block k hk.2.2.1 (fun he => by cases he))) (fun _ hk => hk.1)
structure TW (w W : World) (A : Option Addr) (c : Nat) (es : List S28) (AR : Option Addr) (cR : Nat) (raw : List S28) (gd : Nat) : Prop where
  hb : Below w.heap.size w W
  ce : Kd.R k28 28 W w.heap.size (fun _ => True) (.slice A es.length c) es
  bd : W.heap[gd]? = some (.cells #[.slice A es.length c, .slice AR raw.length cR, .slice none 0 0] 29 (0, 0))
section
variable {w W W' : World} {A : Option Addr} {c : Nat} {es : List S28} {AR : Option Addr} {cR : Nat} {raw : List S28} {gd : Nat}
theorem TW.below (h : TW w W A c es AR cR raw gd) (hb : Below W.heap.size W W') : TW w W' A c es AR cR raw gd := ⟨below_step h.hb hb, Kd.R_below h.ce hb, blk_below h.bd hb⟩
theorem TW.alloc (h : TW w W A c es AR cR raw gd) (o : Obj) : TW w (W.alloc o) A c es AR cR raw gd := h.below (below_alloc (Below.refl _ _) o)
theorem TW.drew (h : TW w W A c es AR cR raw gd) : TW w W.drew A c es AR cR raw gd := h.below (below_drew1 (Below.refl _ _))
theorem TW.store (h : TW w W A c es AR cR raw gd) {g n cap : Nat} {xs : List Int} (hz : Gzb.RZ 5 W w.heap.size (.slice (some ⟨g, 0, none⟩) n cap) xs) (k : Nat) (x : Int) : TW w (W.setCell ⟨g, k, none⟩ (.int .u8 x)) A c es AR cR raw gd := by
  have hne : some gd ≠ (Value.slice (some ⟨g, 0, none⟩) n cap).ownBlock := Gzb.RZ.ne hz h.bd (by decide)
  have hp := (Gzb.putg hz (k : Int) x).2
  rw [Int.toNat_natCast] at hp
  exact ⟨below_set h.hb (Sbk.rz_ge hz), Gzb.RZ.over h.ce hz (by first | decide | (intro q hq; rcases List.mem_cons.1 hq with h_ | h_; (subst h_; decide); (first | (cases h_; done) | (simp [k28, k26, k64] at h_; first | done | (subst h_; decide))))) hp, blk_far (p := ⟨g, k, none⟩) h.bd (fun e => hne (by rw [e]; rfl)) _⟩
theorem TW.conv (h : TW w W A c es AR cR raw gd) (l : List UInt8) (hl : l.length ≤ 100000000) :
    ∃ g cz w1, (convert 9 23 (.string (B l))).run Try.prog W = .ok (.slice (some ⟨g, 0, none⟩) l.length cz) w1 ∧ Gzb.RZ 5 w1 w.heap.size (.slice (some ⟨g, 0, none⟩) l.length cz) (l.map fun b => (b.toNat : Int)) ∧ TW w w1 A c es AR cR raw gd := by
  obtain ⟨g, cz, w1, h1, h2, h3, h4, h5⟩ := Gzb.conv (P := Try.prog) W (B l) (l.map fun b => (b.toNat : Int)) rfl (by rw [B_size]; simp; omega) 9 23 5 Try.underlying9 Try.underlying23 Try.underlying5 h.hb
  rw [List.length_map] at h1 h2
  exact ⟨g, cz, w1, h1, h2, h3, R_none h.ce h5, blk_grown h.bd h5 (by simp)⟩
theorem row_x (hC : Kd.C k28 w AR raw.length raw) (hcR : raw.length ≤ cR) (hre : OKX raw) (hee : OKX es) (hce : es.length ≤ c) (k : Nat) (hk : k < 3) :
    ∃ (A' : Option Addr) (c' : Nat) (xs : List S28), (∀ W, TW w W A c es AR cR raw gd → W.cell? ⟨gd, k, none⟩ = some (.slice A' xs.length c') ∧ Kd.C k28 W A' xs.length xs) ∧ xs.length ≤ c' ∧ OKX xs := by
  obtain rfl | rfl | rfl : k = 0 ∨ k = 1 ∨ k = 2 := by omega
  · exact ⟨A, c, es, fun W h => ⟨(blk_cell h.bd 0).trans rfl, (Kd.R_reads' h.ce).2.2⟩, hce, hee⟩
  · exact ⟨AR, cR, raw, fun W h => ⟨(blk_cell h.bd 1).trans rfl, Kd.C_below hC h.hb⟩, hcR, hre⟩
  · exact ⟨none, 0, [], fun W h => ⟨(blk_cell h.bd 2).trans rfl, Kd.C_nil _ _⟩, Nat.le_refl _, ⟨by simp, fun x hx => absurd hx (by simp), fun x hx => absurd hx (by simp)⟩⟩
end
theorem str5 {W : World} {g5 : Nat} {t0 t1 t2 t3 t4 : ByteArray} (h : W.heap[g5]? = some (.cells #[.string t0, .string t1, .string t2, .string t3, .string t4] 9 (0, 0))) (hs : t0.size ≤ 2000001 ∧ t1.size ≤ 2000001 ∧ t2.size ≤ 2000001 ∧ t3.size ≤ 2000001 ∧ t4.size ≤ 2000001) (m : Nat) (hm : m < 5) :
    ∃ t : ByteArray, W.cell? ⟨g5, m, none⟩ = some (.string t) ∧ t.size ≤ 2000001 := by
  obtain ⟨s0, s1, s2, s3, s4⟩ := hs
  match m, hm with
  | 0, _ => exact ⟨t0, (blk_cell h 0).trans rfl, s0⟩
  | 1, _ => exact ⟨t1, (blk_cell h 1).trans rfl, s1⟩
  | 2, _ => exact ⟨t2, (blk_cell h 2).trans rfl, s2⟩
  | 3, _ => exact ⟨t3, (blk_cell h 3).trans rfl, s3⟩
  | 4, _ => exact ⟨t4, (blk_cell h 4).trans rfl, s4⟩
theorem int5 {W : World} {gi : Nat} {z0 z1 z2 z3 z4 : Int} (h : W.heap[gi]? = some (.cells #[.int .i64 z0, .int .i64 z1, .int .i64 z2, .int .i64 z3, .int .i64 z4] 3 (0, 0))) (m : Nat) (hm : m < 5) :
    ∃ z : Int, W.cell? ⟨gi, m, none⟩ = some (.int .i64 z) := by
  match m, hm with
  | 0, _ => exact ⟨z0, (blk_cell h 0).trans rfl⟩
  | 1, _ => exact ⟨z1, (blk_cell h 1).trans rfl⟩
  | 2, _ => exact ⟨z2, (blk_cell h 2).trans rfl⟩
  | 3, _ => exact ⟨z3, (blk_cell h 3).trans rfl⟩
  | 4, _ => exact ⟨z4, (blk_cell h 4).trans rfl⟩
set_option maxRecDepth 100000 in
set_option maxHeartbeats 16000000 in
theorem steps_x (A0 : Option Addr) (c0 : Nat) (l0 : List Int) (AR : Option Addr) (cR : Nat) (raw : List S28) (dl : List UInt8) (at_ by_ : Int) (bl : List UInt8) (w : World) (hr : Kd.C (Kd.int .u8) w A0 l0.length l0) (hc : l0.length ≤ c0) (hw : ∀ n ∈ l0, (Lit.int .u8 n).wf = true)
    (hrR : Kd.C k28 w AR raw.length raw) (hcR : raw.length ≤ cR) (hWR : ∀ x ∈ raw, WE x) (hat : I64 at_) (hds : dl.length ≤ 140737488351232) (hbs : bl.length ≤ 140737488351232) :
    Calls Try.prog 6 #[.slice A0 l0.length c0, .slice AR raw.length cR, .string (B dl), .int .i64 at_, .int .u8 by_, .string (B bl)] w fun e w' => e = .returned (.bool true) ∧ Below w.heap.size w w' := by
  have mixed : (Try.prog).follows .mixedOrders = true := by kernel_rfl
  have hu28 := Try.underlying28
  have hu26 := Try.underlying26
  have HR := Aside0.mk hr
  have HC := Aside0.mk hc
  have HW := Aside0.mk hw
  have HRR := Aside0.mk hrR
  have HWR := Aside0.mk hWR
  have HAT := Aside0.mk hat
  have hsd : (B dl).size = dl.length := B_size dl
  have hsb : (B bl).size = bl.length := B_size bl
  clear hr hc hw hrR hWR hat
  by_cases hl5 : 5 < raw.length
  case pos =>
    have d1 : decide (5 < (raw.length : Int)) = true := decide_eq_true (by omega)
    have d1n : decide (5 < raw.length) = true := decide_eq_true hl5
    go_enter Try.func6, Try.ntmps6
    go_wp2_with (go_at_call 7; go_loud (with_reducible refine (sane_x _).mono ?_); go_loud (rintro e w1 ⟨rfl, hb⟩; have HB := Aside0.mk hb; clear hb))
    go_ret
    exact ⟨rfl, HB.out⟩
  case neg =>
  have d1 : decide (5 < (raw.length : Int)) = false := decide_eq_false (by omega)
  have d1n : decide (5 < raw.length) = false := decide_eq_false hl5
  by_cases hbig : 200 < dl.length
  case pos =>
    have d2 : decide (200 < (dl.length : Int)) = true := decide_eq_true (by omega)
    have d2n : decide (200 < dl.length) = true := decide_eq_true hbig
    go_enter Try.func6, Try.ntmps6
    go_wp2_with (go_at_call 7; go_loud (with_reducible refine (sane_x _).mono ?_); go_loud (rintro e w1 ⟨rfl, hb⟩; have HB := Aside0.mk hb; clear hb))
    go_ret
    exact ⟨rfl, HB.out⟩
  case neg =>
  have d2 : decide (200 < (dl.length : Int)) = false := decide_eq_false (by omega)
  have d2n : decide (200 < dl.length) = false := decide_eq_false hbig
  by_cases hbig2 : 50 < bl.length
  case pos =>
    have d3 : decide (50 < (bl.length : Int)) = true := decide_eq_true (by omega)
    have d3n : decide (50 < bl.length) = true := decide_eq_true hbig2
    go_enter Try.func6, Try.ntmps6
    go_wp2_with (go_at_call 7; go_loud (with_reducible refine (sane_x _).mono ?_); go_loud (rintro e w1 ⟨rfl, hb⟩; have HB := Aside0.mk hb; clear hb))
    go_ret
    exact ⟨rfl, HB.out⟩
  case neg =>
  have d3 : decide (50 < (bl.length : Int)) = false := decide_eq_false (by omega)
  have d3n : decide (50 < bl.length) = false := decide_eq_false hbig2
  go_enter Try.func6, Try.ntmps6
  go_wp2_with (go_at_call 7; go_loud (with_reducible refine (sane_x _).mono ?_); go_loud (rintro e w1 ⟨rfl, hb⟩; have HB := Aside0.mk hb; clear hb))
  clear d1 d2 d3 d1n d2n d3n
  go_loopw [61] (fun s61 wr => ∃ i : Nat, i ≤ raw.length ∧ s61 = .int .i64 i ∧ Aside0 (Below w.heap.size w wr) ∧ Aside0 (∀ x ∈ raw.take i, small x)) (fun s61 _ => raw.length - (intOf s61).toNat)
  case atStart => exact ⟨0, by omega, rfl, HB, ⟨fun x hx => by simp at hx⟩⟩
  case round =>
    clear HB
    obtain ⟨i, hi, rfl, HB, HS⟩ := hrel
    by_cases hil : i < raw.length
    case pos =>
      have hili : (i : Int) < (raw.length : Int) := by omega
      obtain ⟨x, hxk⟩ : ∃ x, x = raw[i] := ⟨_, rfl⟩
      obtain ⟨ad, A7, c7, ead, hx0, hx1, hx2, hx3, hx4, hx5, hx6, hx7, hl7, hi7⟩ := at_T28 (Kd.C_below HRR.out HB.out) (i : Int) (by omega) (by omega)
      cases ead
      rw [show rd_T28 raw (i : Int) = x by rw [hxk]; simp [rd_T28, List.getD, hil]] at hx0 hx1 hx2 hx3 hx4 hx5 hx6 hx7 hl7 hi7
      simp only [Int.toNat_natCast] at hx0 hx1 hx2 hx3 hx4 hx5 hx6 hx7
      clear hi7
      have HXK := Lib.hid hxk
      clear hxk
      obtain ⟨x0, x1, x2, x3, x4, ⟨x5, x6, ss⟩⟩ := x
      dsimp only at hx0 hx1 hx2 hx3 hx4 hx5 hx6 hx7 hl7
      by_cases h100 : 100 < x4.size
      case pos =>
        have d1 : decide (100 < (x4.size : Int)) = true := decide_eq_true (by omega)
        have d1n : decide (100 < x4.size) = true := decide_eq_true h100
        go_wp2
        go_ret
        exact ⟨rfl, below_alloc HB.out _⟩
      case neg =>
      have d1 : decide (100 < (x4.size : Int)) = false := decide_eq_false (by omega)
      have d1n : decide (100 < x4.size) = false := decide_eq_false h100
      by_cases h4 : 4 < ss.length
      case pos =>
        have d2 : decide (4 < (ss.length : Int)) = true := decide_eq_true (by omega)
        have d2n : decide (4 < ss.length) = true := decide_eq_true h4
        go_wp2
        go_ret
        exact ⟨rfl, below_alloc HB.out _⟩
      case neg =>
      have d2 : decide (4 < (ss.length : Int)) = false := decide_eq_false (by omega)
      have d2n : decide (4 < ss.length) = false := decide_eq_false h4
      have HS2 : Aside0 (∀ x ∈ raw.take (i + 1), small x) := ⟨fun x hx => by
        rw [List.take_succ_eq_append_getElem hil] at hx
        rcases List.mem_append.1 hx with h | h
        · exact HS.out x h
        · rw [List.mem_singleton.1 h, ← HXK.out]
          exact ⟨by show x4.size ≤ 100; omega, by show ss.length ≤ 4; omega⟩⟩
      have hi1 : i + 1 ≤ raw.length := by omega
      go_wp2
      go_roundw
      case rel => first | exact ⟨i + 1, hi1, by go_num, ⟨below_alloc HB.out _⟩, HS2⟩ | ((repeat apply Exists.intro); exact ⟨⟨i + 1, hi1, by go_num, ⟨below_alloc HB.out _⟩, HS2⟩, rfl⟩)
      case measure => simp only [intOf]; omega
    case neg =>
    have hil2 : i = raw.length := by omega
    subst hil2
    have HRE : Aside0 (OKX raw) := ⟨⟨by omega, HWR.out, fun x hx => HS.out x (by rw [List.take_length]; exact hx)⟩⟩
    clear HS hi
    go_upto_region 13 with (first | (go_at_call 12; go_loud (with_reducible refine (new_x A0 c0 l0 w _ HB.out HR.out HC.out HW.out).mono ?_); go_loud (rintro e w2 ⟨g, L, rfl, hd⟩; have HD := Aside0.mk hd; clear HB hd)) | (go_at_call 13; go_loud (with_reducible refine (Sjn.evr_x HD.out 6 (by decide)).mono ?_); go_loud (rintro e w3 ⟨A, c, es, rfl, hR, hok, hl, hb⟩; have HE := Aside0.mk hR; have HO := Aside0.mk hok; have HL := Aside0.mk hl.2; have HB := Aside0.mk hb; clear HD hR hok hl hb)))
    have HEE : Aside0 (OKX es) := ⟨⟨HL.out, fun x hx => (HO.out x hx).we, fun x hx => ⟨by have := (HO.out x hx).tx; omega, by have := (HO.out x hx).sy; omega⟩⟩⟩
    have hce : es.length ≤ c := (Kd.R_reads' HE.out).2.1
    go_wp2
    have HT : Aside0 (TW w (w3.alloc (.cells #[.slice A es.length c, .slice AR raw.length cR, .slice none 0 0] 29)) A c es AR cR raw w3.heap.size) := ⟨⟨below_alloc HB.out _, Kd.R_below HE.out (below_alloc (Below.refl _ _) _), heap_alloc_new w3 _⟩⟩
    obtain ⟨W8, hW8⟩ : ∃ W8, W8 = w3.alloc (.cells #[.slice A es.length c, .slice AR raw.length cR, .slice none 0 0] 29) := ⟨_, rfl⟩
    rw [← hW8] at HT ⊢
    obtain ⟨gd, hgd⟩ : ∃ g, w3.heap.size = g := ⟨_, rfl⟩
    rw [hgd] at HT ⊢
    clear hW8 hgd HB HE HO HL
    go_loopw [85] (fun s85 wr => ∃ k : Nat, k ≤ 3 ∧ s85 = .int .i64 k ∧ Aside0 (TW w wr A c es AR cR raw gd)) (fun s85 _ => 3 - (intOf s85).toNat)
    case atStart => exact ⟨0, by omega, rfl, HT⟩
    case round =>
      clear HT
      obtain ⟨k, hk3, rfl, HT⟩ := hrel
      by_cases hk : k = 3
      case pos =>
        subst hk
        go_wp2
        go_ret
        exact ⟨rfl, HT.out.hb⟩
      case neg =>
      have hklt : k < 3 := by omega
      have hki : (k : Int) < 3 := by omega
      obtain ⟨A', c', xs, hrow, hcx, hok⟩ := row_x (A := A) (gd := gd) HRR.out hcR HRE.out HEE.out hce k hklt
      have HXC := Aside0.mk hrow
      have HOK := Aside0.mk hok
      clear hrow hok
      have hcell := (HXC.out _ HT.out).1
      have hgl := blk_lt HT.out.bd
      obtain ⟨vl, hvl⟩ : ∃ v, scr xs = v := ⟨_, rfl⟩
      have HEN : Aside0 (encR xs = (B vl, 0) ∧ 1 ≤ vl.length ∧ vl.length ≤ 2000000) := ⟨by rw [← hvl]; exact HOK.out.scr⟩
      clear hvl
      have HREN : Aside0 (storagebarterref42_Encode.f 700 xs = some (B vl, 0)) := ⟨by rw [renc_eq xs HOK.out.we 700 (by omega), HEN.out.1]⟩
      obtain ⟨bb, hbb1, hbb2⟩ := rsame_eq xs es 4 800 (fun x hx => HOK.out.sy hx) (by omega) (by have := HOK.out.len; omega) (by have := HOK.out.len; omega)
      have HBB := Aside0.mk hbb1
      have HBI := Aside0.mk hbb2
      clear hbb1 hbb2
      have hbne : (bb != bb) = false := by cases bb <;> rfl
      have hsv : (B vl).size = vl.length := B_size vl
      go_upto_region 20 with (first | (go_at_call 8; go_loud (with_reducible refine (enc_x A' c' xs _ (HXC.out _ HT.out).2 hcx HOK.out.we _ _ HEN.out.1).mono ?_); go_loud (rintro e w4 ⟨rfl, hb⟩; have n_ := Aside0.mk (HT.out.below hb); clear HT hb; have HT := n_; clear n_)) | (go_at_call 9; go_loud (with_reducible refine (storagebarterref42_Encode.calls 700 A' c' xs _ _ _ (HXC.out _ HT.out).2 hcx HREN.out).mono ?_); go_loud (rintro e w5 ⟨rfl, hb⟩; have n_ := Aside0.mk (HT.out.below hb); clear HT hb; have HT := n_; clear n_)) | (go_at_call 17; go_loud (with_reducible refine (same_g A' A c' c xs es _ (HXC.out _ HT.out).2 (Kd.R_reads' HT.out.ce).2.2 (by have := HOK.out.len; omega) (fun x hx => by have := HOK.out.sy hx; omega) bb HBI.out).mono ?_); go_loud (rintro e w6 ⟨rfl, hb⟩; have n_ := Aside0.mk (HT.out.below hb); clear HT hb; have HT := n_; clear n_)) | (go_at_call 11; go_loud (with_reducible refine (storagebarterref42_Same.calls 800 A' c' xs A c es bb _ (HXC.out _ HT.out).2 hcx (Kd.R_reads' HT.out.ce).2.2 hce HBB.out).mono ?_); go_loud (rintro e w7 ⟨rfl, hb⟩; have n_ := Aside0.mk (HT.out.below hb); clear HT hb; have HT := n_; clear n_)))
      have hcz := HT.out.conv vl (by have := HEN.out.2.2; omega)
      clear HT
      obtain ⟨g, cz, wz, hcv, hz, ht⟩ := hcz
      have HZ := Aside0.mk hz
      have HT := Aside0.mk ht
      clear hz ht
      have d7 : decide (0 < (vl.length : Int)) = true := decide_eq_true (by have := HEN.out.2.1; omega)
      have d7n : decide (0 < vl.length) = true := decide_eq_true (by have := HEN.out.2.1; omega)
      go_upto_region 23 with (go_at_call 18; go_loud (with_reducible refine (mod_x at_ vl.length HAT.out (by have := HEN.out.2; omega) _).mono ?_); go_loud (rintro e w8 ⟨k2, rfl, hkz, hb⟩; have n1_ := Aside0.mk (Gzb.RZ.below HZ.out hb); have n2_ := Aside0.mk (HT.out.below hb); clear HZ HT hb; have HZ := n1_; have HT := n2_; clear n1_ n2_; have hki2 : (k2 : Int) < (vl.length : Int) := (by omega); have hce_ := (Gzb.cell HZ.out (k2 : Int) (by omega) (by omega)).1; have hcf_ := (Gzb.cell HZ.out (k2 : Int) (by omega) (by omega)).2; rw [Int.toNat_natCast] at hce_ hcf_))
      have HZ2 : Aside0 (Gzb.RZ 5 (w8.setCell ⟨g, k2, none⟩ (.int .u8 by_)) w.heap.size (.slice (some ⟨g, 0, none⟩) vl.length cz) ((List.map (fun b : UInt8 => (b.toNat : Int)) vl).set k2 by_)) := ⟨(Gzb.putg HZ.out (k2 : Int) by_).1⟩
      have HT2 : Aside0 (TW w (w8.setCell ⟨g, k2, none⟩ (.int .u8 by_)) A c es AR cR raw gd) := ⟨HT.out.store HZ.out k2 by_⟩
      obtain ⟨W9, hW9⟩ : ∃ W9, W9 = w8.setCell ⟨g, k2, none⟩ (.int .u8 by_) := ⟨_, rfl⟩
      rw [← hW9] at HZ2 HT2 ⊢
      clear hW9 hce_ hcf_ HZ HT hcv hkz
      have hst := Gzb.str (P := Try.prog) (src := 23) (dst := 9) Try.underlying23 Try.underlying5 Try.underlying9 (Gzb.RZ.below HZ2.out (below_drew1 (Below.refl _ _)))
      obtain ⟨t1, ht1⟩ : ∃ t, strOfNums ((List.map (fun b : UInt8 => (b.toNat : Int)) vl).set k2 by_) = t := ⟨_, rfl⟩
      have hs1 : t1.size ≤ 2000000 := by
        have h2 := HEN.out.2.2
        rw [← ht1]
        unfold strOfNums
        show (List.map _ _).toArray.size ≤ _
        simp only [List.size_toArray, List.length_map, List.length_set]
        exact h2
      rw [ht1] at hst
      clear ht1 HZ2
      obtain ⟨nh, hnh⟩ : ∃ nh, vl.length / 2 = nh := ⟨_, rfl⟩
      have hq1 : Int.tdiv (vl.length : Int) 2 = (nh : Int) := by rw [← hnh]; exact (Int.ofNat_tdiv vl.length 2).symm
      have hq2 : IntKind.i64.wrap (nh : Int) = (nh : Int) := IntWalk.i64_in _ (by have := HEN.out.2.2; omega)
      have hq3 : nh ≤ vl.length := by omega
      have hq4 : (nh : Int) ≤ (vl.length : Int) := by omega
      have hx1 : (⟨#[120]⟩ : ByteArray).size = 1 := rfl
      have hvb := HEN.out.2.2
      have hj1 : ¬ (9223372036854775807 : Int) < (vl.length : Int) + 1 := by omega
      have hj2 : (vl.length : Int) + 1 ≤ (9223372036854775807 : Int) := by omega
      have hj3 : vl.length + 1 ≤ 9223372036854775807 := by omega
      have hj4 : ¬ 9223372036854775807 < vl.length + 1 := by omega
      have hj5 : ¬ 9223372036854775807 ≤ vl.length := by omega
      have hj6 : vl.length ≤ 9223372036854775806 := by omega
      clear hvb
      go_region
      obtain ⟨t3, ht3⟩ : ∃ t, t = B vl ++ (⟨#[120]⟩ : ByteArray) := ⟨_, rfl⟩
      obtain ⟨t4, ht4⟩ : ∃ t, t = (B vl).extract 0 nh := ⟨_, rfl⟩
      have HTS : Aside0 ((B vl).size ≤ 2000001 ∧ t1.size ≤ 2000001 ∧ (B dl).size ≤ 2000001 ∧ t3.size ≤ 2000001 ∧ t4.size ≤ 2000001) := ⟨by
        have h2 := HEN.out.2.2
        refine ⟨by omega, by omega, by omega, ?_, ?_⟩
        · rw [ht3, ByteArray.size_append, hx1]; omega
        · rw [ht4, ByteArray.size_extract]; omega⟩
      rw [← ht3, ← ht4]
      have HT3 : Aside0 (TW w (W9.alloc (.cells #[.string (B vl), .string t1, .string (B dl), .string t3, .string t4] 9)).drew A c es AR cR raw gd) := ⟨(HT2.out.alloc _).drew⟩
      have H5 : Aside0 ((W9.alloc (.cells #[.string (B vl), .string t1, .string (B dl), .string t3, .string t4] 9)).drew.heap[W9.heap.size]? = some (.cells #[.string (B vl), .string t1, .string (B dl), .string t3, .string t4] 9 (0, 0))) := ⟨blk_drew (heap_alloc_new W9 _)⟩
      obtain ⟨W5, hW5⟩ : ∃ W5, W5 = (W9.alloc (.cells #[.string (B vl), .string t1, .string (B dl), .string t3, .string t4] 9)).drew := ⟨_, rfl⟩
      rw [← hW5] at HT3 H5 ⊢
      obtain ⟨g5, hg5⟩ : ∃ g, W9.heap.size = g := ⟨_, rfl⟩
      rw [hg5] at H5 ⊢
      clear hW5 hg5 HT2 hst ht3 ht4 hq1 hq2 hq3 hq4 hj1 hj2 hj3 hj4 hj5 hj6 hx1 hs1 hnh d7 d7n hcell hsv
      go_wp2
      go_loopw [141] (fun s141 wr => ∃ m : Nat, m ≤ 5 ∧ s141 = .int .i64 m ∧ Aside0 (TW w wr A c es AR cR raw gd) ∧ Aside0 (wr.heap[g5]? = some (.cells #[.string (B vl), .string t1, .string (B dl), .string t3, .string t4] 9 (0, 0)))) (fun s141 _ => 5 - (intOf s141).toNat)
      case atStart => exact ⟨0, by omega, rfl, HT3, H5⟩
      case round =>
        clear HT3 H5
        obtain ⟨m, hm, rfl, HT, H5⟩ := hrel
        have hgl := blk_lt HT.out.bd
        by_cases hm5 : m = 5
        case pos =>
          subst hm5
          clear H5
          have hxl := HOK.out.len
          go_wp2
          go_loopw [205] (fun s205 wr => ∃ i : Nat, i ≤ xs.length ∧ s205 = .int .i64 i ∧ Aside0 (TW w wr A c es AR cR raw gd)) (fun s205 _ => xs.length - (intOf s205).toNat)
          case atStart => exact ⟨0, by omega, rfl, HT⟩
          case round =>
            clear HT
            obtain ⟨i, hi, rfl, HT⟩ := hrel
            by_cases hix : i < xs.length
            case neg =>
              obtain rfl : i = xs.length := by omega
              go_wp2
              go_roundw
              case rel => first | exact ⟨k + 1, by omega, by go_num, HT⟩ | ((repeat apply Exists.intro); exact ⟨⟨k + 1, by omega, by go_num, HT⟩, rfl⟩)
              case measure => simp only [intOf]; omega
            case pos =>
            have hixi : (i : Int) < (xs.length : Int) := by omega
            have hgl := blk_lt HT.out.bd
            obtain ⟨x, hxk⟩ : ∃ x, x = xs[i] := ⟨_, rfl⟩
            obtain ⟨ad, A7, c7, ead, hx0, hx1, hx2, hx3, hx4, hx5, hx6, hx7, hl7, hi7⟩ := at_T28 (HXC.out _ HT.out).2 (i : Int) (by omega) (by omega)
            cases ead
            rw [show rd_T28 xs (i : Int) = x by rw [hxk]; simp [rd_T28, List.getD, hix]] at hx0 hx1 hx2 hx3 hx4 hx5 hx6 hx7 hl7 hi7
            simp only [Int.toNat_natCast] at hx0 hx1 hx2 hx3 hx4 hx5 hx6 hx7
            have hxm : x ∈ xs := by rw [hxk]; exact List.getElem_mem hix
            have HWE := Aside0.mk (HOK.out.we x hxm)
            have HTX := Aside0.mk (HOK.out.tx hxm)
            have HSY := Aside0.mk (HOK.out.sy hxm)
            clear hxm hxk
            obtain ⟨x0, x1, x2, x3, x4, ⟨x5, x6, ss⟩⟩ := x
            obtain ⟨tl, rfl⟩ := exB x4
            dsimp only at hx0 hx1 hx2 hx3 hx4 hx5 hx6 hx7 hl7 hi7
            have HI7 := Aside0.mk hi7
            clear hi7
            rcases hp : putR bl ⟨x0, x1, x2, x3, B tl, ⟨x5, x6, ss⟩⟩ with ⟨tp, ep⟩
            have HP := Aside0.mk hp
            have HRP : Aside0 (storagebarterref42_Put.f 300 (B bl) x0 x1 x2 x3 (B tl) x5 x6 ss = some (tp, ep)) := ⟨by rw [← HP.out]; exact rput_eq bl ⟨x0, x1, x2, x3, B tl, ⟨x5, x6, ss⟩⟩ HWE.out (by omega) 300 (Nat.le_refl _)⟩
            have HCK1 : Aside0 (script_Check.f x0 x1 x2 x3 (B tl) x5 x6 ss = some 0) := ⟨by have h1 : (B tl).size ≤ 100 := HTX.out; have h2 : ss.length ≤ 4 := HSY.out; unfold script_Check.f; rw [if_neg (by omega), if_neg (by omega)]⟩
            have HCK2 : Aside0 (storagebarterref42_Check.f x0 x1 x2 x3 (B tl) x5 x6 ss = some 0) := ⟨by have h1 : (B tl).size ≤ 100 := HTX.out; have h2 : ss.length ≤ 4 := HSY.out; unfold storagebarterref42_Check.f; rw [if_neg (by omega), if_neg (by omega)]⟩
            clear hp HTX HSY
            go_upto_region 44 with (first | (go_at_call 14; go_loud (with_reducible refine (put_x bl x0 x1 x2 x3 tl x5 x6 A7 c7 ss _ (Kd.C_below HI7.out (below_alloc (Below.refl wr.heap.size wr) (.cells #[.int .i64 x0, .int .i64 x1, .int .i64 x2, .int .i64 x3, .string (B tl), .int .i64 x5, .int .i64 x6, .slice A7 ss.length c7] 28))) hl7 HWE.out (by omega) _ _ HP.out).mono ?_); go_loud (rintro e w15 ⟨rfl, hb⟩; have HN := Aside0.mk (blk_below (heap_alloc_new wr (.cells #[.int .i64 x0, .int .i64 x1, .int .i64 x2, .int .i64 x3, .string (B tl), .int .i64 x5, .int .i64 x6, .slice A7 ss.length c7] 28)) hb); have HBW := Aside0.mk (below_step (below_alloc (Below.refl wr.heap.size wr) (.cells #[.int .i64 x0, .int .i64 x1, .int .i64 x2, .int .i64 x3, .string (B tl), .int .i64 x5, .int .i64 x6, .slice A7 ss.length c7] 28)) hb); have n_ := Aside0.mk (HT.out.below HBW.out); have nc_ := Aside0.mk (Kd.C_below HI7.out HBW.out); clear HT HI7 HBW hb; have HT := n_; have HI7 := nc_; clear n_ nc_; have q39_0 : w15.cell? ⟨wr.heap.size, 0, none⟩ = some (.int .i64 x0) := (blk_cell HN.out 0).trans rfl; have q39_1 : w15.cell? ⟨wr.heap.size, 1, none⟩ = some (.int .i64 x1) := (blk_cell HN.out 1).trans rfl; have q39_2 : w15.cell? ⟨wr.heap.size, 2, none⟩ = some (.int .i64 x2) := (blk_cell HN.out 2).trans rfl; have q39_3 : w15.cell? ⟨wr.heap.size, 3, none⟩ = some (.int .i64 x3) := (blk_cell HN.out 3).trans rfl; have q39_4 : w15.cell? ⟨wr.heap.size, 4, none⟩ = some (.string (B tl)) := (blk_cell HN.out 4).trans rfl; have q39_5 : w15.cell? ⟨wr.heap.size, 5, none⟩ = some (.int .i64 x5) := (blk_cell HN.out 5).trans rfl; have q39_6 : w15.cell? ⟨wr.heap.size, 6, none⟩ = some (.int .i64 x6) := (blk_cell HN.out 6).trans rfl; have q39_7 : w15.cell? ⟨wr.heap.size, 7, none⟩ = some (.slice A7 ss.length c7) := (blk_cell HN.out 7).trans rfl; have n39 := blk_lt HN.out)) | (go_at_call 21; go_loud (with_reducible refine (storagebarterref42_Put.calls 300 (B bl) x0 x1 x2 x3 (B tl) x5 x6 A7 c7 ss tp ep _ HI7.out hl7 HRP.out).mono ?_); go_loud (rintro e w16 ⟨rfl, hb⟩; have nn_ := Aside0.mk (blk_below HN.out hb); have n_ := Aside0.mk (HT.out.below hb); have nc_ := Aside0.mk (Kd.C_below HI7.out hb); clear HT HI7 HN hb; have HT := n_; have HI7 := nc_; have HN := nn_; clear n_ nc_ nn_; have q39b_0 : w16.cell? ⟨wr.heap.size, 0, none⟩ = some (.int .i64 x0) := (blk_cell HN.out 0).trans rfl; have q39b_1 : w16.cell? ⟨wr.heap.size, 1, none⟩ = some (.int .i64 x1) := (blk_cell HN.out 1).trans rfl; have q39b_2 : w16.cell? ⟨wr.heap.size, 2, none⟩ = some (.int .i64 x2) := (blk_cell HN.out 2).trans rfl; have q39b_3 : w16.cell? ⟨wr.heap.size, 3, none⟩ = some (.int .i64 x3) := (blk_cell HN.out 3).trans rfl; have q39b_4 : w16.cell? ⟨wr.heap.size, 4, none⟩ = some (.string (B tl)) := (blk_cell HN.out 4).trans rfl; have q39b_5 : w16.cell? ⟨wr.heap.size, 5, none⟩ = some (.int .i64 x5) := (blk_cell HN.out 5).trans rfl; have q39b_6 : w16.cell? ⟨wr.heap.size, 6, none⟩ = some (.int .i64 x6) := (blk_cell HN.out 6).trans rfl; have q39b_7 : w16.cell? ⟨wr.heap.size, 7, none⟩ = some (.slice A7 ss.length c7) := (blk_cell HN.out 7).trans rfl; have n39b := blk_lt HN.out)))
            have qp_0 : ∀ p_ : Gqb.BelowBy w16, p_.world.cell? ⟨wr.heap.size, 0, none⟩ = some (.int .i64 x0) := fun p_ => p_.cell (blk_lt HN.out) ((blk_cell HN.out 0).trans rfl)
            have qp_1 : ∀ p_ : Gqb.BelowBy w16, p_.world.cell? ⟨wr.heap.size, 1, none⟩ = some (.int .i64 x1) := fun p_ => p_.cell (blk_lt HN.out) ((blk_cell HN.out 1).trans rfl)
            have qp_2 : ∀ p_ : Gqb.BelowBy w16, p_.world.cell? ⟨wr.heap.size, 2, none⟩ = some (.int .i64 x2) := fun p_ => p_.cell (blk_lt HN.out) ((blk_cell HN.out 2).trans rfl)
            have qp_3 : ∀ p_ : Gqb.BelowBy w16, p_.world.cell? ⟨wr.heap.size, 3, none⟩ = some (.int .i64 x3) := fun p_ => p_.cell (blk_lt HN.out) ((blk_cell HN.out 3).trans rfl)
            have qp_4 : ∀ p_ : Gqb.BelowBy w16, p_.world.cell? ⟨wr.heap.size, 4, none⟩ = some (.string (B tl)) := fun p_ => p_.cell (blk_lt HN.out) ((blk_cell HN.out 4).trans rfl)
            have qp_5 : ∀ p_ : Gqb.BelowBy w16, p_.world.cell? ⟨wr.heap.size, 5, none⟩ = some (.int .i64 x5) := fun p_ => p_.cell (blk_lt HN.out) ((blk_cell HN.out 5).trans rfl)
            have qp_6 : ∀ p_ : Gqb.BelowBy w16, p_.world.cell? ⟨wr.heap.size, 6, none⟩ = some (.int .i64 x6) := fun p_ => p_.cell (blk_lt HN.out) ((blk_cell HN.out 6).trans rfl)
            have qp_7 : ∀ p_ : Gqb.BelowBy w16, p_.world.cell? ⟨wr.heap.size, 7, none⟩ = some (.slice A7 ss.length c7) := fun p_ => p_.cell (blk_lt HN.out) ((blk_cell HN.out 7).trans rfl)
            clear n39 q39_0 q39_1 q39_2 q39_3 q39_4 q39_5 q39_6 q39_7 q39b_0 q39b_1 q39b_2 q39b_3 q39b_4 q39b_5 q39b_6 q39b_7 hx0 hx1 hx2 hx3 hx4 hx5 hx6 hx7
            refine Gqb.wp_region_below (by kernel_rfl) (by kernel_rfl) ?_
            iterate 10 (refine wpQuiet_step (fun K hK => ?_); go_simp; refine hK _ ?_; clear hK K)
            refine wpQuiet_step (fun K hK => ?_)
            go_simp
            apply Exists.intro
            refine ⟨fun p_ => ?_, hK _ ?_⟩
            · exact p_.calls (script_Check.calls x0 x1 x2 x3 (B tl) x5 x6 A7 c7 ss 0 p_.world (Kd.C_below HI7.out p_.h) hl7 HCK1.out)
            clear hK K
            iterate 1 (refine wpQuiet_step (fun K hK => ?_); go_simp; refine hK _ ?_; clear hK K)
            refine wpQuiet_step (fun K hK => ?_)
            go_simp
            apply Exists.intro
            refine ⟨fun p_ => ?_, hK _ ?_⟩
            · exact p_.calls (storagebarterref42_Check.calls x0 x1 x2 x3 (B tl) x5 x6 A7 c7 ss 0 p_.world (Kd.C_below HI7.out p_.h) hl7 HCK2.out)
            clear hK K
            iterate 2 (refine wpQuiet_step (fun K hK => ?_); go_simp; refine hK _ ?_; clear hK K)
            refine wpQuiet_nil ?_
            intro _ hw'
            obtain ⟨p_, hw2_⟩ := hw'
            subst hw2_
            have n1_ := Aside0.mk (HT.out.below p_.h)
            clear HT HN HI7 qp_0 qp_1 qp_2 qp_3 qp_4 qp_5 qp_6 qp_7 n39b
            have HT := n1_
            clear n1_
            go_wp2_with fail
            go_roundw
            case rel => first | exact ⟨i + 1, by omega, by go_num, HT⟩ | ((repeat apply Exists.intro); exact ⟨⟨i + 1, by omega, by go_num, HT⟩, rfl⟩)
            case measure => first | (simp only [intOf]; omega) | (show xs.length - (intOf (.int .i64 ((i : Int) + 1))).toNat < xs.length - (intOf (.int .i64 (i : Int))).toNat; simp only [intOf]; omega) | (show xs.length - (intOf (.int .i64 (IntKind.i64.wrap ((i : Int) + 1)))).toNat < xs.length - (intOf (.int .i64 (i : Int))).toNat; rw [IntWalk.i64_in _ (by omega)]; simp only [intOf]; omega)
        case neg =>
        have hm4 : m < 5 := by omega
        have hml : (m : Int) < 5 := by omega
        obtain ⟨ty, hty, hsy⟩ := str5 H5.out HTS.out m hm4
        obtain ⟨yl, hyl, hyn⟩ := B_small ty
        have HTY := Aside0.mk hyl
        have HYL : Aside0 (yl.length ≤ 2000001) := ⟨by omega⟩
        rcases hde : decR yl with ⟨es2, e2⟩
        have HDE := Aside0.mk hde
        have HRS2 := Aside0.mk (rsame_same es2 (dec_small hde).1 (dec_small hde).2)
        have hgl5 := blk_lt H5.out
        clear hde hyl hyn
        go_upto_region 30 with (first | (go_at_call 10; go_loud (with_reducible refine (decB_x ty yl HTY.out (by have := HYL.out; omega) _ es2 e2 HDE.out).mono ?_); go_loud (rintro e w9 ⟨v, rfl, hR, hb⟩; obtain ⟨A5, c5, ev⟩ := Kd.R_slice hR; subst ev; have n_ := Aside0.mk (HT.out.below hb); have n5_ := Aside0.mk (blk_below H5.out hb); clear HT H5 hb; have HT := n_; have H5 := n5_; clear n_ n5_; have HF := Aside0.mk (And.intro (Kd.R_reads' hR).2.1 (Kd.R_reads' hR).2.2); clear hR)) | (go_at_call 19; go_loud (with_reducible refine (rdecB_x ty yl HTY.out (by have := HYL.out; omega) _ es2 e2 HDE.out).mono ?_); go_loud (rintro e w10 ⟨v, rfl, hR, hb⟩; obtain ⟨A6, c6, ev⟩ := Kd.R_slice hR; subst ev; have nf_ := Aside0.mk (And.intro HF.out.1 (Kd.C_below HF.out.2 hb)); have n_ := Aside0.mk (HT.out.below hb); have n5_ := Aside0.mk (blk_below H5.out hb); clear HT H5 hb; have HT := n_; have H5 := n5_; clear n_ n5_; clear HF; have HF := nf_; clear nf_; have HF2 := Aside0.mk (And.intro (Kd.R_reads' hR).2.1 (Kd.R_reads' hR).2.2); clear hR)) | (go_at_call 11; go_loud (with_reducible refine (storagebarterref42_Same.calls 800 A5 c5 es2 A6 c6 es2 true _ HF.out.2 HF.out.1 HF2.out.2 HF2.out.1 HRS2.out).mono ?_); go_loud (rintro e w11 ⟨rfl, hb⟩; have n_ := Aside0.mk (HT.out.below hb); have n5_ := Aside0.mk (blk_below H5.out hb); clear HT H5 hb; have HT := n_; have H5 := n5_; clear n_ n5_; clear HF HF2)))
        go_wp2
        have HT3 : Aside0 (TW w (w11.alloc (.cells #[.int .i64 at_, .int .i64 0, .int .i64 1, .int .i64 (ty.size : Int), .int .i64 (-1)] 3)) A c es AR cR raw gd) := ⟨HT.out.alloc _⟩
        have H53 : Aside0 ((w11.alloc (.cells #[.int .i64 at_, .int .i64 0, .int .i64 1, .int .i64 (ty.size : Int), .int .i64 (-1)] 3)).heap[g5]? = some (.cells #[.string (B vl), .string t1, .string (B dl), .string t3, .string t4] 9 (0, 0))) := ⟨blk_alloc H5.out _⟩
        have HI : Aside0 ((w11.alloc (.cells #[.int .i64 at_, .int .i64 0, .int .i64 1, .int .i64 (ty.size : Int), .int .i64 (-1)] 3)).heap[w11.heap.size]? = some (.cells #[.int .i64 at_, .int .i64 0, .int .i64 1, .int .i64 (ty.size : Int), .int .i64 (-1)] 3 (0, 0))) := ⟨heap_alloc_new w11 _⟩
        obtain ⟨W12, hW12⟩ : ∃ W, W = w11.alloc (.cells #[.int .i64 at_, .int .i64 0, .int .i64 1, .int .i64 (ty.size : Int), .int .i64 (-1)] 3) := ⟨_, rfl⟩
        rw [← hW12] at HT3 H53 HI ⊢
        obtain ⟨gi, hgi⟩ : ∃ g, w11.heap.size = g := ⟨_, rfl⟩
        rw [hgi] at HI ⊢
        clear hW12 hgi HT H5
        go_loopw [169] (fun s169 wr => ∃ j : Nat, j ≤ 5 ∧ s169 = .int .i64 j ∧ Aside0 (TW w wr A c es AR cR raw gd) ∧ Aside0 (wr.heap[g5]? = some (.cells #[.string (B vl), .string t1, .string (B dl), .string t3, .string t4] 9 (0, 0))) ∧ Aside0 (wr.heap[gi]? = some (.cells #[.int .i64 at_, .int .i64 0, .int .i64 1, .int .i64 (ty.size : Int), .int .i64 (-1)] 3 (0, 0)))) (fun s169 _ => 5 - (intOf s169).toNat)
        case atStart => exact ⟨0, by omega, rfl, HT3, H53, HI⟩
        case round =>
          clear HT3 H53 HI
          obtain ⟨j, hj, rfl, HT, H5, HI⟩ := hrel
          by_cases hj5 : j = 5
          case pos =>
            subst hj5
            go_wp2
            go_roundw
            case rel => first | exact ⟨m + 1, by omega, by go_num, HT, H5⟩ | ((repeat apply Exists.intro); exact ⟨⟨m + 1, by omega, by go_num, HT, H5⟩, rfl⟩)
            case measure => simp only [intOf]; omega
          case neg =>
          have hj4 : j < 5 := by omega
          have hjl : (j : Int) < 5 := by omega
          obtain ⟨z, hz⟩ := int5 HI.out j hj4
          have hgli := blk_lt HI.out
          rcases hge : getR yl z with ⟨x, b, e⟩
          have HGL := Aside0.mk (get_small hge)
          obtain ⟨x0, x1, x2, x3, x4, ⟨x5, x6, ss⟩⟩ := x
          have HG := Aside0.mk hge
          have HO1 : Aside0 (storagebarterref42_One.f 300 x0 x1 x2 x3 x4 x5 x6 ss x0 x1 x2 x3 x4 x5 x6 ss = some true) := ⟨one_same2 ⟨x0, x1, x2, x3, x4, ⟨x5, x6, ss⟩⟩ HGL.out⟩
          clear hge HGL
          go_wp2_with (first | (go_at_call 15; go_loud (with_reducible refine (Sjn.getB_x ty yl HTY.out z (by have := HYL.out; omega) _ ⟨x0, x1, x2, x3, x4, ⟨x5, x6, ss⟩⟩ b e HG.out).mono ?_); go_loud (rintro e w12 ⟨v, rfl, hR, hb⟩; obtain ⟨AS, cS, ev⟩ := Kd.R_slice hR; subst ev; have HCS := Aside0.mk (And.intro (Kd.R_reads' hR).2.1 (Kd.R_reads' hR).2.2); clear hR; have HBW := Aside0.mk (hb); have n_ := Aside0.mk (HT.out.below HBW.out); have n5_ := Aside0.mk (blk_below H5.out HBW.out); have ni_ := Aside0.mk (blk_below HI.out HBW.out); clear HT H5 HI hb; have HT := n_; have H5 := n5_; have HI := ni_; clear n_ n5_ ni_; clear HBW)) | (go_at_call 20; go_loud (with_reducible refine (rgetB_x ty yl HTY.out z (by have := HYL.out; omega) _ ⟨x0, x1, x2, x3, x4, ⟨x5, x6, ss⟩⟩ b e HG.out).mono ?_); go_loud (rintro e w13 ⟨v, rfl, hR, hb⟩; obtain ⟨AT, cT, ev⟩ := Kd.R_slice hR; subst ev; have HN := Aside0.mk (blk_below (heap_alloc_new w12 (.cells #[.int .i64 x0, .int .i64 x1, .int .i64 x2, .int .i64 x3, .string x4, .int .i64 x5, .int .i64 x6, .slice AS ss.length cS] 28)) hb); have HCT := Aside0.mk (And.intro (Kd.R_reads' hR).2.1 (Kd.R_reads' hR).2.2); clear hR; have HBW := Aside0.mk (below_step (below_alloc (Below.refl w12.heap.size w12) (.cells #[.int .i64 x0, .int .i64 x1, .int .i64 x2, .int .i64 x3, .string x4, .int .i64 x5, .int .i64 x6, .slice AS ss.length cS] 28)) hb); have n_ := Aside0.mk (HT.out.below HBW.out); have n5_ := Aside0.mk (blk_below H5.out HBW.out); have ni_ := Aside0.mk (blk_below HI.out HBW.out); clear HT H5 HI hb; have HT := n_; have H5 := n5_; have HI := ni_; clear n_ n5_ ni_; have nc_ := Aside0.mk (And.intro HCS.out.1 (Kd.C_below HCS.out.2 HBW.out)); clear HCS HBW; have HCS := nc_; clear nc_; have n32 := blk_lt HN.out; have q32_0 : w13.cell? ⟨w12.heap.size, 0, none⟩ = some (.int .i64 x0) := (blk_cell HN.out 0).trans rfl; have q32_1 : w13.cell? ⟨w12.heap.size, 1, none⟩ = some (.int .i64 x1) := (blk_cell HN.out 1).trans rfl; have q32_2 : w13.cell? ⟨w12.heap.size, 2, none⟩ = some (.int .i64 x2) := (blk_cell HN.out 2).trans rfl; have q32_3 : w13.cell? ⟨w12.heap.size, 3, none⟩ = some (.int .i64 x3) := (blk_cell HN.out 3).trans rfl; have q32_4 : w13.cell? ⟨w12.heap.size, 4, none⟩ = some (.string x4) := (blk_cell HN.out 4).trans rfl; have q32_5 : w13.cell? ⟨w12.heap.size, 5, none⟩ = some (.int .i64 x5) := (blk_cell HN.out 5).trans rfl; have q32_6 : w13.cell? ⟨w12.heap.size, 6, none⟩ = some (.int .i64 x6) := (blk_cell HN.out 6).trans rfl; have q32_7 : w13.cell? ⟨w12.heap.size, 7, none⟩ = some (.slice AS ss.length cS) := (blk_cell HN.out 7).trans rfl)) | (go_at_call 16; go_loud (with_reducible refine (storagebarterref42_One.calls 300 x0 x1 x2 x3 x4 x5 x6 AS cS ss x0 x1 x2 x3 x4 x5 x6 AT cT ss true _ (Kd.C_below HCS.out.2 (below_alloc (Below.refl w13.heap.size w13) _)) HCS.out.1 (Kd.C_below HCT.out.2 (below_alloc (Below.refl w13.heap.size w13) _)) HCT.out.1 HO1.out).mono ?_); go_loud (rintro e w14 ⟨rfl, hb⟩; have HBW := Aside0.mk (below_step (below_alloc (Below.refl w13.heap.size w13) (.cells #[.int .i64 x0, .int .i64 x1, .int .i64 x2, .int .i64 x3, .string x4, .int .i64 x5, .int .i64 x6, .slice AT ss.length cT] 28)) hb); have n_ := Aside0.mk (HT.out.below HBW.out); have n5_ := Aside0.mk (blk_below H5.out HBW.out); have ni_ := Aside0.mk (blk_below HI.out HBW.out); clear HT H5 HI hb; have HT := n_; have H5 := n5_; have HI := ni_; clear n_ n5_ ni_)))
          go_roundw
          case rel => first | exact ⟨j + 1, by omega, by go_num, HT, H5, HI⟩ | ((repeat apply Exists.intro); exact ⟨⟨j + 1, by omega, by go_num, HT, H5, HI⟩, rfl⟩)
          case measure => simp only [intOf]; omega
end Go.Proofs.Ytcjdnahgffkbdaa.Sss

namespace Go.Proofs.Ytcjdnahgffkbdaa.Sop
open Go Go.ChangeShapes Go.WideShapes Go.ChangeAt Go.RowKit Go.Proofs.Ytcjdnahgffkbdaa.Gm Go.Proofs.Ytcjdnahgffkbdaa.Spt Go.Proofs.Ytcjdnahgffkbdaa.Snx
set_option linter.unusedVariables false
theorem at_j {cs : List Value} {j m : Nat} {v : Value} (h : (cs.drop j).take m = [v]) : cs[j]? = some v := by
  have h0 : ((cs.drop j).take m)[0]? = some v := by rw [h]; rfl
  rw [List.getElem?_take] at h0
  split at h0
  · rw [List.getElem?_drop] at h0
    simpa using h0
  · cases h0
theorem i64_wf {n : Int} (h : (Lit.int .i64 n).wf = true) : I64 n := by
  have : -9223372036854775808 ≤ n ∧ n ≤ 9223372036854775807 := by simpa [Lit.wf, IntKind.min, IntKind.max, IntKind.signed, IntKind.bits] using h
  exact this
theorem rd_sts {H : Type} {enc : TypeId × Value → H} {W : World} {fuel : Nat} {cs : List Value} {x : DataW H × List MemPlace} (hf : DataW.trod enc Try.prog W 0 (fun _ => true) true fuel 24 cs = some x) :
    ∃ A len cap, ∃ xs : List Q.S64, cs = [.slice A len cap] ∧ xs.length = len ∧ Go.Proofs.YtcjdnahgffkbdaaW.PrintWords.Kd.C Q.k64 W A xs.length xs ∧ xs.length ≤ cap ∧ ∀ p ∈ xs, W11 p := by
  rcases Go.Deep.open_slice Try.underlying24 hf with ⟨hcs, -⟩ | ⟨a, len, cap, m, n, D, Pl, hcs, hb, hl, hm, hmm, -, hi⟩
  · exact ⟨none, 0, 0, [], hcs, rfl, Go.Proofs.YtcjdnahgffkbdaaW.PrintWords.Kd.C_nil _ _, Nat.le_refl _, fun p hp => by cases hp⟩
  · have hlm : len ≤ m := by rw [hmm]; simp; exact hl
    have hof : Try.prog.cellsOf 64 = 11 := by kernel_rfl
    rw [hof] at hi
    have each : ∀ i, i < len → ∃ q : Q.S64, (∀ j u, ([.int .i64 q.f0, .int .i64 q.f1, .int .i64 q.f2, .int .i64 q.f3, .int .i64 q.f4, .int .i64 q.f5, .int .i64 q.f6, .int .i64 q.f7, .int .i64 q.f8, .int .i64 q.f9, .int .i64 q.f10] : List Value)[j]? = some u → W.cell? (a.add (i * 11 + j)) = some u) ∧ W11 q := by
      intro i hil
      obtain ⟨cs', hc, ht⟩ := hi i (by omega)
      obtain ⟨xs, n', -, -, hl', hlen, hf'⟩ := DataW.trod_struct Try.underlying64 ht
      match xs, hlen with
      | [y0, y1, y2, y3, y4, y5, y6, y7, y8, y9, y10], _ =>
      obtain ⟨b0, hb0, -, wf0⟩ := DataW.trod_int Try.underlying3 (hf' 0 _ rfl)
      obtain ⟨b1, hb1, -, wf1⟩ := DataW.trod_int Try.underlying3 (hf' 1 _ rfl)
      obtain ⟨b2, hb2, -, wf2⟩ := DataW.trod_int Try.underlying3 (hf' 2 _ rfl)
      obtain ⟨b3, hb3, -, wf3⟩ := DataW.trod_int Try.underlying3 (hf' 3 _ rfl)
      obtain ⟨b4, hb4, -, wf4⟩ := DataW.trod_int Try.underlying3 (hf' 4 _ rfl)
      obtain ⟨b5, hb5, -, wf5⟩ := DataW.trod_int Try.underlying3 (hf' 5 _ rfl)
      obtain ⟨b6, hb6, -, wf6⟩ := DataW.trod_int Try.underlying3 (hf' 6 _ rfl)
      obtain ⟨b7, hb7, -, wf7⟩ := DataW.trod_int Try.underlying3 (hf' 7 _ rfl)
      obtain ⟨b8, hb8, -, wf8⟩ := DataW.trod_int Try.underlying3 (hf' 8 _ rfl)
      obtain ⟨b9, hb9, -, wf9⟩ := DataW.trod_int Try.underlying3 (hf' 9 _ rfl)
      obtain ⟨b10, hb10, -, wf10⟩ := DataW.trod_int Try.underlying3 (hf' 10 _ rfl)
      obtain ⟨-, hlc, hcell⟩ := World.cells?_some hc
      refine ⟨⟨b0, b1, b2, b3, b4, b5, b6, b7, b8, b9, b10⟩, fun j u hu => ?_, W11_mk (i64_wf wf0) (i64_wf wf1) (i64_wf wf2) (i64_wf wf3) (i64_wf wf4) (i64_wf wf5) (i64_wf wf6) (i64_wf wf7) (i64_wf wf8) (i64_wf wf9) (i64_wf wf10)⟩
      have hj : j < 11 := by have := (List.getElem?_eq_some_iff.1 hu).1; simpa using this
      have hadd : (a.add (i * 11)).add j = a.add (i * 11 + j) := by by_cases h1 : i * 11 = 0 <;> by_cases h2 : j = 0 <;> simp [Addr.add, h1, h2, Nat.add_assoc]
      rw [← hadd, hcell j hj]
      match j, hu with
      | 0, hu => simp at hu; subst hu; exact at_j hb0
      | 1, hu => simp at hu; subst hu; exact at_j hb1
      | 2, hu => simp at hu; subst hu; exact at_j hb2
      | 3, hu => simp at hu; subst hu; exact at_j hb3
      | 4, hu => simp at hu; subst hu; exact at_j hb4
      | 5, hu => simp at hu; subst hu; exact at_j hb5
      | 6, hu => simp at hu; subst hu; exact at_j hb6
      | 7, hu => simp at hu; subst hu; exact at_j hb7
      | 8, hu => simp at hu; subst hu; exact at_j hb8
      | 9, hu => simp at hu; subst hu; exact at_j hb9
      | 10, hu => simp at hu; subst hu; exact at_j hb10
    haveI : Inhabited Q.S64 := ⟨Q.z64⟩
    obtain ⟨q, hq⟩ := Go.Deep.choose_lt each
    refine ⟨some a, len, cap, (List.range len).map q, hcs, by simp, ⟨rfl, by simp; unfold maxLen at hm; omega, fun _ => ⟨a, rfl, fun j p hj => ?_⟩⟩, by simpa using hl, fun p hp => ?_⟩
    · have hjl : j < len := by
        have := (List.getElem?_eq_some_iff.1 hj).1
        simpa using this
      simp [hjl] at hj
      subst hj
      exact ⟨_, rfl, Q.k64_mk _ (q j), (hq j hjl).1⟩
    · obtain ⟨i, hi2, rfl⟩ := List.mem_map.1 hp
      exact (hq i (List.mem_range.1 hi2)).2
theorem sub_j {cs : List Value} {i m j : Nat} {v : Value} (h : ((cs.drop i).take m)[j]? = some v) : cs[i + j]? = some v := by
  rw [List.getElem?_take] at h
  split at h
  · rw [List.getElem?_drop] at h
    exact h
  · cases h
theorem rd_evs {H : Type} {enc : TypeId × Value → H} {W : World} {fuel : Nat} {cs : List Value} {x : DataW H × List MemPlace} (hf : DataW.trod enc Try.prog W 0 (fun _ => true) true fuel 29 cs = some x) :
    ∃ A len cap, ∃ xs : List Q.S28, cs = [.slice A len cap] ∧ xs.length = len ∧ Go.Proofs.YtcjdnahgffkbdaaW.PrintWords.Kd.C Q.k28 W A xs.length xs ∧ xs.length ≤ cap ∧ ∀ p ∈ xs, WE p := by
  rcases Go.Deep.open_slice Try.underlying29 hf with ⟨hcs, -⟩ | ⟨a, len, cap, m, n, D, Pl, hcs, hb, hl, hm, hmm, -, hi⟩
  · exact ⟨none, 0, 0, [], hcs, rfl, Go.Proofs.YtcjdnahgffkbdaaW.PrintWords.Kd.C_nil _ _, Nat.le_refl _, fun p hp => by cases hp⟩
  · have hlm : len ≤ m := by rw [hmm]; simp; exact hl
    have hof : Try.prog.cellsOf 28 = 8 := by kernel_rfl
    rw [hof] at hi
    have each : ∀ i, i < len → ∃ q : Q.S28 × Option Addr × Nat, (∀ j u, ([.int .i64 q.1.f0, .int .i64 q.1.f1, .int .i64 q.1.f2, .int .i64 q.1.f3, .string q.1.f4, .int .i64 q.1.f5.f0, .int .i64 q.1.f5.f1, .slice q.2.1 q.1.f5.f2.length q.2.2] : List Value)[j]? = some u → W.cell? (a.add (i * 8 + j)) = some u) ∧ WE q.1 ∧ q.1.f5.f2.length ≤ q.2.2 ∧ Go.Proofs.YtcjdnahgffkbdaaW.PrintWords.Kd.C Q.k64 W q.2.1 q.1.f5.f2.length q.1.f5.f2 := by
      intro i hil
      obtain ⟨cs', hc, ht⟩ := hi i (by omega)
      obtain ⟨xs, n', -, -, hl', hlen, hf'⟩ := DataW.trod_struct Try.underlying28 ht
      match xs, hlen with
      | [y0, y1, y2, y3, y4, y5], _ =>
      obtain ⟨b0, hb0, -, wf0⟩ := DataW.trod_int Try.underlying3 (hf' 0 _ rfl)
      obtain ⟨b1, hb1, -, wf1⟩ := DataW.trod_int Try.underlying3 (hf' 1 _ rfl)
      obtain ⟨b2, hb2, -, wf2⟩ := DataW.trod_int Try.underlying3 (hf' 2 _ rfl)
      obtain ⟨b3, hb3, -, wf3⟩ := DataW.trod_int Try.underlying3 (hf' 3 _ rfl)
      obtain ⟨b4, hb4, -⟩ := DataW.trod_string Try.underlying9 (hf' 4 _ rfl)
      obtain ⟨zs, n2, -, -, hl2, hlen2, hf2⟩ := DataW.trod_struct Try.underlying26 (hf' 5 _ rfl)
      match zs, hlen2 with
      | [z0, z1, z2], _ =>
      obtain ⟨b5, hb5, -, wf5⟩ := DataW.trod_int Try.underlying3 (hf2 0 _ rfl)
      obtain ⟨b6, hb6, -, wf6⟩ := DataW.trod_int Try.underlying3 (hf2 1 _ rfl)
      obtain ⟨A7, len7, cap7, ss, hcs7, hl7, hC7, hcap7, hW7⟩ := rd_sts (hf2 2 _ rfl)
      obtain ⟨-, hlc, hcell⟩ := World.cells?_some hc
      refine ⟨(⟨b0, b1, b2, b3, b4, ⟨b5, b6, ss⟩⟩, A7, cap7), fun j u hu => ?_, ⟨i64_wf wf0, i64_wf wf1, i64_wf wf2, i64_wf wf3, i64_wf wf5, i64_wf wf6, hW7⟩, hcap7, hC7⟩
      have hj : j < 8 := by have := (List.getElem?_eq_some_iff.1 hu).1; simpa using this
      have hadd : (a.add (i * 8)).add j = a.add (i * 8 + j) := by by_cases h1 : i * 8 = 0 <;> by_cases h2 : j = 0 <;> simp [Addr.add, h1, h2, Nat.add_assoc]
      rw [← hadd, hcell j hj]
      match j, hu with
      | 0, hu => simp at hu; subst hu; exact at_j hb0
      | 1, hu => simp at hu; subst hu; exact at_j hb1
      | 2, hu => simp at hu; subst hu; exact at_j hb2
      | 3, hu => simp at hu; subst hu; exact at_j hb3
      | 4, hu => simp at hu; subst hu; exact at_j hb4
      | 5, hu => simp at hu; subst hu; exact sub_j (j := 0) (at_j hb5)
      | 6, hu => simp at hu; subst hu; exact sub_j (j := 1) (at_j hb6)
      | 7, hu => simp at hu; subst hu; rw [hl7]; exact sub_j (j := 2) (at_j hcs7)
    haveI : Inhabited (Q.S28 × Option Addr × Nat) := ⟨(Q.z28, none, 0)⟩
    obtain ⟨q, hq⟩ := Go.Deep.choose_lt each
    refine ⟨some a, len, cap, (List.range len).map (fun i => (q i).1), hcs, by simp, ⟨rfl, by simp; unfold maxLen at hm; omega, fun _ => ⟨a, rfl, fun j p hj => ?_⟩⟩, by simpa using hl, fun p hp => ?_⟩
    · have hjl : j < len := by
        have := (List.getElem?_eq_some_iff.1 hj).1
        simpa using this
      simp [hjl] at hj
      subst hj
      exact ⟨_, rfl, Q.k28_mk _ (q j).1 (hq j hjl).2.2.1 (hq j hjl).2.2.2, (hq j hjl).1⟩
    · obtain ⟨i, hi2, rfl⟩ := List.mem_map.1 hp
      exact (hq i (List.mem_range.1 hi2)).2.1
end Go.Proofs.Ytcjdnahgffkbdaa.Sop

namespace Go.Proofs.Ytcjdnahgffkbdaa.scriptSteps
open Go.ChangeShapes Go.WideShapes Go.ChangeAt Go.RowKit
open Go.ChangeMaps (open_string shut_string)
set_option linter.unusedVariables false
theorem own : ownKnob Try.prog.godebug = none := by kernel_rfl
theorem laidOut : laidOutB Try.prog = true := by kernel_rfl
def IsRow (k : IntKind) (w : World) (a : Option Addr) (len cap : Nat) (zs : List Int) : Prop :=
  (a = none ∧ len = 0 ∧ cap = 0 ∧ zs = []) ∨
  ∃ x, a = some x ∧ len ≤ cap ∧ cap ≤ maxLen ∧ zs.length = cap ∧ (∀ i, i < zs.length → w.cell? (x.add i) = some (.int k (zs.getD i 0))) ∧ ∀ n ∈ zs, (Lit.int k n).wf = true
set_option maxHeartbeats 4000000 in
set_option maxRecDepth 100000 in
theorem lifted (os : Os) (started : os.Started) (H : Type) (enc : TypeId × Value → H) :
    ReturnsInHanded {} Try.checked os 6 .any (Rows.scriptStepsSpec.pre6 enc Try.prog Try.f6 Rows.scriptStepsRow.domain false) (Rows.scriptStepsSpec.post enc Try.prog Try.f6 false true false false) := by
  refine returnsInHanded_of_change_sized (C := Try.checked) own started (by kernel_rfl) Try.func6
    (ChangeSpec.witness6 (enc := enc) (C := Try.checked) false ⟨#[], #[.slice none 0 0, .slice none 0 0, .string ByteArray.empty, .int .i64 0, .int .u8 0, .string ByteArray.empty], []⟩ 8 (by kernel_rfl) (by kernel_rfl) (by kernel_rfl) (by kernel_rfl)) ?_
  intro W base args ds gs before hval0 hW hcnd hsz0 _
  have hsz : (DataW.weightsEach Try.prog (Try.f6.params.toList ++ Rows.scriptStepsSpec.plain.varTypes Try.prog) (ds ++ gs)).all (· ≤ reachBytes) = true := hsz0
  have hval : ∀ (j : Nat) t v, Try.f6.params[j]? = some t → args[j]? = some v → Value.okWide Try.prog W .any base t v := hval0
  have hW' := hW
  obtain ⟨p, q, hA0, hV, rfl, hfz, hnd⟩ := hW
  have hA : DataW.TrodAll enc Try.prog W 0 (fun _ => true) true Try.f6.params.toList args.toList ds p := hA0
  rw [Try.params6] at hA hval hsz
  obtain ⟨v0, vs0, d0, ds0, p0, q0, hargs, rfl, rfl, h0, r0⟩ := trodAll_cons hA
  obtain ⟨v1, vs1, d1, ds1, p1, q1, rfl, rfl, rfl, h1, r1⟩ := trodAll_cons r0
  obtain ⟨v2, vs2, d2, ds2, p2, q2, rfl, rfl, rfl, h2, r2⟩ := trodAll_cons r1
  obtain ⟨v3, vs3, d3, ds3, p3, q3, rfl, rfl, rfl, h3, r3⟩ := trodAll_cons r2
  obtain ⟨v4, vs4, d4, ds4, p4, q4, rfl, rfl, rfl, h4, r4⟩ := trodAll_cons r3
  obtain ⟨v5, vs5, d5, ds5, p5, q5, rfl, rfl, rfl, h5, r5⟩ := trodAll_cons r4
  obtain ⟨rfl, rfl, rfl⟩ := trodAll_nil r5
  obtain rfl : args = #[v0, v1, v2, v3, v4, v5] := by cases args; simp_all
  obtain ⟨rfl, rfl⟩ := trodVars_none hV
  obtain ⟨A0, len0, cap0, rfl⟩ := okWide_slice Try.underlying23 (hval 0 23 v0 rfl rfl)
  have k0 := h0
  have lt0 : ∀ x ∈ p0, x.block < W.heap.size := by obtain ⟨m, hm⟩ := k0; exact DataW.trod_lt m _ _ _ hm
  have y0 : len0 * 1 ≤ 140737488351232 := Go.Proofs.YtcjdnahgffkbdaaW.PrintWords.sized_ints hsz (j := 0) (t := 23) rfl rfl Try.underlying23 Try.underlying5 (by kernel_rfl) (by kernel_rfl) h0
  obtain ⟨z0, w0⟩ : ∃ zs, IsRow .u8 W A0 len0 cap0 zs := by
    obtain ⟨fuel, hf⟩ := h0
    rcases open_ints Try.underlying23 Try.underlying5 (by kernel_rfl) hf with ⟨hcs, _⟩ | ⟨x, l, c, zs, hcs, _, hl, hm, hz, _, hcell, hwz⟩
    · simp [Value.cells] at hcs
      obtain ⟨rfl, rfl, rfl⟩ := hcs
      exact ⟨[], .inl ⟨rfl, rfl, rfl, rfl⟩⟩
    · simp [Value.cells] at hcs
      obtain ⟨rfl, rfl, rfl⟩ := hcs
      exact ⟨zs, .inr ⟨_, rfl, hl, hm, by simpa using hz, hcell, hwz⟩⟩
  obtain ⟨A1, len1, cap1, hv1⟩ := okWide_slice Try.underlying29 (hval 1 29 v1 rfl rfl)
  have k1 := h1
  have lt1 : ∀ x ∈ p1, x.block < W.heap.size := by obtain ⟨m, hm⟩ := k1; exact DataW.trod_lt m _ _ _ hm
  obtain ⟨B1, lon1, cop1, l1, hcs1, hln1, hr1, hc1, hw1⟩ : ∃ A len cap, ∃ xs : List Q.S28, v1.cells.toList = [.slice A len cap] ∧ xs.length = len ∧ Go.Proofs.YtcjdnahgffkbdaaW.PrintWords.Kd.C Q.k28 W A xs.length xs ∧ xs.length ≤ cap ∧ ∀ p ∈ xs, Spt.WE p := by
    obtain ⟨fuel, hf⟩ := h1
    exact Sop.rd_evs hf
  subst hv1
  obtain ⟨rfl, rfl, rfl⟩ : A1 = B1 ∧ len1 = lon1 ∧ cap1 = cop1 := by simpa [Value.cells] using hcs1
  clear hcs1
  obtain ⟨b2, rfl, rfl, rfl, y2⟩ := open_string Try.underlying9 (hval 2 9 v2 rfl rfl) h2
  have w2 : b2.size ≤ 140737488351232 := by
    have z := sized_string hsz (j := 2) (t := 9) rfl rfl
    rw [Array.length_toList] at z
    exact z
  obtain ⟨a3, rfl, rfl, rfl, w3⟩ := open_int Try.underlying3 (hval 3 3 v3 rfl rfl) h3
  obtain ⟨a4, rfl, rfl, rfl, w4⟩ := open_int Try.underlying5 (hval 4 5 v4 rfl rfl) h4
  obtain ⟨b5, rfl, rfl, rfl, y5⟩ := open_string Try.underlying9 (hval 5 9 v5 rfl rfl) h5
  have w5 : b5.size ≤ 140737488351232 := by
    have z := sized_string hsz (j := 5) (t := 9) rfl rfl
    rw [Array.length_toList] at z
    exact z
  clear hA0 hval0 hsz0 hsz
  obtain ⟨l0, rfl, hr0, hm0, hw0, hc0⟩ := Go.Proofs.YtcjdnahgffkbdaaW.PrintWords.ReadsInt.ofRowC w0
  subst hln1
  obtain ⟨s2, rfl⟩ := Gm.exB b2
  have hs2 : s2.length ≤ 140737488351232 := by rw [Gm.B_size] at w2; exact w2
  have i3 : -9223372036854775808 ≤ a3 ∧ a3 ≤ 9223372036854775807 := by simpa [Lit.wf, IntKind.min, IntKind.max, IntKind.signed, IntKind.bits] using w3
  have i4 : 0 ≤ a4 ∧ a4 ≤ 255 := by simpa [Lit.wf, IntKind.min, IntKind.max, IntKind.signed, IntKind.bits] using w4
  obtain ⟨s5, rfl⟩ := Gm.exB b5
  have hs5 : s5.length ≤ 140737488351232 := by rw [Gm.B_size] at w5; exact w5
  refine (Sss.steps_x A0 cap0 l0 A1 cap1 l1 s2 a3 a4 s5 W (Go.Proofs.YtcjdnahgffkbdaaW.PrintWords.Kd.C_of_reads (d := (0 : Int)) (h1 := fun _ => rfl) hr0) hc0 hw0 hr1 hc1 hw1 i3 hs2 hs5).mono fun e W' ⟨he, bel⟩ => ?_
  subst he
  exact ⟨_, rfl, _, _, _, [], _, [], hW', trodAll_mk1 (shut_bool Try.underlying4 _), (trodAll_cons_mk (Below.trod laidOut (by kernel_rfl) (of_decide_eq_true (by kernel_rfl)) k0 bel lt0) (trodAll_cons_mk (Below.trod laidOut (by kernel_rfl) (of_decide_eq_true (by kernel_rfl)) k1 bel lt1) (trodAll_cons_mk (shut_string Try.underlying9 y2) (trodAll_cons_mk (shut_int Try.underlying3 w3) (trodAll_cons_mk (shut_int Try.underlying5 w4) (trodAll_cons_mk (shut_string Try.underlying9 y5) trodAll_mk0)))))), rfl, bel.frame _, fun h => by cases h⟩
theorem over : Rows.scriptStepsRow.holds Try.pinned (OpenSpec.ofChange Rows.scriptStepsSpec) :=
  OpenClaim.holds_of_wide 6 Try.f6 rfl rfl rfl rfl rfl rfl rfl ⟨rfl, rfl, rfl, rfl, rfl⟩ rfl rfl rfl rfl rfl (by kernel_rfl) Try.func6 (by kernel_rfl)
    (of_decide_eq_true (by kernel_rfl)) (by unfold Func.isWrapper; first | (rw [if_pos (by decide +kernel)]; kernel_rfl) | (rw [if_neg (by decide +kernel)]; exact ⟨rfl, rfl⟩))
    (fun os started H enc _ => lifted os started H enc)
theorem proved : Rows.ScriptStepsSaid := over
#print axioms proved
end Go.Proofs.Ytcjdnahgffkbdaa.scriptSteps
namespace Go.Proofs.Ytcjdnahgffkbdaa
theorem scriptSteps_holds : Rows.ScriptStepsSaid := scriptSteps.proved
end Go.Proofs.Ytcjdnahgffkbdaa
