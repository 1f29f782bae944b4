/- StatementOrderCardSaid -/
import Derived.ProofKit
import Derived.Laws.Strings
import Derived.Test.YtcalkhlchjjalaaDoorCStatementOrder2
import Derived.Test.YtcalkhlchjjalaaDoorProg
import Derived.OpenShut
import Derived.Laws.BitsLemmas
import Derived.Below
import Derived.Deep.Draws
import Derived.Deep.AppendLies
import Derived.Maps.AppendAt
import Derived.OwnWalk
import Derived.Laws.BytesArg
import Derived.Laws.MakeOwn
import Derived.Laws.OwnMore
import Derived.Deep.OwnRows
import Derived.Tactics
import Derived.Lib.ConvBytes
import Derived.Laws.Slices
import Derived.WalkKit
import Derived.KernelRfl
import Derived.RowKit3
import Derived.Deep.LoopGhost
import Derived.Deep.QuietTactic
import Derived.BigQuiet
import Derived.WideLaws
import Derived.Deep.DeepCutAuto
import Derived.Deep.CutBlock
import Derived.Deep.RegionHeld3
import Derived.Laws.Rows
import Derived.Lib.AppendStr
import Derived.ArgAppend
import Derived.Laws.IdiomCopy
import Derived.OrdersHeld
import Derived.RowKit
import Derived.Test.YtcalkhlchjjalaaDoorCStatementOrder1
import Derived.StillTailTactics
import Derived.Lib.Hide
import Derived.WalkArith
import Derived.Test.YtcalkhlchjjalaaDoorRows
import Derived.ChangeSame
import Derived.LaidMore
import Derived.Lay
import Derived.Maps.OwnOps
import Derived.Carry
import Derived.Maps.Views
import Derived.Shelf.Abstract
import Derived.IntWalk
namespace Go.Proofs.YtcalkhlchjjalaaDoor.Gm
def grp (u : Nat) : List UInt8 := if h : 127 < u then UInt8.ofNat (u % 128 + 128) :: grp (u / 128) else [UInt8.ofNat u]
termination_by u
decreasing_by omega
theorem grp_more {u : Nat} (h : 127 < u) : grp u = UInt8.ofNat (u % 128 + 128) :: grp (u / 128) := by rw [grp, dif_pos h]
theorem grp_last {u : Nat} (h : ¬ 127 < u) : grp u = [UInt8.ofNat u] := by rw [grp, dif_neg h]
def zig (n : Int) : Nat := if 0 ≤ n then (2 * n).toNat else (-2 * n - 1).toNat
theorem zig_range {n : Int} (h : -9223372036854775808 ≤ n ∧ n ≤ 9223372036854775807) : zig n < 18446744073709551616 := by
 unfold zig
 split <;> omega
def putI (n : Int) : List UInt8 := grp (zig n)
theorem grp_len (k u : Nat) (h : u < 128 ^ (k + 1)) : (grp u).length ≤ k + 1 := by
 induction k generalizing u with
 | zero => rw [grp_last (by omega)]; simp
 | succ k ih =>
  by_cases h127 : 127 < u
  ·rw [grp_more h127]
   have := ih (u / 128) (by rw [Nat.pow_succ] at h; exact Nat.div_lt_of_lt_mul (by omega))
   simp; omega
  ·rw [grp_last h127]; simp
theorem grp_len10 (u : Nat) (h : u < 18446744073709551616) : (grp u).length ≤ 10 := grp_len 9 u (by simp; omega)
theorem putI_len {n : Int} (h : -9223372036854775808 ≤ n ∧ n ≤ 9223372036854775807) : (putI n).length ≤ 10 := grp_len10 _ (zig_range h)
def B (l : List UInt8) : ByteArray := ⟨l.toArray⟩
theorem B_size (l : List UInt8) : (B l).size = l.length := by simp [B, ByteArray.size]
theorem B_append (l m : List UInt8) : B l ++ B m = B (l ++ m) := by
 apply ByteArray.ext
 simp [B]
end Go.Proofs.YtcalkhlchjjalaaDoor.Gm

namespace Go.Proofs.YtcalkhlchjjalaaDoor.Gput
open Go Go.RowKit Go.Shelf Go.Proofs.YtcalkhlchjjalaaDoor.Gb Go.Proofs.YtcalkhlchjjalaaDoor.Gm
attribute [local go_sem] Oper.semAt_some
set_option linter.unusedVariables false
theorem groups_in (F : Fence) (n : Nat) (hF : F.fn 59) (hro : F.round = none) (u : Int) (w : World) :
 CallsIn F n Tryd.prog 59 #[.int .u64 u] w fun e w' => e = .returned (.func (.func 62) #[] #[.pointer (some ⟨w.heap.size, 0, none⟩)]) ∧ w' = w.alloc (.cells #[.int .u64 u] 88) := by
 refine callsIn_of_wp Tryd.func59 rfl hF ?_ hro
 simp only [Tryd.ntmps59, List.size_toArray, List.length_cons, List.length_nil, Nat.reduceAdd, Nat.reduceSub, Array.replicate_succ, Array.replicate_zero, List.push_toArray, List.append_toArray, List.nil_append, List.cons_append]
 gi_wp2
 go_ret
 exact ⟨rfl, rfl⟩
theorem or128_all : ∀ n : Nat, n < 256 → n ||| 128 = n % 128 + 128 := by decide +kernel
theorem or128 (u : Nat) : bits .or .u8 ((u : Int) % 256) 128 = ((u % 128 + 128 : Nat) : Int) := by
 have h := (bits_nat .u8 8 (by decide) wraps_u8 (u % 256) 128 (by omega) (by decide)).2
 rw [or128_all _ (by omega)] at h
 have e : ((u : Int) % 256) = ((u % 256 : Nat) : Int) := by omega
 rw [e]
 refine h.trans ?_
 omega
theorem enc8_ofNat (n : Nat) (h : n < 256) : enc8 (UInt8.ofNat n) = .int .u8 (n : Int) := by
 unfold enc8
 rw [UInt8.toNat_ofNat_of_lt' (by simpa using h)]
def left8 (B : Nat) (w : World) : Nat := match w.cell? ⟨B, 0, none⟩ with
 | some (.int _ n) => n.toNat
 | _ => 0
set_option maxRecDepth 100000 in
set_option maxHeartbeats 1000000 in
theorem groups1_seq (F : Fence) (n : Nat) (hF : F.fn 62) (hro : F.round = none) (hn : 1 ≤ n) (Bu u : Nat) (hu : u < 18446744073709551616) :
 SeqCell F n Tryd.prog 62 #[.pointer (some ⟨Bu, 0, none⟩)] (fun x => #[enc8 x]) Bu 88 (.int .u64 u) (grp u) := by
 intro l J W hB hA hset hY h0
 refine callsIn_of_wp Tryd.func62 rfl hF ?_ hro
 simp only [Tryd.ntmps62, List.size_toArray, List.length_cons, List.length_nil, Nat.reduceAdd, Nat.reduceSub, Array.replicate_succ, Array.replicate_zero, List.push_toArray, List.append_toArray, List.nil_append, List.cons_append]
 gi_wp2
 gi_loopw [] (fun wr => ∃ (pre : List UInt8) (u' : Nat), grp u = pre ++ grp u' ∧ u' < 18446744073709551616 ∧ Boxed wr Bu 88 (.int .u64 u') ∧ J pre wr)
  (fun wr => left8 Bu wr)
 case atStart =>
  exact ⟨[], u, rfl, hu, hB, h0⟩
 case round =>
  obtain ⟨pre, u', hg, hu', hb, hj⟩ := hrel
  have hc := hb.cell
  have hf := hb.frozen
  have hlen : pre.length < (grp u).length := by
   rw [hg]; have : 0 < (grp u').length := by rw [grp]; split <;> simp
   simp; omega
  by_cases h127 : 127 < u'
  ·obtain ⟨fn, tmps, assign, body, hy, hR⟩ := hY pre (UInt8.ofNat (u' % 128 + 128)) wr hj hlen
   rw [enc8_ofNat _ (by omega), ← or128] at hy
   gi_wp2
   refine hR.mono ?_
   rintro e W3 ⟨rfl, hJ3, hk3⟩
   have hb3 := hk3 _ hb
   have hc3 := hb3.cell
   have hf3 := hb3.frozen
   gi_wp2
   go_roundw
   case rel =>
    refine ⟨pre ++ [UInt8.ofNat (u' % 128 + 128)], u' / 128, by rw [hg, grp_more h127]; simp, by omega, hb3.set _, hset _ _ _ _ hb3 hJ3⟩
   case measure =>
    have e1 : left8 Bu wr = u' := by unfold left8; rw [hc]; simp
    have e2 : ∀ v, left8 Bu (W3.setCell ⟨Bu, 0, none⟩ (.int .u64 v)) = v.toNat := fun v => by unfold left8; rw [(hb3.set _).cell]
    rw [e1, e2]
    omega
  ·obtain ⟨fn, tmps, assign, body, hy, hR⟩ := hY pre (UInt8.ofNat u') wr hj hlen
   rw [enc8_ofNat _ (by omega)] at hy
   have h256 : ((u' : Int) % 256) = u' := by omega
   gi_wp2
   refine hR.mono ?_
   rintro e W3 ⟨rfl, hJ3, hk3⟩
   gi_wp2
   go_end0
   exact ⟨⟨_, rfl⟩, by rw [hg, grp_last h127]; exact hJ3⟩
theorem zig_lt (n : Int) (h : (Lit.int .i64 n).wf = true) : zig n < 18446744073709551616 := by
 have := bounds_i64 h
 unfold zig
 split <;> omega
theorem bits_xor64 (a b : Nat) : bits .xor .u64 (a : Int) (b : Int) = IntKind.u64.wrap ((BitVec.ofNat 64 a ^^^ BitVec.ofNat 64 b).toNat : Int) := by
 unfold bits
 simp only [BitVec.ofInt_natCast]
 rfl
theorem zig_bits (m : Int) (h : (Lit.int .i64 m).wf = true) : bits .xor .u64 (IntKind.u64.wrap (IntKind.u64.wrap m * 2)) (IntKind.u64.wrap (m / 9223372036854775808)) = (zig m : Int) := by
 have hb := bounds_i64 h
 have wr : ∀ x : Int, IntKind.u64.wrap x = x % 18446744073709551616 := fun x => by simp [IntKind.wrap, IntKind.bits, IntKind.signed]
 unfold zig
 by_cases h0 : 0 ≤ m
 ·have e1 : IntKind.u64.wrap (IntKind.u64.wrap m * 2) = ((2 * m).toNat : Int) := by rw [wr, wr]; omega
  have e2 : IntKind.u64.wrap (m / 9223372036854775808) = ((0 : Nat) : Int) := by rw [wr]; omega
  rw [e1, e2, if_pos h0]
  have hlt : (2 * m).toNat < 2 ^ 64 := by simp; omega
  rw [bits_xor64, BitVec.toNat_xor, BitVec.toNat_ofNat, BitVec.toNat_ofNat, Nat.mod_eq_of_lt hlt, Nat.zero_mod, Nat.xor_zero, wr]
  omega
 ·have e1 : IntKind.u64.wrap (IntKind.u64.wrap m * 2) = ((2 * m + 18446744073709551616).toNat : Int) := by rw [wr, wr]; omega
  have e2 : IntKind.u64.wrap (m / 9223372036854775808) = ((18446744073709551615 : Nat) : Int) := by rw [wr]; omega
  rw [e1, e2, if_neg h0]
  have hlt : (2 * m + 18446744073709551616).toNat < 2 ^ 64 := by simp; omega
  have hn : (BitVec.ofNat 64 18446744073709551615) = BitVec.allOnes 64 := by decide
  rw [bits_xor64, hn, BitVec.xor_allOnes, BitVec.toNat_not, BitVec.toNat_ofNat, Nat.mod_eq_of_lt hlt, wr]
  omega
theorem info_byte : (Tryd.prog.info? 5).map (fun i => (i.zero, i.size, i.bytes)) = some (some (.int .u8 0), 1, 1) := by kernel_rfl
set_option maxRecDepth 100000 in
set_option maxHeartbeats 2000000 in
theorem put_in (F : Fence) (n : Nat) (h46 : F.fn 50) (h54 : F.fn 59) (h57 : F.fn 62) (hro : F.round = none) (hn : 3 ≤ n)
 (base : Nat) (v : Value) (xs : List UInt8) (m : Int) (hm : (Lit.int .i64 m).wf = true) (w : World) (hrow : Own8 w base 5 v xs) (hb : base ≤ w.heap.size) (hlen : xs.length + 10 ≤ 140737488355328) (u : Nat) (hu : zig m = u) :
 CallsIn F n Tryd.prog 50 #[v, .int .i64 m] w fun e W' => ∃ v', e = .returned v' ∧ Own8 W' base 5 v' (xs ++ grp u) ∧ Below base w W' := by
 have h1 : 1 ≤ n := by omega
 obtain ⟨i0, hi, hz0, hz1, hz2⟩ := info_parts info_byte
 refine callsIn_of_wp_marks Tryd.func50 rfl h46 ?_ hro
 simp only [Tryd.ntmps50, List.size_toArray, List.length_cons, List.length_nil, Nat.reduceAdd, Nat.reduceSub, Array.replicate_succ, Array.replicate_zero, List.push_toArray, List.append_toArray, List.nil_append, List.cons_append]
 obtain ⟨g, cap, cur, fz, rfl, hrest⟩ := id hrow
 gi_wp2_with (gi_at_call 59; refine (groups_in F (n - 1) h54 hro _ _).mono ?_; rintro e w' ⟨rfl, rfl⟩)
 have hz := zig_bits m hm
 have hzl := zig_lt m hm
 rw [hu] at hz hzl
 rw [hz]
 clear hz hu
 have hrow' : Own8 w base 5 (.slice (some ⟨g, 0, none⟩) xs.length cap) xs := hrow
 have bB := Boxed.new w 79 (.slice (some ⟨g, 0, none⟩) xs.length cap)
 have bU := Boxed.new (w.alloc (.cells #[.slice (some ⟨g, 0, none⟩) xs.length cap] 79)) 88 (.int .u64 u)
 rw [World.size_alloc] at bU
 have hB0 : Below base w ((w.alloc (.cells #[.slice (some ⟨g, 0, none⟩) xs.length cap] 79)).alloc (.cells #[.int .u64 u] 88)) := ((Below.refl _ w).alloc hb _).alloc (by simp; omega) _
 have hgl := grp_len10 u hzl
 refine rangeFunc_cell hro h1 (gf := 62) (lb := #[.pointer (some ⟨w.heap.size + 1, 0, none⟩)]) rfl h57 (enters_of Tryd.func62 (by kernel_rfl) rfl)
  (groups1_seq F (n - 1) h57 hro (by omega) (w.heap.size + 1) u hzl) bU (fun _ => rfl)
  (fun pre W => (∃ v, Boxed W w.heap.size 79 v ∧ Own8 W base 5 v (xs ++ pre)) ∧ Below base w W)
  (OwnFrom.and (Own.from (holds8_own base w.heap.size 79 5 (fun pre => xs ++ pre)) _) (ownFrom_below hb (by simp; omega)))
  (fun s W v v' hbu hs => ⟨by
   obtain ⟨⟨q, hq, hr⟩, _⟩ := hs
   exact ⟨q, hq.kept (grownBy_setCell' W _ v') (by simp), hr.setCell hbu (by decide) v'⟩, hs.2.setCell (p := ⟨w.heap.size + 1, 0, none⟩) (show base ≤ w.heap.size + 1 by omega) _⟩)
  ⟨⟨_, bB.alloc _, by rw [List.append_nil]; exact (hrow'.alloc _).alloc _⟩, hB0⟩
  (fun x => { tmps := #[.slice (some ⟨g, 0, none⟩) xs.length cap, .int .i64 m, .pointer (some ⟨w.heap.size, 0, none⟩), undef, .slice none 0 0, .int .u8 (x.toNat : Int), .int .i64 m, .int .u64 (IntKind.u64.wrap m), .int .u64 (IntKind.u64.wrap (IntKind.u64.wrap m * 2)), .int .i64 m, .int .i64 (m / 9223372036854775808), .int .u64 (IntKind.u64.wrap (m / 9223372036854775808)), .int .u64 u, .func (.func 62) #[] #[.pointer (some ⟨w.heap.size + 1, 0, none⟩)], .int .u8 (x.toNat : Int), undef, undef, undef, undef, undef], defers := [] }) ?assign ?body ?done
 case assign =>
  intro l x W K hK
  gi_wp2
  exact hK
 case body =>
  rintro l pre x W ⟨⟨v, hv, hrow⟩, hB⟩ hlt
  have hc := hv.cell
  have hpl : (xs ++ pre).length < xs.length + 10 := by rw [List.length_append]; omega
  gi_wp2_with (gi_at_builtin; refine wpListIn_append8 _ rfl _ _ 79 rfl base 5 i0 Tryd.underlying79 hi hz0 hz1 hz2 _ _ rfl (hrow.alloc _) ⟨W.heap.size, 0, none⟩ 1 x rfl (by rw [show (⟨W.heap.size, 0, none⟩ : Addr).add 0 = ⟨W.heap.size, 0, none⟩ from rfl]; exact (Boxed.new W 5 (enc8 x)).cell) (by omega) (by have := hB.size; simp; omega) ?_; intro v' w1 hown' hgrow; obtain ⟨hv1, hv2, hr2, hk2, hb2⟩ := Boxed.appended8 hv (by decide) hrow (Nat.le_trans hb hB.size) hb hown' hgrow; have hq2 := fun u2 (hu2 : Boxed W (w.heap.size + 1) 88 u2) => Boxed.beside8 (v' := v') hu2 (by decide) (by omega) hrow hgrow hv1; obtain ⟨g', cap', cur', fz', rfl, hrest'⟩ := id hown'; have hc1 := hv1.cell; have hf1 := hv1.frozen)
  have el : (xs ++ pre ++ [x]).length = xs.length + (pre.length + 1) := by simp
  rw [el] at hk2 hv2 hr2 hb2
  simp only [el] at hq2
  exact ⟨hk2, hq2, ⟨_, hv2, by rw [← List.append_assoc]; exact hr2⟩, hB.trans hb2⟩
 case done =>
  rintro D W hD ⟨⟨v, hv, hrow⟩, hB⟩ hK
  have hc := hv.cell
  gi_wp2
  refine ⟨by simp, .inl ⟨_, _, rfl, run_takeDeferred hK, ?_⟩⟩
  exact ⟨_, results_tmp rfl _ _ _, v, rfl, hrow.putObj _ hK rfl, hB.trans (belowK_b (w := w) hb W D _ _ (by simp at hD; omega) hK rfl rfl)⟩
theorem put_any (base : Nat) (v : Value) (xs : List UInt8) (m : Int) (hm : (Lit.int .i64 m).wf = true) (w : World) (hrow : Own8 w base 5 v xs) (hb : base ≤ w.heap.size) (hlen : xs.length + 10 ≤ 140737488355328) :
 Calls Tryd.prog 50 #[v, .int .i64 m] w fun e W' => ∃ v', e = .returned v' ∧ Own8 W' base 5 v' (xs ++ putI m) ∧ Below base w W' :=
 callsIn_wide.1 (put_in _ 3 trivial trivial trivial rfl (by omega) base v xs m hm w hrow hb hlen (zig m) rfl)
def wire_PutInt.f (a0 : ByteArray) (a1 : Int) : Option ByteArray :=
 if a0.size + 10 ≤ 140737488355328 ∧ (Lit.int .i64 a1).wf = true then some ⟨(a0.data.toList ++ putI a1).toArray⟩ else none
set_option maxHeartbeats 2000000 in
theorem wire_PutInt.calls (a0 : ByteArray) (a1 : Int) (r : ByteArray) (w : World) (h : wire_PutInt.f a0 a1 = some r) :
 Calls Tryd.prog 42 #[.string a0, .int .i64 a1] w fun e w' => e = .returned (.string r) ∧ Below w.heap.size w w' := by
 unfold wire_PutInt.f at h
 split at h
 case isFalse => cases h
 case isTrue hc =>
 obtain ⟨hs, hm⟩ := hc
 obtain rfl := Option.some.inj h
 clear h
 have hsm : a0.size ≤ maxLen := by unfold maxLen; omega
 have hcv := Lib.run_convert_string_bytes (P := Tryd.prog) w 9 79 5 a0 Tryd.underlying9 Tryd.underlying79 Tryd.underlying5
 have hown := own8_bytes w w.heap.size 5 a0 (Nat.le_refl _) hsm
 have hbw : Below w.heap.size w (Lib.bytesWorld w 5 a0) := (Below.refl _ w).grown (bytesWorld_grown w 5 a0) (Nat.le_refl _) (fun k e => by cases e)
 have hl : a0.data.toList.length + 10 ≤ 140737488355328 := by rw [Array.length_toList]; exact hs
 go_enter Tryd.func42, Tryd.ntmps42
 go_wp2_with (go_at_call 50; refine (put_any w.heap.size _ _ a1 hm _ hown (by rw [Lib.bytesWorld_size]; omega) hl).mono ?_; rintro e W1 ⟨v1, rfl, ho1, hb1⟩; have hst := run_string8 (P := Tryd.prog) W1 w.heap.size 79 9 5 Tryd.underlying79 Tryd.underlying5 Tryd.underlying9 v1 _ ho1)
 go_ret
 exact ⟨rfl, hbw.trans hb1⟩
end Go.Proofs.YtcalkhlchjjalaaDoor.Gput

namespace Go.Proofs.YtcalkhlchjjalaaDoor.Q
open Go.RowKit Go.Proofs.YtcalkhlchjjalaaDoorW.PrintWords Go.Proofs.YtcalkhlchjjalaaDoorW.PrintLast Go.Proofs.YtcalkhlchjjalaaDoorW.PrintMore Go.Proofs.YtcalkhlchjjalaaDoor.Gput
attribute [local go_sem] max2_int min2_int max_two min_two max_three min_three max_four min_four   -- for this text's walks alone
set_option linter.unusedVariables false
set_option linter.unusedSimpArgs false
def errW : Option Int → Value
 | none => .nilIface
 | some c => .iface 0 (.int .i64 c)
theorem errW_none : errW none = .nilIface := rfl
theorem errW_some (c : Int) : errW (some c) = .iface 0 (.int .i64 c) := rfl
theorem info25 : (Tryd.prog.info? 25).map (fun i => (i.zero, i.size, i.bytes)) = some (some (.agg #[(.int .i64 0), (.int .i64 0)]), 2, 16) := by kernel_rfl
theorem info39 : (Tryd.prog.info? 39).map (fun i => (i.zero, i.size, i.bytes)) = some (some (.agg #[(.int .i64 0), (.int .i64 0), (.int .i64 0), (.int .i64 0), (.int .i64 0), (.int .i64 0), (.int .i64 0), (.int .i64 0), (.int .i64 0), (.int .i64 0), (.int .i64 0)]), 11, 88) := by kernel_rfl
structure S39 where
 f0 : Int
 f1 : Int
 f2 : Int
 f3 : Int
 f4 : Int
 f5 : Int
 f6 : Int
 f7 : Int
 f8 : Int
 f9 : Int
 f10 : Int
def z39 : S39 := ⟨(0 : Int), (0 : Int), (0 : Int), (0 : Int), (0 : Int), (0 : Int), (0 : Int), (0 : Int), (0 : Int), (0 : Int), (0 : Int)⟩
def k39 : Kd S39 := Kd.iso (Kd.pair (Kd.int .i64) (Kd.pair (Kd.int .i64) (Kd.pair (Kd.int .i64) (Kd.pair (Kd.int .i64) (Kd.pair (Kd.int .i64) (Kd.pair (Kd.int .i64) (Kd.pair (Kd.int .i64) (Kd.pair (Kd.int .i64) (Kd.pair (Kd.int .i64) (Kd.pair (Kd.int .i64) (Kd.int .i64))))))))))) (fun x : S39 => (x.f0, x.f1, x.f2, x.f3, x.f4, x.f5, x.f6, x.f7, x.f8, x.f9, x.f10))
theorem k39_open {w : World} {x : S39} {cs : List Value} (h : k39.K w x cs) : cs = [.int .i64 x.f0, .int .i64 x.f1, .int .i64 x.f2, .int .i64 x.f3, .int .i64 x.f4, .int .i64 x.f5, .int .i64 x.f6, .int .i64 x.f7, .int .i64 x.f8, .int .i64 x.f9, .int .i64 x.f10] := by
 obtain ⟨_, _, rfl, rfl, ⟨_, _, rfl, rfl, ⟨_, _, rfl, rfl, ⟨_, _, rfl, rfl, ⟨_, _, rfl, rfl, ⟨_, _, rfl, rfl, ⟨_, _, rfl, rfl, ⟨_, _, rfl, rfl, ⟨_, _, rfl, rfl, ⟨_, _, rfl, rfl, rfl⟩⟩⟩⟩⟩⟩⟩⟩⟩⟩ := h
 exact rfl
theorem k39_openM {w : World} {base : Nat} {ok : Nat → Prop} {x : S39} {cs : List Value} (h : k39.M w base ok x cs) : cs = [.int .i64 x.f0, .int .i64 x.f1, .int .i64 x.f2, .int .i64 x.f3, .int .i64 x.f4, .int .i64 x.f5, .int .i64 x.f6, .int .i64 x.f7, .int .i64 x.f8, .int .i64 x.f9, .int .i64 x.f10] := by
 obtain ⟨_, _, rfl, rfl, ⟨_, _, rfl, rfl, ⟨_, _, rfl, rfl, ⟨_, _, rfl, rfl, ⟨_, _, rfl, rfl, ⟨_, _, rfl, rfl, ⟨_, _, rfl, rfl, ⟨_, _, rfl, rfl, ⟨_, _, rfl, rfl, ⟨_, _, rfl, rfl, rfl⟩⟩⟩⟩⟩⟩⟩⟩⟩⟩ := h
 exact rfl
theorem k39_mk (w : World) (x : S39)  : k39.K w x [.int .i64 x.f0, .int .i64 x.f1, .int .i64 x.f2, .int .i64 x.f3, .int .i64 x.f4, .int .i64 x.f5, .int .i64 x.f6, .int .i64 x.f7, .int .i64 x.f8, .int .i64 x.f9, .int .i64 x.f10] := ⟨[.int .i64 x.f0], [.int .i64 x.f1, .int .i64 x.f2, .int .i64 x.f3, .int .i64 x.f4, .int .i64 x.f5, .int .i64 x.f6, .int .i64 x.f7, .int .i64 x.f8, .int .i64 x.f9, .int .i64 x.f10], rfl, rfl, ⟨[.int .i64 x.f1], [.int .i64 x.f2, .int .i64 x.f3, .int .i64 x.f4, .int .i64 x.f5, .int .i64 x.f6, .int .i64 x.f7, .int .i64 x.f8, .int .i64 x.f9, .int .i64 x.f10], rfl, rfl, ⟨[.int .i64 x.f2], [.int .i64 x.f3, .int .i64 x.f4, .int .i64 x.f5, .int .i64 x.f6, .int .i64 x.f7, .int .i64 x.f8, .int .i64 x.f9, .int .i64 x.f10], rfl, rfl, ⟨[.int .i64 x.f3], [.int .i64 x.f4, .int .i64 x.f5, .int .i64 x.f6, .int .i64 x.f7, .int .i64 x.f8, .int .i64 x.f9, .int .i64 x.f10], rfl, rfl, ⟨[.int .i64 x.f4], [.int .i64 x.f5, .int .i64 x.f6, .int .i64 x.f7, .int .i64 x.f8, .int .i64 x.f9, .int .i64 x.f10], rfl, rfl, ⟨[.int .i64 x.f5], [.int .i64 x.f6, .int .i64 x.f7, .int .i64 x.f8, .int .i64 x.f9, .int .i64 x.f10], rfl, rfl, ⟨[.int .i64 x.f6], [.int .i64 x.f7, .int .i64 x.f8, .int .i64 x.f9, .int .i64 x.f10], rfl, rfl, ⟨[.int .i64 x.f7], [.int .i64 x.f8, .int .i64 x.f9, .int .i64 x.f10], rfl, rfl, ⟨[.int .i64 x.f8], [.int .i64 x.f9, .int .i64 x.f10], rfl, rfl, ⟨[.int .i64 x.f9], [.int .i64 x.f10], rfl, rfl, rfl⟩⟩⟩⟩⟩⟩⟩⟩⟩⟩
theorem k39_mkM (w : World) (base : Nat) (ok : Nat → Prop) (x : S39)  : k39.M w base ok x [.int .i64 x.f0, .int .i64 x.f1, .int .i64 x.f2, .int .i64 x.f3, .int .i64 x.f4, .int .i64 x.f5, .int .i64 x.f6, .int .i64 x.f7, .int .i64 x.f8, .int .i64 x.f9, .int .i64 x.f10] := ⟨[.int .i64 x.f0], [.int .i64 x.f1, .int .i64 x.f2, .int .i64 x.f3, .int .i64 x.f4, .int .i64 x.f5, .int .i64 x.f6, .int .i64 x.f7, .int .i64 x.f8, .int .i64 x.f9, .int .i64 x.f10], rfl, rfl, ⟨[.int .i64 x.f1], [.int .i64 x.f2, .int .i64 x.f3, .int .i64 x.f4, .int .i64 x.f5, .int .i64 x.f6, .int .i64 x.f7, .int .i64 x.f8, .int .i64 x.f9, .int .i64 x.f10], rfl, rfl, ⟨[.int .i64 x.f2], [.int .i64 x.f3, .int .i64 x.f4, .int .i64 x.f5, .int .i64 x.f6, .int .i64 x.f7, .int .i64 x.f8, .int .i64 x.f9, .int .i64 x.f10], rfl, rfl, ⟨[.int .i64 x.f3], [.int .i64 x.f4, .int .i64 x.f5, .int .i64 x.f6, .int .i64 x.f7, .int .i64 x.f8, .int .i64 x.f9, .int .i64 x.f10], rfl, rfl, ⟨[.int .i64 x.f4], [.int .i64 x.f5, .int .i64 x.f6, .int .i64 x.f7, .int .i64 x.f8, .int .i64 x.f9, .int .i64 x.f10], rfl, rfl, ⟨[.int .i64 x.f5], [.int .i64 x.f6, .int .i64 x.f7, .int .i64 x.f8, .int .i64 x.f9, .int .i64 x.f10], rfl, rfl, ⟨[.int .i64 x.f6], [.int .i64 x.f7, .int .i64 x.f8, .int .i64 x.f9, .int .i64 x.f10], rfl, rfl, ⟨[.int .i64 x.f7], [.int .i64 x.f8, .int .i64 x.f9, .int .i64 x.f10], rfl, rfl, ⟨[.int .i64 x.f8], [.int .i64 x.f9, .int .i64 x.f10], rfl, rfl, ⟨[.int .i64 x.f9], [.int .i64 x.f10], rfl, rfl, rfl⟩⟩⟩⟩⟩⟩⟩⟩⟩⟩
def rd_T39 (xs : List S39) (i : Int) : S39 := xs.getD i.toNat z39
theorem at_T39 {w : World} {A : Option Addr} {n : Nat} {xs : List S39} (h : Kd.C k39 w A n xs) (i : Int) (h0 : 0 ≤ i) (h1 : i < n) : ∃ ad , A = some ad ∧ w.cell? (ad.add (i.toNat * 11)) = some (.int .i64 (rd_T39 xs i).f0) ∧ w.cell? ⟨(ad.add (i.toNat * 11)).block, (ad.add (i.toNat * 11)).off + 1, none⟩ = some (.int .i64 (rd_T39 xs i).f1) ∧ w.cell? ⟨(ad.add (i.toNat * 11)).block, (ad.add (i.toNat * 11)).off + 2, none⟩ = some (.int .i64 (rd_T39 xs i).f2) ∧ w.cell? ⟨(ad.add (i.toNat * 11)).block, (ad.add (i.toNat * 11)).off + 3, none⟩ = some (.int .i64 (rd_T39 xs i).f3) ∧ w.cell? ⟨(ad.add (i.toNat * 11)).block, (ad.add (i.toNat * 11)).off + 4, none⟩ = some (.int .i64 (rd_T39 xs i).f4) ∧ w.cell? ⟨(ad.add (i.toNat * 11)).block, (ad.add (i.toNat * 11)).off + 5, none⟩ = some (.int .i64 (rd_T39 xs i).f5) ∧ w.cell? ⟨(ad.add (i.toNat * 11)).block, (ad.add (i.toNat * 11)).off + 6, none⟩ = some (.int .i64 (rd_T39 xs i).f6) ∧ w.cell? ⟨(ad.add (i.toNat * 11)).block, (ad.add (i.toNat * 11)).off + 7, none⟩ = some (.int .i64 (rd_T39 xs i).f7) ∧ w.cell? ⟨(ad.add (i.toNat * 11)).block, (ad.add (i.toNat * 11)).off + 8, none⟩ = some (.int .i64 (rd_T39 xs i).f8) ∧ w.cell? ⟨(ad.add (i.toNat * 11)).block, (ad.add (i.toNat * 11)).off + 9, none⟩ = some (.int .i64 (rd_T39 xs i).f9) ∧ w.cell? ⟨(ad.add (i.toNat * 11)).block, (ad.add (i.toNat * 11)).off + 10, none⟩ = some (.int .i64 (rd_T39 xs i).f10) := by
 obtain ⟨ad, c, e, _, hK, hc0⟩ := Kd.C_get h z39 i h0 h1
 have hc : ∀ j u, c[j]? = some u → w.cell? (ad.add (i.toNat * 11 + j)) = some u := hc0
 obtain rfl := k39_open hK
 exact ⟨ad, e, hc 0 _ rfl, by rw [← add_field _ _ 1 (by omega)]; exact hc 1 _ rfl, by rw [← add_field _ _ 2 (by omega)]; exact hc 2 _ rfl, by rw [← add_field _ _ 3 (by omega)]; exact hc 3 _ rfl, by rw [← add_field _ _ 4 (by omega)]; exact hc 4 _ rfl, by rw [← add_field _ _ 5 (by omega)]; exact hc 5 _ rfl, by rw [← add_field _ _ 6 (by omega)]; exact hc 6 _ rfl, by rw [← add_field _ _ 7 (by omega)]; exact hc 7 _ rfl, by rw [← add_field _ _ 8 (by omega)]; exact hc 8 _ rfl, by rw [← add_field _ _ 9 (by omega)]; exact hc 9 _ rfl, by rw [← add_field _ _ 10 (by omega)]; exact hc 10 _ rfl⟩
structure S25 where
 f0 : Int
 f1 : Int
def z25 : S25 := ⟨(0 : Int), (0 : Int)⟩
def k25 : Kd S25 := Kd.iso (Kd.pair (Kd.int .i64) (Kd.int .i64)) (fun x : S25 => (x.f0, x.f1))
theorem k25_open {w : World} {x : S25} {cs : List Value} (h : k25.K w x cs) : cs = [.int .i64 x.f0, .int .i64 x.f1] := by
 obtain ⟨_, _, rfl, rfl, rfl⟩ := h
 exact rfl
theorem k25_mk (w : World) (x : S25)  : k25.K w x [.int .i64 x.f0, .int .i64 x.f1] := ⟨[.int .i64 x.f0], [.int .i64 x.f1], rfl, rfl, rfl⟩
theorem k25_mkM (w : World) (base : Nat) (ok : Nat → Prop) (x : S25)  : k25.M w base ok x [.int .i64 x.f0, .int .i64 x.f1] := ⟨[.int .i64 x.f0], [.int .i64 x.f1], rfl, rfl, rfl⟩
def rd_T25 (xs : List S25) (i : Int) : S25 := xs.getD i.toNat z25
theorem at_T25 {w : World} {A : Option Addr} {n : Nat} {xs : List S25} (h : Kd.C k25 w A n xs) (i : Int) (h0 : 0 ≤ i) (h1 : i < n) : ∃ ad , A = some ad ∧ w.cell? (ad.add (i.toNat * 2)) = some (.int .i64 (rd_T25 xs i).f0) ∧ w.cell? ⟨(ad.add (i.toNat * 2)).block, (ad.add (i.toNat * 2)).off + 1, none⟩ = some (.int .i64 (rd_T25 xs i).f1) := by
 obtain ⟨ad, c, e, _, hK, hc0⟩ := Kd.C_get h z25 i h0 h1
 have hc : ∀ j u, c[j]? = some u → w.cell? (ad.add (i.toNat * 2 + j)) = some u := hc0
 obtain rfl := k25_open hK
 exact ⟨ad, e, hc 0 _ rfl, by rw [← add_field _ _ 1 (by omega)]; exact hc 1 _ rfl⟩
def rd_L4 (xs : List (List S39)) (i : Int) : (List S39) := xs.getD i.toNat ([] : List S39)
theorem at_L4 {w : World} {A : Option Addr} {n : Nat} {xs : List (List S39)} (h : Kd.C (Kd.slice 39 k39) w A n xs) (i : Int) (h0 : 0 ≤ i) (h1 : i < n) : ∃ ad A0 c0, A = some ad ∧ w.cell? (ad.add i.toNat) = some (.slice A0 (rd_L4 xs i).length c0) ∧ (rd_L4 xs i).length ≤ c0 ∧ k39.C w A0 (rd_L4 xs i).length (rd_L4 xs i) := by
 obtain ⟨ad, c, e, _, hK, hc0⟩ := Kd.C_get h ([] : List S39) i h0 h1
 have hc : ∀ j u, c[j]? = some u → w.cell? (ad.add (i.toNat * 1 + j)) = some u := hc0
 obtain ⟨A0, c0, rfl, l0, g0⟩ := hK
 exact ⟨ad, A0, c0, e, by have hq := hc 0 _ rfl; rwa [Nat.mul_one, Nat.add_zero] at hq, l0, g0⟩
end Go.Proofs.YtcalkhlchjjalaaDoor.Q

namespace Go.Proofs.YtcalkhlchjjalaaDoor.Q
open Go Go.RowKit Go.Proofs Go.Proofs.YtcalkhlchjjalaaDoorW.PrintWords Go.Proofs.YtcalkhlchjjalaaDoorW.PrintLast Go.Proofs.YtcalkhlchjjalaaDoorW.PrintMore
set_option linter.unusedVariables false
structure Fm where
 a0 : Int
 a1 : Int
 b0 : Int
 b1 : Int
 c0 : Int
 c1 : Int
 d0 : Int
 d1 : Int
 cnt : Bool
 lck : Bool
def fm : Nat → Fm
 | 1 => ⟨0, 63, 0, 2147483646, 1, 1024, 1, 65536, true, false⟩
 | 2 => ⟨0, 63, 0, 0, 0, 0, 1, 65536, true, false⟩
 | 3 => ⟨0, 63, 0, 0, 0, 0, 0, 0, false, false⟩
 | 4 => ⟨0, 63, 0, 2147483646, 1, 1024, 0, 0, false, false⟩
 | 5 => ⟨0, 63, 0, 0, 0, 0, 0, 0, false, false⟩
 | 6 => ⟨0, 2147483646, 0, 2147483646, 0, 256, 0, 0, false, false⟩
 | 7 => ⟨0, 2147483646, 0, 2147483646, 1, 1024, 0, 4294967293, false, true⟩
 | 8 => ⟨0, 2147483646, 0, 4294967293, 0, 0, 0, 0, false, false⟩
 | _ => ⟨0, 0, 0, 0, 0, 0, 0, 0, false, false⟩
structure FmAt (w : World) (k : Nat) (f : Fm) : Prop where
 h0 : w.cell? ⟨2, k * 10, none⟩ = some (.int .i64 f.a0)
 h1 : w.cell? ⟨2, k * 10 + 1, none⟩ = some (.int .i64 f.a1)
 h2 : w.cell? ⟨2, k * 10 + 2, none⟩ = some (.int .i64 f.b0)
 h3 : w.cell? ⟨2, k * 10 + 3, none⟩ = some (.int .i64 f.b1)
 h4 : w.cell? ⟨2, k * 10 + 4, none⟩ = some (.int .i64 f.c0)
 h5 : w.cell? ⟨2, k * 10 + 5, none⟩ = some (.int .i64 f.c1)
 h6 : w.cell? ⟨2, k * 10 + 6, none⟩ = some (.int .i64 f.d0)
 h7 : w.cell? ⟨2, k * 10 + 7, none⟩ = some (.int .i64 f.d1)
 h8 : w.cell? ⟨2, k * 10 + 8, none⟩ = some (.bool f.cnt)
 h9 : w.cell? ⟨2, k * 10 + 9, none⟩ = some (.bool f.lck)
structure GL (w : World) : Prop where
 p0 : w.cell? ⟨0, 0, none⟩ = some (.int .i64 1)
 p1 : w.cell? ⟨0, 1, none⟩ = some (.int .i64 2147483646)
 n0 : w.cell? ⟨1, 0, none⟩ = some (.int .i64 0)
 n1 : w.cell? ⟨1, 1, none⟩ = some (.int .i64 2147483646)
 f : ∀ k, 1 ≤ k → k ≤ 8 → FmAt w k (fm k)
theorem GL.below {w w' : World} {B : Nat} (h : GL w) (hb : Below B w w') (hB : w.heap.size ≤ B) : GL w' := by
 have c : ∀ {a : Addr} {v : Value}, w.cell? a = some v → w'.cell? a = some v := fun {a v} hc => (hb.cell (Nat.lt_of_lt_of_le (World.block_lt_of_cell? w a hc) hB)).trans hc
 refine ⟨c h.p0, c h.p1, c h.n0, c h.n1, fun k h1 h2 => ?_⟩
 obtain ⟨g0, g1, g2, g3, g4, g5, g6, g7, g8, g9⟩ := h.f k h1 h2
 exact ⟨c g0, c g1, c g2, c g3, c g4, c g5, c g6, c g7, c g8, c g9⟩
theorem GL.step {w w' : World} (h : GL w) (hb : Below w.heap.size w w') : GL w' := h.below hb (Nat.le_refl _)
theorem GL.alloc {w : World} (h : GL w) (o : Obj) : GL (w.alloc o) := h.step (below_alloc (Below.refl _ _) o)
def hold (l m n : Int) : Bool := decide (l ≤ n) && decide (n ≤ m)
theorem holds_x (l m n : Int) (b : Bool) (hb : hold l m n = b) (w : World) : Calls Tryd.prog 28 #[.agg #[.int .i64 l, .int .i64 m], .int .i64 n] w fun e w' => e = .returned (.bool b) ∧ w' = w.alloc (.cells #[.int .i64 l, .int .i64 m] 61) := by
 subst hb
 have hu := Tryd.underlying61
 unfold hold
 by_cases h1 : l ≤ n
 ·have d1 := decide_eq_true h1
  rw [d1, Bool.true_and]
  go_enter Tryd.func28, Tryd.ntmps28
  go_wp2
  go_ret
  exact ⟨rfl, rfl⟩
 ·have d1 := decide_eq_false h1
  rw [d1, Bool.false_and]
  go_enter Tryd.func28, Tryd.ntmps28
  go_wp2
  go_ret
  exact ⟨rfl, rfl⟩
end Go.Proofs.YtcalkhlchjjalaaDoor.Q

namespace Go.Proofs.YtcalkhlchjjalaaDoor.Gla
open Go Go.ChangeShapes Go.WideShapes Go.RowKit Go.Proofs Go.Proofs.YtcalkhlchjjalaaDoor.Q
set_option linter.unusedVariables false
abbrev Lst : List (String × DataW Unit) := [("storagebarter/statement.number", Rows.laid_storagebarter_statement_number), ("storagebarter/statement.person", Rows.laid_storagebarter_statement_person), ("storagebarter/statement.forms", Rows.laid_storagebarter_statement_forms)]
section
variable {W : World} {fuel : Nat} {cs : List Value} {p : List MemPlace}
theorem cI : Tryd.prog.cellsOf 3 = 1 := by kernel_rfl
theorem cB : Tryd.prog.cellsOf 4 = 1 := by kernel_rfl
theorem cL : Tryd.prog.cellsOf 61 = 2 := by kernel_rfl
theorem cF : Tryd.prog.cellsOf 77 = 10 := by kernel_rfl
theorem limit_cells {a b : Int} (h : DataW.trod (fun _ => ()) Tryd.prog W 0 (fun _ => true) false fuel 61 cs = some (.agg [.lit (.int .i64 a), .lit (.int .i64 b)], p)) : cs[0]? = some (.int .i64 a) ∧ cs[1]? = some (.int .i64 b) := by
 obtain ⟨y0, y1, n, e, hl, h0, h1⟩ := trod_struct2 Tryd.underlying61 h
 obtain ⟨z0, c0, rfl, _⟩ := DataW.trod_int Tryd.underlying3 h0
 obtain ⟨z1, c1, rfl, _⟩ := DataW.trod_int Tryd.underlying3 h1
 simp at e
 obtain ⟨⟨rfl, rfl⟩, _⟩ := e
 rw [cI] at c0 c1
 have e0 := congrArg (·[0]?) c0
 have e1 := congrArg (·[0]?) c1
 simp only [List.getElem?_take, List.getElem?_drop] at e0 e1
 exact ⟨by simpa using e0, by simpa using e1⟩
theorem form_cells {a0 a1 b0 b1 c0 c1 d0 d1 : Int} {x y : Bool} (h : DataW.trod (fun _ => ()) Tryd.prog W 0 (fun _ => true) false fuel 77 cs = some (.agg [.agg [.lit (.int .i64 a0), .lit (.int .i64 a1)], .agg [.lit (.int .i64 b0), .lit (.int .i64 b1)], .agg [.lit (.int .i64 c0), .lit (.int .i64 c1)], .agg [.lit (.int .i64 d0), .lit (.int .i64 d1)], .lit (.bool x), .lit (.bool y)], p)) :
 cs[0]? = some (.int .i64 a0) ∧ cs[1]? = some (.int .i64 a1) ∧ cs[2]? = some (.int .i64 b0) ∧ cs[3]? = some (.int .i64 b1) ∧ cs[4]? = some (.int .i64 c0) ∧ cs[5]? = some (.int .i64 c1) ∧ cs[6]? = some (.int .i64 d0) ∧ cs[7]? = some (.int .i64 d1) ∧ cs[8]? = some (.bool x) ∧ cs[9]? = some (.bool y) := by
 obtain ⟨xs, n, rfl, hx, hl, hlen, hf⟩ := DataW.trod_struct Tryd.underlying77 h
 match xs, hlen with
 | [y0, y1, y2, y3, y4, y5], _ =>
  have f0 := hf 0 _ rfl
  have f1 := hf 1 _ rfl
  have f2 := hf 2 _ rfl
  have f3 := hf 3 _ rfl
  have f4 := hf 4 _ rfl
  have f5 := hf 5 _ rfl
  obtain ⟨q0, r0⟩ := y0
  obtain ⟨q1, r1⟩ := y1
  obtain ⟨q2, r2⟩ := y2
  obtain ⟨q3, r3⟩ := y3
  obtain ⟨q4, r4⟩ := y4
  obtain ⟨q5, r5⟩ := y5
  simp at hx
  obtain ⟨⟨rfl, rfl, rfl, rfl, rfl, rfl⟩, _⟩ := hx
  simp at f0 f1 f2 f3 f4 f5
  rw [cL] at f0 f1 f2 f3
  rw [cB] at f4 f5
  have g0 := limit_cells f0
  have g1 := limit_cells f1
  have g2 := limit_cells f2
  have g3 := limit_cells f3
  obtain ⟨z4, g4, e4⟩ := DataW.trod_bool Tryd.underlying4 f4
  obtain ⟨z5, g5, e5⟩ := DataW.trod_bool Tryd.underlying4 f5
  have g4 := congrArg (·[0]?) g4
  have g5 := congrArg (·[0]?) g5
  simp at e4 e5
  obtain ⟨rfl, -⟩ := e4
  obtain ⟨rfl, -⟩ := e5
  simp [List.getElem?_drop] at g0 g1 g2 g3 g4 g5
  exact ⟨g0.1, g0.2, g1.1, g1.2, g2.1, g2.2, g3.1, g3.2, g4, g5⟩
end
theorem gN0 : Tryd.prog.globalNamed "storagebarter/statement.person" = some 0 := by kernel_rfl
theorem gN1 : Tryd.prog.globalNamed "storagebarter/statement.number" = some 1 := by kernel_rfl
theorem gN2 : Tryd.prog.globalNamed "storagebarter/statement.forms" = some 2 := by kernel_rfl
theorem gT0 : (Tryd.prog.globals[0]?).map (·.type) = some 61 := by kernel_rfl
theorem gT1 : (Tryd.prog.globals[1]?).map (·.type) = some 61 := by kernel_rfl
theorem gT2 : (Tryd.prog.globals[2]?).map (·.type) = some 78 := by kernel_rfl
theorem GL_of_laid {W : World} (h : laidMetH Tryd.prog Lst W) : GL W := by
 rw [MakeChecks.laidMetH_plain _ _ _ (by kernel_rfl)] at h
 obtain ⟨ps, ⟨g1, t1, cs1, fu1, p1, q1, hg1, ht1, hv1, hd1, ⟨g0, t0, cs0, fu0, p0, q0, hg0, ht0, hv0, hd0, ⟨g2, t2, cs2, fu2, p2, q2, hg2, ht2, hv2, hd2, _, _⟩, _⟩, _⟩, _, _⟩ := h
 obtain rfl := Option.some.inj (gN0.symm.trans hg0)
 obtain rfl := Option.some.inj (gN1.symm.trans hg1)
 obtain rfl := Option.some.inj (gN2.symm.trans hg2)
 obtain rfl := Option.some.inj (gT0.symm.trans ht0)
 obtain rfl := Option.some.inj (gT1.symm.trans ht1)
 obtain rfl := Option.some.inj (gT2.symm.trans ht2)
 obtain ⟨a0, a1⟩ := limit_cells hd0
 obtain ⟨b0, b1⟩ := limit_cells hd1
 obtain ⟨xs, m, _, ex, _, hl, hel⟩ := DataW.trod_array Tryd.underlying78 hd2
 have e3 : xs.map (·.1) = _ := (DataW.agg.inj (Prod.mk.inj ex).1).symm
 have w0 := fun i => World.var?_cell gN0 hv0 i
 have w1 := fun i => World.var?_cell gN1 hv1 i
 have w2 := fun i => World.var?_cell gN2 hv2 i
 have forms : ∀ k, 1 ≤ k → k ≤ 8 → FmAt W k (fm k) := by
  intro k hk1 hk2
  have hE := hel k (by omega)
  rw [cF, List.getElem?_eq_getElem (by omega)] at hE
  have e4 : (xs.map (·.1))[k]? = some xs[k].1 := by rw [List.getElem?_map, List.getElem?_eq_getElem (by omega)]; rfl
  rw [e3] at e4
  obtain ⟨xk, hxk⟩ : ∃ xk, xs[k] = xk := ⟨_, rfl⟩
  rw [hxk] at hE e4
  obtain ⟨d, q⟩ := xk
  have hsel : ∀ f : Fm, d = .agg [.agg [.lit (.int .i64 f.a0), .lit (.int .i64 f.a1)], .agg [.lit (.int .i64 f.b0), .lit (.int .i64 f.b1)], .agg [.lit (.int .i64 f.c0), .lit (.int .i64 f.c1)], .agg [.lit (.int .i64 f.d0), .lit (.int .i64 f.d1)], .lit (.bool f.cnt), .lit (.bool f.lck)] → FmAt W k f := by
   rintro f rfl
   obtain ⟨h0, h1, h2, h3, h4, h5, h6, h7, h8, h9⟩ := form_cells hE
   simp [List.getElem?_drop] at h0 h1 h2 h3 h4 h5 h6 h7 h8 h9
   exact ⟨(w2 _).trans (by simpa using h0), (w2 _).trans (by simpa using h1), (w2 _).trans (by simpa using h2), (w2 _).trans (by simpa using h3), (w2 _).trans (by simpa using h4), (w2 _).trans (by simpa using h5), (w2 _).trans (by simpa using h6), (w2 _).trans (by simpa using h7), (w2 _).trans (by simpa using h8), (w2 _).trans (by simpa using h9)⟩
  apply hsel
  match k, hk1, hk2, e4 with
  | 1, _, _, e4 => exact (Option.some.inj e4).symm
  | 2, _, _, e4 => exact (Option.some.inj e4).symm
  | 3, _, _, e4 => exact (Option.some.inj e4).symm
  | 4, _, _, e4 => exact (Option.some.inj e4).symm
  | 5, _, _, e4 => exact (Option.some.inj e4).symm
  | 6, _, _, e4 => exact (Option.some.inj e4).symm
  | 7, _, _, e4 => exact (Option.some.inj e4).symm
  | 8, _, _, e4 => exact (Option.some.inj e4).symm
 exact ⟨(w0 0).trans (by simpa using a0), (w0 1).trans (by simpa using a1), (w1 0).trans (by simpa using b0), (w1 1).trans (by simpa using b1), forms⟩
end Go.Proofs.YtcalkhlchjjalaaDoor.Gla

namespace Go.Proofs.YtcalkhlchjjalaaDoor.Q
open Go Go.RowKit Go.Proofs Go.Proofs.YtcalkhlchjjalaaDoorW.PrintWords Go.Proofs.YtcalkhlchjjalaaDoorW.PrintLast Go.Proofs.YtcalkhlchjjalaaDoorW.PrintMore
set_option linter.unusedVariables false
def tailB (f : Fm) (a b c d : Int) : Bool := hold f.a0 f.a1 a && (hold f.b0 f.b1 b && (hold f.c0 f.c1 c && hold f.d0 f.d1 d))
def fitsB (kind tick a b c d : Int) : Bool :=
 if kind < 1 ∨ 9 ≤ kind then false
 else if (fm kind.toNat).cnt = true then (if d < 0 ∨ 1048576 < d then false else tailB (fm kind.toNat) a b c (d - tick))
 else if (fm kind.toNat).lck = true then (if d < 1 ∨ d % 3 ≠ 1 then false else tailB (fm kind.toNat) a b c (wrap64 (d.tdiv 3)))
 else tailB (fm kind.toNat) a b c d
theorem two_new (w : World) (cs ds : Array Value) (t u : TypeId) : ((w.alloc (.cells cs t)).alloc (.cells ds u)).heap[w.heap.size + 1]? = some (.cells ds u (0, 0)) := by
 have := heap_alloc_new (w.alloc (.cells cs t)) (.cells ds u)
 simpa using this
set_option maxRecDepth 100000 in
set_option maxHeartbeats 4000000 in
theorem fits_calls (f0 f1 f2 f3 f4 f5 f6 f7 f8 f9 f10 : Int) (w : World) (hG : GL w) (ht : 0 ≤ f4 ∧ f4 ≤ 1048576) (r : Bool) (hr : fitsB f5 f4 f6 f7 f8 f9 = r) :
 Calls Tryd.prog 41 #[.agg #[.int .i64 f0, .int .i64 f1, .int .i64 f2, .int .i64 f3, .int .i64 f4, .int .i64 f5, .int .i64 f6, .int .i64 f7, .int .i64 f8, .int .i64 f9, .int .i64 f10]] w fun e w' => e = .returned (.bool r) ∧ Below w.heap.size w w' := by
 have mixed : (Tryd.prog).follows .mixedOrders = true := by kernel_rfl
 have hu39 := Tryd.underlying39
 have hu61 := Tryd.underlying61
 have hu77 := Tryd.underlying77
 unfold fitsB at hr
 by_cases hk1 : f5 < 1
 ·rw [if_pos (.inl hk1)] at hr
  subst hr
  have d1 := decide_eq_true hk1
  have d1' : decide (1 ≤ f5) = false := decide_eq_false (by omega)
  clear hk1
  go_enter Tryd.func41, Tryd.ntmps41
  go_wp2
  go_ret
  exact ⟨rfl, below_alloc (Below.refl _ _) _⟩
 by_cases hk9 : 9 ≤ f5
 ·rw [if_pos (.inr hk9)] at hr
  subst hr
  have d1 := decide_eq_false hk1
  have d1' : decide (1 ≤ f5) = true := decide_eq_true (by omega)
  have d2 := decide_eq_true hk9
  clear hk1 hk9
  go_enter Tryd.func41, Tryd.ntmps41
  go_wp2
  go_ret
  exact ⟨rfl, below_alloc (Below.refl _ _) _⟩
 rw [if_neg (by omega)] at hr
 obtain ⟨k, rfl⟩ : ∃ k : Nat, f5 = k := ⟨f5.toNat, by omega⟩
 rw [Int.toNat_natCast] at hr
 have hF := hG.f k (by omega) (by omega)
 generalize fm k = F at hF hr
 obtain ⟨x0, x1, x2, x3, x4, x5, x6, x7, x8, x9⟩ := F
 obtain ⟨hx0, hx1, hx2, hx3, hx4, hx5, hx6, hx7, hx8, hx9⟩ := hF
 simp only at hr hx0 hx1 hx2 hx3 hx4 hx5 hx6 hx7 hx8 hx9
 unfold tailB at hr
 simp only at hr
 have hsz : 2 < w.heap.size := World.block_lt_of_cell? w _ hx0
 have ht1 := ht.1
 have ht2 := ht.2
 have hk3 : 1 ≤ k := by omega
 have hk4 : k ≤ 8 := by omega
 have d1 : decide ((k : Int) < 1) = false := decide_eq_false hk1
 have d2 : decide (9 ≤ (k : Int)) = false := decide_eq_false hk9
 have d3 : decide (1 ≤ (k : Int)) = true := decide_eq_true (by omega)
 have HR := Lib.hid hr
 clear hr ht hk1 hk9 hG
 go_enter Tryd.func41, Tryd.ntmps41
 go_upto_region 3 with fail
 go_cut [3, 4] (fun s3 s4 wx => s3 = .pointer (some ⟨w.heap.size + 1, 0, none⟩) ∧ s4 = .int .i64 f9 ∧ Aside0 (wx.heap[w.heap.size]? = some (.cells #[.int .i64 f0, .int .i64 f1, .int .i64 f2, .int .i64 f3, .int .i64 f4, .int .i64 (k : Int), .int .i64 f6, .int .i64 f7, .int .i64 f8, .int .i64 f9, .int .i64 f10] 39 (0, 0))) ∧ Aside0 (wx.heap[w.heap.size + 1]? = some (.cells #[.int .i64 x0, .int .i64 x1, .int .i64 x2, .int .i64 x3, .int .i64 x4, .int .i64 x5, .int .i64 x6, .int .i64 x7, .bool x8, .bool x9] 77 (0, 0))) ∧ Aside0 (Below w.heap.size w wx))
 case first =>
  go_region_with (fail)
  all_goals
   go_wp2_with fail
   go_meet
   refine ⟨rfl, rfl, ?_, ?_, ?_⟩
   ·exact ⟨blk_drew (blk_alloc (heap_alloc_new w _) _)⟩
   ·exact ⟨blk_drew (two_new w _ _ _ _)⟩
   ·exact ⟨by repeat (first | exact Below.refl _ _ | (with_reducible first | apply below_drew1 | apply below_alloc | apply pw_below_drewN))⟩
 case rest =>
  obtain ⟨rfl, rfl, B1, B2, HB⟩ := hcut
  have hc4 : wc.cell? ⟨w.heap.size, 4, none⟩ = some (.int .i64 f4) := (blk_cell B1.out 4).trans rfl
  have hc6 : wc.cell? ⟨w.heap.size, 6, none⟩ = some (.int .i64 f6) := (blk_cell B1.out 6).trans rfl
  have hc7 : wc.cell? ⟨w.heap.size, 7, none⟩ = some (.int .i64 f7) := (blk_cell B1.out 7).trans rfl
  have hc8 : wc.cell? ⟨w.heap.size, 8, none⟩ = some (.int .i64 f8) := (blk_cell B1.out 8).trans rfl
  have hy0 : wc.cell? ⟨w.heap.size + 1, 0, none⟩ = some (.int .i64 x0) := (blk_cell B2.out 0).trans rfl
  have hy1 : wc.cell? ⟨w.heap.size + 1, 1, none⟩ = some (.int .i64 x1) := (blk_cell B2.out 1).trans rfl
  have hy2 : wc.cell? ⟨w.heap.size + 1, 2, none⟩ = some (.int .i64 x2) := (blk_cell B2.out 2).trans rfl
  have hy3 : wc.cell? ⟨w.heap.size + 1, 3, none⟩ = some (.int .i64 x3) := (blk_cell B2.out 3).trans rfl
  have hy4 : wc.cell? ⟨w.heap.size + 1, 4, none⟩ = some (.int .i64 x4) := (blk_cell B2.out 4).trans rfl
  have hy5 : wc.cell? ⟨w.heap.size + 1, 5, none⟩ = some (.int .i64 x5) := (blk_cell B2.out 5).trans rfl
  have hy6 : wc.cell? ⟨w.heap.size + 1, 6, none⟩ = some (.int .i64 x6) := (blk_cell B2.out 6).trans rfl
  have hy7 : wc.cell? ⟨w.heap.size + 1, 7, none⟩ = some (.int .i64 x7) := (blk_cell B2.out 7).trans rfl
  have hy8 : wc.cell? ⟨w.heap.size + 1, 8, none⟩ = some (.bool x8) := (blk_cell B2.out 8).trans rfl
  have hy9 : wc.cell? ⟨w.heap.size + 1, 9, none⟩ = some (.bool x9) := (blk_cell B2.out 9).trans rfl
  have hz : w.heap.size + 1 < wc.heap.size := blk_lt B2.out
  have hz' : w.heap.size < wc.heap.size := Nat.lt_trans (Nat.lt_succ_self _) hz
  clear hx0 hx1 hx2 hx3 hx4 hx5 hx6 hx7 hx8 hx9 B1 B2 hsz d1 d2 d3 hk3 hk4
  cases x8 with
  | true =>
   by_cases g1 : f9 < 0
   ·have hr := HR.out
    rw [if_pos rfl, if_pos (.inl g1)] at hr
    subst hr
    have e1 := decide_eq_true g1
    have e1' : decide (0 ≤ f9) = false := decide_eq_false (by omega)
    clear g1 HR
    go_wp2
    go_ret
    exact ⟨rfl, by repeat (first | exact HB.out | (with_reducible first | apply below_alloc | apply pw_below_drewN | apply below_drew1))⟩
   by_cases g2 : 1048576 < f9
   ·have hr := HR.out
    rw [if_pos rfl, if_pos (.inr g2)] at hr
    subst hr
    have e1 := decide_eq_false g1
    have e1' : decide (0 ≤ f9) = true := decide_eq_true (by omega)
    have e2 := decide_eq_true g2
    clear g1 g2 HR
    go_wp2
    go_ret
    exact ⟨rfl, by repeat (first | exact HB.out | (with_reducible first | apply below_alloc | apply pw_below_drewN | apply below_drew1))⟩
   have e1 := decide_eq_false g1
   have e1' : decide (0 ≤ f9) = true := decide_eq_true (by omega)
   have e2 := decide_eq_false g2
   have g3 : 0 ≤ f9 := by omega
   have g4 : f9 ≤ 1048576 := by omega
   have hr := HR.out
   rw [if_pos rfl, if_neg (by omega)] at hr
   clear HR
   have HR := Lib.hid hr
   clear g1 g2 hr
   obtain ⟨b0, hb0⟩ : ∃ b, hold x0 x1 f6 = b := ⟨_, rfl⟩
   have H0 := Lib.hid hb0
   obtain ⟨b1, hb1⟩ : ∃ b, hold x2 x3 f7 = b := ⟨_, rfl⟩
   have H1 := Lib.hid hb1
   obtain ⟨b2, hb2⟩ : ∃ b, hold x4 x5 f8 = b := ⟨_, rfl⟩
   have H2 := Lib.hid hb2
   obtain ⟨b3, hb3⟩ : ∃ b, hold x6 x7 (f9 - f4) = b := ⟨_, rfl⟩
   have H3 := Lib.hid hb3
   have hr := HR.out
   rw [hb0, hb1, hb2, hb3] at hr
   clear hb0 hb1 hb2 hb3 HR
   cases b0 with
   | false =>
    obtain rfl : false = r := hr
    go_wp2_with (first | (go_at_call 28; with_reducible refine (holds_x _ _ _ false H0.out _).mono ?_; rintro e w' ⟨rfl, rfl⟩))
    go_ret
    exact ⟨rfl, by repeat (first | exact HB.out | (with_reducible first | apply below_alloc | apply pw_below_drewN | apply below_drew1))⟩
   | true =>
    cases b1 with
    | false =>
     obtain rfl : false = r := hr
     go_wp2_with (first | (go_at_call 28; with_reducible refine (holds_x _ _ _ true H0.out _).mono ?_; rintro e w' ⟨rfl, rfl⟩) | (go_at_call 28; with_reducible refine (holds_x _ _ _ false H1.out _).mono ?_; rintro e w' ⟨rfl, rfl⟩))
     go_ret
     exact ⟨rfl, by repeat (first | exact HB.out | (with_reducible first | apply below_alloc | apply pw_below_drewN | apply below_drew1))⟩
    | true =>
     cases b2 with
     | false =>
      obtain rfl : false = r := hr
      go_wp2_with (first | (go_at_call 28; with_reducible refine (holds_x _ _ _ true H0.out _).mono ?_; rintro e w' ⟨rfl, rfl⟩) | (go_at_call 28; with_reducible refine (holds_x _ _ _ true H1.out _).mono ?_; rintro e w' ⟨rfl, rfl⟩) | (go_at_call 28; with_reducible refine (holds_x _ _ _ false H2.out _).mono ?_; rintro e w' ⟨rfl, rfl⟩))
      go_ret
      exact ⟨rfl, by repeat (first | exact HB.out | (with_reducible first | apply below_alloc | apply pw_below_drewN | apply below_drew1))⟩
     | true =>
      obtain rfl : b3 = r := hr
      go_wp2_with (first | (go_at_call 28; with_reducible refine (holds_x _ _ _ true H0.out _).mono ?_; rintro e w' ⟨rfl, rfl⟩) | (go_at_call 28; with_reducible refine (holds_x _ _ _ true H1.out _).mono ?_; rintro e w' ⟨rfl, rfl⟩) | (go_at_call 28; with_reducible refine (holds_x _ _ _ true H2.out _).mono ?_; rintro e w' ⟨rfl, rfl⟩) | (go_at_call 28; with_reducible refine (holds_x _ _ _ b3 H3.out _).mono ?_; rintro e w' ⟨rfl, rfl⟩))
      go_ret
      exact ⟨rfl, by repeat (first | exact HB.out | (with_reducible first | apply below_alloc | apply pw_below_drewN | apply below_drew1))⟩
  | false =>
   cases x9 with
   | true =>
    by_cases g1 : f9 < 1
    ·have hr := HR.out
     rw [if_neg (by decide), if_pos rfl, if_pos (.inl g1)] at hr
     subst hr
     have e1 := decide_eq_true g1
     have e1' : decide (1 ≤ f9) = false := decide_eq_false (by omega)
     clear g1 HR
     go_wp2
     go_ret
     exact ⟨rfl, by repeat (first | exact HB.out | (with_reducible first | apply below_alloc | apply pw_below_drewN | apply below_drew1))⟩
    have g3 : 1 ≤ f9 := by omega
    by_cases g2 : f9 % 3 ≠ 1
    ·have hr := HR.out
     rw [if_neg (by decide), if_pos rfl, if_pos (.inr g2)] at hr
     subst hr
     have e1 := decide_eq_false g1
     have e1' : decide (1 ≤ f9) = true := decide_eq_true (by omega)
     have e2 : (f9 % 3 != 1) = true := bne_iff_ne.2 g2
     have e3 : (f9 % 3 == 1) = false := beq_eq_false_iff_ne.2 g2
     clear g1 g2 HR
     go_wp2
     go_ret
     exact ⟨rfl, by repeat (first | exact HB.out | (with_reducible first | apply below_alloc | apply pw_below_drewN | apply below_drew1))⟩
    have e1 := decide_eq_false g1
    have e1' : decide (1 ≤ f9) = true := decide_eq_true (by omega)
    have e2 : (f9 % 3 != 1) = false := bne_eq_false_iff_eq.2 (Decidable.not_not.1 g2)
    have e3 : (f9 % 3 == 1) = true := beq_iff_eq.2 (Decidable.not_not.1 g2)
    have hr := HR.out
    rw [if_neg (by decide), if_pos rfl, if_neg (by omega)] at hr
    clear HR
    have HR := Lib.hid hr
    clear g1 g2 hr
    obtain ⟨b0, hb0⟩ : ∃ b, hold x0 x1 f6 = b := ⟨_, rfl⟩
    have H0 := Lib.hid hb0
    obtain ⟨b1, hb1⟩ : ∃ b, hold x2 x3 f7 = b := ⟨_, rfl⟩
    have H1 := Lib.hid hb1
    obtain ⟨b2, hb2⟩ : ∃ b, hold x4 x5 f8 = b := ⟨_, rfl⟩
    have H2 := Lib.hid hb2
    obtain ⟨b3, hb3⟩ : ∃ b, hold x6 x7 (wrap64 (f9.tdiv 3)) = b := ⟨_, rfl⟩
    have H3 := Lib.hid hb3
    have hr := HR.out
    rw [hb0, hb1, hb2, hb3] at hr
    clear hb0 hb1 hb2 hb3 HR
    cases b0 with
    | false =>
     obtain rfl : false = r := hr
     go_wp2_with (first | (go_at_call 28; with_reducible refine (holds_x _ _ _ false H0.out _).mono ?_; rintro e w' ⟨rfl, rfl⟩))
     go_ret
     exact ⟨rfl, by repeat (first | exact HB.out | (with_reducible first | apply below_alloc | apply pw_below_drewN | apply below_drew1))⟩
    | true =>
     cases b1 with
     | false =>
      obtain rfl : false = r := hr
      go_wp2_with (first | (go_at_call 28; with_reducible refine (holds_x _ _ _ true H0.out _).mono ?_; rintro e w' ⟨rfl, rfl⟩) | (go_at_call 28; with_reducible refine (holds_x _ _ _ false H1.out _).mono ?_; rintro e w' ⟨rfl, rfl⟩))
      go_ret
      exact ⟨rfl, by repeat (first | exact HB.out | (with_reducible first | apply below_alloc | apply pw_below_drewN | apply below_drew1))⟩
     | true =>
      cases b2 with
      | false =>
       obtain rfl : false = r := hr
       go_wp2_with (first | (go_at_call 28; with_reducible refine (holds_x _ _ _ true H0.out _).mono ?_; rintro e w' ⟨rfl, rfl⟩) | (go_at_call 28; with_reducible refine (holds_x _ _ _ true H1.out _).mono ?_; rintro e w' ⟨rfl, rfl⟩) | (go_at_call 28; with_reducible refine (holds_x _ _ _ false H2.out _).mono ?_; rintro e w' ⟨rfl, rfl⟩))
       go_ret
       exact ⟨rfl, by repeat (first | exact HB.out | (with_reducible first | apply below_alloc | apply pw_below_drewN | apply below_drew1))⟩
      | true =>
       obtain rfl : b3 = r := hr
       go_wp2_with (first | (go_at_call 28; with_reducible refine (holds_x _ _ _ true H0.out _).mono ?_; rintro e w' ⟨rfl, rfl⟩) | (go_at_call 28; with_reducible refine (holds_x _ _ _ true H1.out _).mono ?_; rintro e w' ⟨rfl, rfl⟩) | (go_at_call 28; with_reducible refine (holds_x _ _ _ true H2.out _).mono ?_; rintro e w' ⟨rfl, rfl⟩) | (go_at_call 28; with_reducible refine (holds_x _ _ _ b3 H3.out _).mono ?_; rintro e w' ⟨rfl, rfl⟩))
       go_ret
       exact ⟨rfl, by repeat (first | exact HB.out | (with_reducible first | apply below_alloc | apply pw_below_drewN | apply below_drew1))⟩
   | false =>
    have hr := HR.out
    rw [if_neg (by decide), if_neg (by decide)] at hr
    clear HR
    have HR := Lib.hid hr
    clear hr
    obtain ⟨b0, hb0⟩ : ∃ b, hold x0 x1 f6 = b := ⟨_, rfl⟩
    have H0 := Lib.hid hb0
    obtain ⟨b1, hb1⟩ : ∃ b, hold x2 x3 f7 = b := ⟨_, rfl⟩
    have H1 := Lib.hid hb1
    obtain ⟨b2, hb2⟩ : ∃ b, hold x4 x5 f8 = b := ⟨_, rfl⟩
    have H2 := Lib.hid hb2
    obtain ⟨b3, hb3⟩ : ∃ b, hold x6 x7 f9 = b := ⟨_, rfl⟩
    have H3 := Lib.hid hb3
    have hr := HR.out
    rw [hb0, hb1, hb2, hb3] at hr
    clear hb0 hb1 hb2 hb3 HR
    cases b0 with
    | false =>
     obtain rfl : false = r := hr
     go_wp2_with (first | (go_at_call 28; with_reducible refine (holds_x _ _ _ false H0.out _).mono ?_; rintro e w' ⟨rfl, rfl⟩))
     go_ret
     exact ⟨rfl, by repeat (first | exact HB.out | (with_reducible first | apply below_alloc | apply pw_below_drewN | apply below_drew1))⟩
    | true =>
     cases b1 with
     | false =>
      obtain rfl : false = r := hr
      go_wp2_with (first | (go_at_call 28; with_reducible refine (holds_x _ _ _ true H0.out _).mono ?_; rintro e w' ⟨rfl, rfl⟩) | (go_at_call 28; with_reducible refine (holds_x _ _ _ false H1.out _).mono ?_; rintro e w' ⟨rfl, rfl⟩))
      go_ret
      exact ⟨rfl, by repeat (first | exact HB.out | (with_reducible first | apply below_alloc | apply pw_below_drewN | apply below_drew1))⟩
     | true =>
      cases b2 with
      | false =>
       obtain rfl : false = r := hr
       go_wp2_with (first | (go_at_call 28; with_reducible refine (holds_x _ _ _ true H0.out _).mono ?_; rintro e w' ⟨rfl, rfl⟩) | (go_at_call 28; with_reducible refine (holds_x _ _ _ true H1.out _).mono ?_; rintro e w' ⟨rfl, rfl⟩) | (go_at_call 28; with_reducible refine (holds_x _ _ _ false H2.out _).mono ?_; rintro e w' ⟨rfl, rfl⟩))
       go_ret
       exact ⟨rfl, by repeat (first | exact HB.out | (with_reducible first | apply below_alloc | apply pw_below_drewN | apply below_drew1))⟩
      | true =>
       obtain rfl : b3 = r := hr
       go_wp2_with (first | (go_at_call 28; with_reducible refine (holds_x _ _ _ true H0.out _).mono ?_; rintro e w' ⟨rfl, rfl⟩) | (go_at_call 28; with_reducible refine (holds_x _ _ _ true H1.out _).mono ?_; rintro e w' ⟨rfl, rfl⟩) | (go_at_call 28; with_reducible refine (holds_x _ _ _ true H2.out _).mono ?_; rintro e w' ⟨rfl, rfl⟩) | (go_at_call 28; with_reducible refine (holds_x _ _ _ b3 H3.out _).mono ?_; rintro e w' ⟨rfl, rfl⟩))
       go_ret
       exact ⟨rfl, by repeat (first | exact HB.out | (with_reducible first | apply below_alloc | apply pw_below_drewN | apply below_drew1))⟩
end Go.Proofs.YtcalkhlchjjalaaDoor.Q

namespace Go.Proofs.YtcalkhlchjjalaaDoor.Q
open Go Go.RowKit Go.Proofs Go.Proofs.YtcalkhlchjjalaaDoorW.PrintWords Go.Proofs.YtcalkhlchjjalaaDoorW.PrintLast Go.Proofs.YtcalkhlchjjalaaDoorW.PrintMore
set_option linter.unusedVariables false
def vldB (f0 f1 f2 f3 f4 f5 f6 f7 f8 f9 f10 : Int) : Bool := hold 1 2147483646 f0 && (hold 1 2147483646 f1 && ((!(f0 == f1)) && (decide (1 ≤ f2) && (decide (f2 ≤ 256) && (hold 0 2147483646 f3 && ((decide (1 < f2) || f3 == 0) && (decide (0 ≤ f4) && (decide (f4 ≤ 1048576) && (hold 0 2147483646 f10 && (fitsB f5 f4 f6 f7 f8 f9))))))))))
set_option maxRecDepth 100000 in
set_option maxHeartbeats 4000000 in
theorem valid_x (f0 f1 f2 f3 f4 f5 f6 f7 f8 f9 f10 : Int) (w : World) (hG : GL w) (r : Bool) (hr : vldB f0 f1 f2 f3 f4 f5 f6 f7 f8 f9 f10 = r) :
 Calls Tryd.prog 24 #[.agg #[.int .i64 f0, .int .i64 f1, .int .i64 f2, .int .i64 f3, .int .i64 f4, .int .i64 f5, .int .i64 f6, .int .i64 f7, .int .i64 f8, .int .i64 f9, .int .i64 f10]] w fun e w' => e = .returned (.bool r) ∧ Below w.heap.size w w' := by
 have hu39 := Tryd.underlying39
 have hu61 := Tryd.underlying61
 have HG := Aside0.mk hG
 obtain ⟨p0, p1, n0, n1, -⟩ := hG
 have hs2 : 2 < w.heap.size := World.block_lt_of_cell? w _ (HG.out.f 1 (by omega) (by omega)).h0
 have hs0 : 0 < w.heap.size := by omega
 have hs1 : 1 < w.heap.size := by omega
 have HR := Lib.hid hr
 clear hr
 obtain ⟨b0, hb0⟩ : ∃ b, hold 1 2147483646 f0 = b := ⟨_, rfl⟩
 have H0 := Lib.hid hb0
 clear hb0
 cases b0 with
 | false =>
  obtain rfl : false = r := by have hr := HR.out; unfold vldB at hr; simpa [H0.out] using hr
  go_enter Tryd.func24, Tryd.ntmps24
  go_wp2_with (first | (go_at_call 28; with_reducible refine (holds_x 1 2147483646 f0 false H0.out _).mono ?_; rintro e w' ⟨rfl, rfl⟩))
  go_ret
  exact ⟨rfl, by (repeat (first | exact Below.refl _ _ | (with_reducible first | apply below_alloc | apply pw_below_drewN | apply below_drew1)))⟩
 | true =>
  obtain ⟨b1, hb1⟩ : ∃ b, hold 1 2147483646 f1 = b := ⟨_, rfl⟩
  have H1 := Lib.hid hb1
  clear hb1
  cases b1 with
  | false =>
   obtain rfl : false = r := by have hr := HR.out; unfold vldB at hr; simpa [H0.out, H1.out] using hr
   go_enter Tryd.func24, Tryd.ntmps24
   go_wp2_with (first | (go_at_call 28; with_reducible refine (holds_x 1 2147483646 f0 true H0.out _).mono ?_; rintro e w' ⟨rfl, rfl⟩) | (go_at_call 28; with_reducible refine (holds_x 1 2147483646 f1 false H1.out _).mono ?_; rintro e w' ⟨rfl, rfl⟩))
   go_ret
   exact ⟨rfl, by (repeat (first | exact Below.refl _ _ | (with_reducible first | apply below_alloc | apply pw_below_drewN | apply below_drew1)))⟩
  | true =>
   by_cases e2 : f0 = f1
   case pos =>
    have g2 : (f0 == f1) = true := beq_iff_eq.2 e2
    have g2' : (f0 != f1) = false := bne_eq_false_iff_eq.2 e2
    clear e2
    obtain rfl : false = r := by have hr := HR.out; unfold vldB at hr; simpa [H0.out, H1.out, g2] using hr
    go_enter Tryd.func24, Tryd.ntmps24
    go_wp2_with (first | (go_at_call 28; with_reducible refine (holds_x 1 2147483646 f0 true H0.out _).mono ?_; rintro e w' ⟨rfl, rfl⟩) | (go_at_call 28; with_reducible refine (holds_x 1 2147483646 f1 true H1.out _).mono ?_; rintro e w' ⟨rfl, rfl⟩))
    go_ret
    exact ⟨rfl, by (repeat (first | exact Below.refl _ _ | (with_reducible first | apply below_alloc | apply pw_below_drewN | apply below_drew1)))⟩
   case neg =>
   have g2 : (f0 == f1) = false := beq_eq_false_iff_ne.2 e2
   have g2' : (f0 != f1) = true := bne_iff_ne.2 e2
   clear e2
   by_cases e3 : 1 ≤ f2
   case neg =>
    have g3 : decide (1 ≤ f2) = false := decide_eq_false e3
    have g3' : decide (f2 < 1) = true := decide_eq_true (by omega)
    clear e3
    obtain rfl : false = r := by have hr := HR.out; unfold vldB at hr; simpa [H0.out, H1.out, g2, g3] using hr
    go_enter Tryd.func24, Tryd.ntmps24
    go_wp2_with (first | (go_at_call 28; with_reducible refine (holds_x 1 2147483646 f0 true H0.out _).mono ?_; rintro e w' ⟨rfl, rfl⟩) | (go_at_call 28; with_reducible refine (holds_x 1 2147483646 f1 true H1.out _).mono ?_; rintro e w' ⟨rfl, rfl⟩))
    go_ret
    exact ⟨rfl, by (repeat (first | exact Below.refl _ _ | (with_reducible first | apply below_alloc | apply pw_below_drewN | apply below_drew1)))⟩
   case pos =>
   have g3 : decide (1 ≤ f2) = true := decide_eq_true e3
   have g3' : decide (f2 < 1) = false := decide_eq_false (by omega)
   clear e3
   by_cases e4 : f2 ≤ 256
   case neg =>
    have g4 : decide (f2 ≤ 256) = false := decide_eq_false e4
    have g4' : decide (256 < f2) = true := decide_eq_true (by omega)
    clear e4
    obtain rfl : false = r := by have hr := HR.out; unfold vldB at hr; simpa [H0.out, H1.out, g2, g3, g4] using hr
    go_enter Tryd.func24, Tryd.ntmps24
    go_wp2_with (first | (go_at_call 28; with_reducible refine (holds_x 1 2147483646 f0 true H0.out _).mono ?_; rintro e w' ⟨rfl, rfl⟩) | (go_at_call 28; with_reducible refine (holds_x 1 2147483646 f1 true H1.out _).mono ?_; rintro e w' ⟨rfl, rfl⟩))
    go_ret
    exact ⟨rfl, by (repeat (first | exact Below.refl _ _ | (with_reducible first | apply below_alloc | apply pw_below_drewN | apply below_drew1)))⟩
   case pos =>
   have g4 : decide (f2 ≤ 256) = true := decide_eq_true e4
   have g4' : decide (256 < f2) = false := decide_eq_false (by omega)
   clear e4
   obtain ⟨b5, hb5⟩ : ∃ b, hold 0 2147483646 f3 = b := ⟨_, rfl⟩
   have H5 := Lib.hid hb5
   clear hb5
   cases b5 with
   | false =>
    obtain rfl : false = r := by have hr := HR.out; unfold vldB at hr; simpa [H0.out, H1.out, g2, g3, g4, H5.out] using hr
    go_enter Tryd.func24, Tryd.ntmps24
    go_wp2_with (first | (go_at_call 28; with_reducible refine (holds_x 1 2147483646 f0 true H0.out _).mono ?_; rintro e w' ⟨rfl, rfl⟩) | (go_at_call 28; with_reducible refine (holds_x 1 2147483646 f1 true H1.out _).mono ?_; rintro e w' ⟨rfl, rfl⟩) | (go_at_call 28; with_reducible refine (holds_x 0 2147483646 f3 false H5.out _).mono ?_; rintro e w' ⟨rfl, rfl⟩))
    go_ret
    exact ⟨rfl, by (repeat (first | exact Below.refl _ _ | (with_reducible first | apply below_alloc | apply pw_below_drewN | apply below_drew1)))⟩
   | true =>
    obtain ⟨q1, hq1⟩ : ∃ b, decide (1 < f2) = b := ⟨_, rfl⟩
    obtain ⟨q2, hq2⟩ : ∃ b, (f3 == 0) = b := ⟨_, rfl⟩
    have g6 : (decide (1 < f2) || f3 == 0) = (q1 || q2) := by rw [hq1, hq2]
    cases q1 with
    | true =>
     rw [Bool.true_or] at g6
     by_cases e7 : 0 ≤ f4
     case neg =>
      have g7 : decide (0 ≤ f4) = false := decide_eq_false e7
      have g7' : decide (f4 < 0) = true := decide_eq_true (by omega)
      clear e7
      obtain rfl : false = r := by have hr := HR.out; unfold vldB at hr; simpa [H0.out, H1.out, g2, g3, g4, H5.out, g6, g7] using hr
      go_enter Tryd.func24, Tryd.ntmps24
      go_wp2_with (first | (go_at_call 28; with_reducible refine (holds_x 1 2147483646 f0 true H0.out _).mono ?_; rintro e w' ⟨rfl, rfl⟩) | (go_at_call 28; with_reducible refine (holds_x 1 2147483646 f1 true H1.out _).mono ?_; rintro e w' ⟨rfl, rfl⟩) | (go_at_call 28; with_reducible refine (holds_x 0 2147483646 f3 true H5.out _).mono ?_; rintro e w' ⟨rfl, rfl⟩))
      go_ret
      exact ⟨rfl, by (repeat (first | exact Below.refl _ _ | (with_reducible first | apply below_alloc | apply pw_below_drewN | apply below_drew1)))⟩
     case pos =>
     have g7 : decide (0 ≤ f4) = true := decide_eq_true e7
     have g7' : decide (f4 < 0) = false := decide_eq_false (by omega)
     have t1 := e7
     clear e7
     by_cases e8 : f4 ≤ 1048576
     case neg =>
      have g8 : decide (f4 ≤ 1048576) = false := decide_eq_false e8
      have g8' : decide (1048576 < f4) = true := decide_eq_true (by omega)
      clear e8
      obtain rfl : false = r := by have hr := HR.out; unfold vldB at hr; simpa [H0.out, H1.out, g2, g3, g4, H5.out, g6, g7, g8] using hr
      go_enter Tryd.func24, Tryd.ntmps24
      go_wp2_with (first | (go_at_call 28; with_reducible refine (holds_x 1 2147483646 f0 true H0.out _).mono ?_; rintro e w' ⟨rfl, rfl⟩) | (go_at_call 28; with_reducible refine (holds_x 1 2147483646 f1 true H1.out _).mono ?_; rintro e w' ⟨rfl, rfl⟩) | (go_at_call 28; with_reducible refine (holds_x 0 2147483646 f3 true H5.out _).mono ?_; rintro e w' ⟨rfl, rfl⟩))
      go_ret
      exact ⟨rfl, by (repeat (first | exact Below.refl _ _ | (with_reducible first | apply below_alloc | apply pw_below_drewN | apply below_drew1)))⟩
     case pos =>
     have g8 : decide (f4 ≤ 1048576) = true := decide_eq_true e8
     have g8' : decide (1048576 < f4) = false := decide_eq_false (by omega)
     have t2 := e8
     clear e8
     obtain ⟨b9, hb9⟩ : ∃ b, hold 0 2147483646 f10 = b := ⟨_, rfl⟩
     have H9 := Lib.hid hb9
     clear hb9
     cases b9 with
     | false =>
      obtain rfl : false = r := by have hr := HR.out; unfold vldB at hr; simpa [H0.out, H1.out, g2, g3, g4, H5.out, g6, g7, g8, H9.out] using hr
      go_enter Tryd.func24, Tryd.ntmps24
      go_wp2_with (first | (go_at_call 28; with_reducible refine (holds_x 1 2147483646 f0 true H0.out _).mono ?_; rintro e w' ⟨rfl, rfl⟩) | (go_at_call 28; with_reducible refine (holds_x 1 2147483646 f1 true H1.out _).mono ?_; rintro e w' ⟨rfl, rfl⟩) | (go_at_call 28; with_reducible refine (holds_x 0 2147483646 f3 true H5.out _).mono ?_; rintro e w' ⟨rfl, rfl⟩) | (go_at_call 28; with_reducible refine (holds_x 0 2147483646 f10 false H9.out _).mono ?_; rintro e w' ⟨rfl, rfl⟩))
      go_ret
      exact ⟨rfl, by (repeat (first | exact Below.refl _ _ | (with_reducible first | apply below_alloc | apply pw_below_drewN | apply below_drew1)))⟩
     | true =>
      replace HR : Hid (fitsB f5 f4 f6 f7 f8 f9 = r) := Lib.hid (by have hr := HR.out; unfold vldB at hr; simpa [H0.out, H1.out, g2, g3, g4, H5.out, g6, g7, g8, H9.out] using hr)
      have G6 := Lib.hid g6
      clear g6
      go_enter Tryd.func24, Tryd.ntmps24
      go_wp2_with (first | (go_at_call 28; with_reducible refine (holds_x 1 2147483646 f0 true H0.out _).mono ?_; rintro e w' ⟨rfl, rfl⟩) | (go_at_call 28; with_reducible refine (holds_x 1 2147483646 f1 true H1.out _).mono ?_; rintro e w' ⟨rfl, rfl⟩) | (go_at_call 28; with_reducible refine (holds_x 0 2147483646 f3 true H5.out _).mono ?_; rintro e w' ⟨rfl, rfl⟩) | (go_at_call 28; with_reducible refine (holds_x 0 2147483646 f10 true H9.out _).mono ?_; rintro e w' ⟨rfl, rfl⟩) | (go_at_call 41; with_reducible refine (fits_calls f0 f1 f2 f3 f4 f5 f6 f7 f8 f9 f10 _ ?gl ⟨t1, t2⟩ r HR.out).mono ?_; (case gl => (repeat apply GL.alloc); exact HG.out); rintro e w' ⟨rfl, hb⟩))
      go_ret
      exact ⟨rfl, below_step (by (repeat (first | exact Below.refl _ _ | (with_reducible first | apply below_alloc | apply pw_below_drewN | apply below_drew1)))) hb⟩
    | false =>
     cases q2 with
     | false =>
      rw [Bool.or_self] at g6
      obtain rfl : false = r := by have hr := HR.out; unfold vldB at hr; simpa [H0.out, H1.out, g2, g3, g4, H5.out, g6] using hr
      go_enter Tryd.func24, Tryd.ntmps24
      go_wp2_with (first | (go_at_call 28; with_reducible refine (holds_x 1 2147483646 f0 true H0.out _).mono ?_; rintro e w' ⟨rfl, rfl⟩) | (go_at_call 28; with_reducible refine (holds_x 1 2147483646 f1 true H1.out _).mono ?_; rintro e w' ⟨rfl, rfl⟩) | (go_at_call 28; with_reducible refine (holds_x 0 2147483646 f3 true H5.out _).mono ?_; rintro e w' ⟨rfl, rfl⟩))
      go_ret
      exact ⟨rfl, by (repeat (first | exact Below.refl _ _ | (with_reducible first | apply below_alloc | apply pw_below_drewN | apply below_drew1)))⟩
     | true =>
      rw [Bool.or_true] at g6
      by_cases e7 : 0 ≤ f4
      case neg =>
       have g7 : decide (0 ≤ f4) = false := decide_eq_false e7
       have g7' : decide (f4 < 0) = true := decide_eq_true (by omega)
       clear e7
       obtain rfl : false = r := by have hr := HR.out; unfold vldB at hr; simpa [H0.out, H1.out, g2, g3, g4, H5.out, g6, g7] using hr
       go_enter Tryd.func24, Tryd.ntmps24
       go_wp2_with (first | (go_at_call 28; with_reducible refine (holds_x 1 2147483646 f0 true H0.out _).mono ?_; rintro e w' ⟨rfl, rfl⟩) | (go_at_call 28; with_reducible refine (holds_x 1 2147483646 f1 true H1.out _).mono ?_; rintro e w' ⟨rfl, rfl⟩) | (go_at_call 28; with_reducible refine (holds_x 0 2147483646 f3 true H5.out _).mono ?_; rintro e w' ⟨rfl, rfl⟩))
       go_ret
       exact ⟨rfl, by (repeat (first | exact Below.refl _ _ | (with_reducible first | apply below_alloc | apply pw_below_drewN | apply below_drew1)))⟩
      case pos =>
      have g7 : decide (0 ≤ f4) = true := decide_eq_true e7
      have g7' : decide (f4 < 0) = false := decide_eq_false (by omega)
      have t1 := e7
      clear e7
      by_cases e8 : f4 ≤ 1048576
      case neg =>
       have g8 : decide (f4 ≤ 1048576) = false := decide_eq_false e8
       have g8' : decide (1048576 < f4) = true := decide_eq_true (by omega)
       clear e8
       obtain rfl : false = r := by have hr := HR.out; unfold vldB at hr; simpa [H0.out, H1.out, g2, g3, g4, H5.out, g6, g7, g8] using hr
       go_enter Tryd.func24, Tryd.ntmps24
       go_wp2_with (first | (go_at_call 28; with_reducible refine (holds_x 1 2147483646 f0 true H0.out _).mono ?_; rintro e w' ⟨rfl, rfl⟩) | (go_at_call 28; with_reducible refine (holds_x 1 2147483646 f1 true H1.out _).mono ?_; rintro e w' ⟨rfl, rfl⟩) | (go_at_call 28; with_reducible refine (holds_x 0 2147483646 f3 true H5.out _).mono ?_; rintro e w' ⟨rfl, rfl⟩))
       go_ret
       exact ⟨rfl, by (repeat (first | exact Below.refl _ _ | (with_reducible first | apply below_alloc | apply pw_below_drewN | apply below_drew1)))⟩
      case pos =>
      have g8 : decide (f4 ≤ 1048576) = true := decide_eq_true e8
      have g8' : decide (1048576 < f4) = false := decide_eq_false (by omega)
      have t2 := e8
      clear e8
      obtain ⟨b9, hb9⟩ : ∃ b, hold 0 2147483646 f10 = b := ⟨_, rfl⟩
      have H9 := Lib.hid hb9
      clear hb9
      cases b9 with
      | false =>
       obtain rfl : false = r := by have hr := HR.out; unfold vldB at hr; simpa [H0.out, H1.out, g2, g3, g4, H5.out, g6, g7, g8, H9.out] using hr
       go_enter Tryd.func24, Tryd.ntmps24
       go_wp2_with (first | (go_at_call 28; with_reducible refine (holds_x 1 2147483646 f0 true H0.out _).mono ?_; rintro e w' ⟨rfl, rfl⟩) | (go_at_call 28; with_reducible refine (holds_x 1 2147483646 f1 true H1.out _).mono ?_; rintro e w' ⟨rfl, rfl⟩) | (go_at_call 28; with_reducible refine (holds_x 0 2147483646 f3 true H5.out _).mono ?_; rintro e w' ⟨rfl, rfl⟩) | (go_at_call 28; with_reducible refine (holds_x 0 2147483646 f10 false H9.out _).mono ?_; rintro e w' ⟨rfl, rfl⟩))
       go_ret
       exact ⟨rfl, by (repeat (first | exact Below.refl _ _ | (with_reducible first | apply below_alloc | apply pw_below_drewN | apply below_drew1)))⟩
      | true =>
       replace HR : Hid (fitsB f5 f4 f6 f7 f8 f9 = r) := Lib.hid (by have hr := HR.out; unfold vldB at hr; simpa [H0.out, H1.out, g2, g3, g4, H5.out, g6, g7, g8, H9.out] using hr)
       have G6 := Lib.hid g6
       clear g6
       go_enter Tryd.func24, Tryd.ntmps24
       go_wp2_with (first | (go_at_call 28; with_reducible refine (holds_x 1 2147483646 f0 true H0.out _).mono ?_; rintro e w' ⟨rfl, rfl⟩) | (go_at_call 28; with_reducible refine (holds_x 1 2147483646 f1 true H1.out _).mono ?_; rintro e w' ⟨rfl, rfl⟩) | (go_at_call 28; with_reducible refine (holds_x 0 2147483646 f3 true H5.out _).mono ?_; rintro e w' ⟨rfl, rfl⟩) | (go_at_call 28; with_reducible refine (holds_x 0 2147483646 f10 true H9.out _).mono ?_; rintro e w' ⟨rfl, rfl⟩) | (go_at_call 41; with_reducible refine (fits_calls f0 f1 f2 f3 f4 f5 f6 f7 f8 f9 f10 _ ?gl ⟨t1, t2⟩ r HR.out).mono ?_; (case gl => (repeat apply GL.alloc); exact HG.out); rintro e w' ⟨rfl, hb⟩))
       go_ret
       exact ⟨rfl, below_step (by (repeat (first | exact Below.refl _ _ | (with_reducible first | apply below_alloc | apply pw_below_drewN | apply below_drew1)))) hb⟩
end Go.Proofs.YtcalkhlchjjalaaDoor.Q

namespace Go.Proofs.YtcalkhlchjjalaaDoor.Q
open Go.RowKit Go.Proofs.YtcalkhlchjjalaaDoorW.PrintWords Go.Proofs.YtcalkhlchjjalaaDoorW.PrintLast Go.Proofs.YtcalkhlchjjalaaDoorW.PrintMore Go.Proofs.YtcalkhlchjjalaaDoor.Gput
attribute [local go_sem] max2_int min2_int max_two min_two max_three min_three max_four min_four   -- for this text's walks alone
set_option linter.unusedVariables false
set_option linter.unusedSimpArgs false
def digest_Sum.l0 : Nat → ByteArray → Int → Int → Int → Option (Int)
 | 0, _, _, _, _ => none
 | k + 1, x0, x3, x6, x7 => if x7 < x6 then (if 0 ≤ x7 then (if x7 < (x0.size : Int) then (digest_Sum.l0 k x0 (Int.tmod (wrap64 ((wrap64 ((wrap64 (x3 * 1000003)) + (wrap64 (bt x0 x7)))) + 1)) 2147483647) x6 (wrap64 (x7 + 1))) else (none)) else (none)) else (some x3)
def digest_Sum.f (k : Nat) (a0 : ByteArray) : Option (Int) := digest_Sum.l0 k a0 1 (a0.size : Int) 0
theorem digest_Sum.mono_l : ∀ k, (∀ y0 y1 y2 y3, LeO (digest_Sum.l0 k y0 y1 y2 y3) (digest_Sum.l0 (k + 1) y0 y1 y2 y3))
 | 0 => fun _ _ _ _ r h => by simp [digest_Sum.l0] at h
 | k + 1 => by
  have ih0 := digest_Sum.mono_l k
  ·intro y0 y1 y2 y3
   unfold digest_Sum.l0
   repeat' first
   | (with_reducible exact ih0 _ _ _ _)
   | (with_reducible exact LeO.refl _)
   | (with_reducible exact LeO.none _)
   | (with_reducible refine LeO.ite ?_ ?_)
   | (with_reducible refine LeO.bind ?_ (fun _ => ?_))
   | exact ih0 _ _ _ _
   | exact LeO.none _
   | refine LeO.ite ?_ ?_
   | refine LeO.bind ?_ (fun _ => ?_)
theorem digest_Sum.mono : ∀ a0 k, LeO (digest_Sum.f k a0) (digest_Sum.f (k + 1) a0) := by
 intro a0 k
 have ih0 := digest_Sum.mono_l k
 unfold digest_Sum.f
 repeat' first
  | (with_reducible exact ih0 _ _ _ _)
  | (with_reducible exact LeO.refl _)
  | (with_reducible exact LeO.none _)
  | (with_reducible refine LeO.ite ?_ ?_)
  | (with_reducible refine LeO.bind ?_ (fun _ => ?_))
  | exact ih0 _ _ _ _
  | exact LeO.none _
  | refine LeO.ite ?_ ?_
  | refine LeO.bind ?_ (fun _ => ?_)
set_option maxHeartbeats 8000000 in
set_option maxRecDepth 100000 in
theorem digest_Sum.calls (k : Nat) (a0 : ByteArray) (r : Int) (w : World) (h : digest_Sum.f k a0 = some r) :
 Calls Tryd.prog 26 #[.string a0] w fun e w' => e = .returned (.int .i64 r) ∧ Drawn0 w w' := by
 have H : (digest_Sum.l0 k a0 1 (a0.size : Int) 0) = some r := h
 clear h
 have H' := Aside0.mk H
 clear H
 go_enter Tryd.func26, Tryd.ntmps26
 go_wp2
 go_loopg [3, 7] k (fun kq v3 v7 w' => ∃ (x3_1 : Int) (x7_1 : Int), v3 = .int .i64 x3_1 ∧ v7 = .int .i64 x7_1 ∧ Aside0 (digest_Sum.l0 kq a0 x3_1 (a0.size : Int) x7_1 = some r) ∧ Aside0 (kq ≤ k) ∧ Drawn0 w w')
 case atStart => exact ⟨(1), (0), (by first | rfl | (simp; done) | (simp [*]; done)), (by first | rfl | (simp; done) | (simp [*]; done)), H', ⟨Nat.le_refl _⟩, by repeat (first | exact Drawn0.refl _ | apply Drawn0.step)⟩
 case round =>
  clear H'
  obtain ⟨x3_1, x7_1, rfl, rfl, HA, HK1, ⟨m1, rfl⟩⟩ := hrel
  cases gk with
  | zero => exact absurd HA.out (by simp [digest_Sum.l0])
  | succ k1 =>
   have H := HA.out
   clear HA
   simp only [digest_Sum.l0] at H
   by_cases c2 : x7_1 < (a0.size : Int)
   ·rw [if_pos c2] at H
    have c2b0 : decide (x7_1 < (a0.size : Int)) = true := decide_eq_true c2
    clear c2
    by_cases c3 : 0 ≤ x7_1
    ·rw [if_pos c3] at H
     have c3b0 : decide (0 ≤ x7_1) = true := decide_eq_true c3
     clear c3
     by_cases c4 : x7_1 < (a0.size : Int)
     ·rw [if_pos c4] at H
      have c4b0 : decide (x7_1 < (a0.size : Int)) = true := decide_eq_true c4
      clear c4
      have H' := Aside0.mk H
      clear H
      have p5 : 0 ≤ (x7_1 : Int) := of_decide_eq_true (by first | (with_reducible assumption) | assumption)
      have q5 : x7_1 < (a0.size : Int) := of_decide_eq_true (by first | (with_reducible assumption) | assumption)
      have hx5 := bt_at a0 x7_1
      replace p5 := eq_true p5
      replace q5 := eq_true q5
      go_wp2
      go_roundg k1
      case measure => have := HK1.out; omega
      case rel => exact ⟨(Int.tmod (wrap64 ((wrap64 ((wrap64 (x3_1 * 1000003)) + (wrap64 (bt a0 x7_1)))) + 1)) 2147483647), (wrap64 (x7_1 + 1)), (by first | rfl | (simp; done) | (simp [*]; done)), (by first | rfl | (simp; done) | (simp [*]; done)), H', ⟨by have := HK1.out; omega⟩, by repeat (first | exact Drawn0.refl _ | apply Drawn0.step)⟩
     ·rw [if_neg c4] at H
      exact absurd H (by simp)
    ·rw [if_neg c3] at H
     exact absurd H (by simp)
   ·rw [if_neg c2] at H
    have c2b0 : decide (x7_1 < (a0.size : Int)) = false := decide_eq_false c2
    clear c2
    obtain rfl := Option.some.inj H
    go_wp2
    go_ret
    exact ⟨by first | rfl | (simp; done) | (simp [*]; done), by repeat (first | exact Drawn0.refl _ | apply Drawn0.step)⟩
end Go.Proofs.YtcalkhlchjjalaaDoor.Q

namespace Go.Proofs.YtcalkhlchjjalaaDoor.Q
open Go.RowKit Go.Proofs.YtcalkhlchjjalaaDoorW.PrintWords Go.Proofs.YtcalkhlchjjalaaDoorW.PrintLast Go.Proofs.YtcalkhlchjjalaaDoorW.PrintMore Go.Proofs.YtcalkhlchjjalaaDoor.Gput
attribute [local go_sem] max2_int min2_int max_two min_two max_three min_three max_four min_four   -- for this text's walks alone
set_option linter.unusedVariables false
set_option linter.unusedSimpArgs false
def IsS57 (w0 W : World) (g : Nat) (f0 : List Int) (f1 : Int) : Prop := ∃ A0 c0, W.heap[g]? = some (.cells #[.slice A0 f0.length c0, .int .i64 f1] 57 (0, 0)) ∧ w0.heap.size ≤ g ∧ Kd.C (Kd.int .i64) w0 A0 f0.length f0
theorem IsS57.grown {w0 W : World} {g : Nat} {f0 : List Int} {f1 : Int} {W1 : World} {row : Option Nat} (h : IsS57 w0 W g f0 f1) (hw : W.grownBy W1 row) (hne : some g ≠ row) : IsS57 w0 W1 g f0 f1 := by
 obtain ⟨A0, c0, hb, hg, hr0⟩ := h
 exact ⟨A0, c0, blk_grown hb hw hne, hg, hr0⟩
theorem IsS57.kept {w0 W : World} {g : Nat} {f0 : List Int} {f1 : Int} {W1 : World} {S : Nat → Prop} (h : IsS57 w0 W g f0 f1) (hk : Kept W W1 S) (hne : ¬ S g) : IsS57 w0 W1 g f0 f1 := by
 obtain ⟨A0, c0, hb, hg, hr0⟩ := h
 exact ⟨A0, c0, blk_kept hb hk hne, hg, hr0⟩
theorem IsS57.below {w0 W : World} {g : Nat} {f0 : List Int} {f1 : Int} {W1 : World} (h : IsS57 w0 W g f0 f1) (hw : Below W.heap.size W W1) : IsS57 w0 W1 g f0 f1 := h.grown (grown_of_below hw none) (by simp)
theorem IsS57.alloc {w0 W : World} {g : Nat} {f0 : List Int} {f1 : Int} (h : IsS57 w0 W g f0 f1) (o : Obj) : IsS57 w0 (W.alloc o) g f0 f1 := h.below (below_alloc (Below.refl _ _) o)
theorem IsS57.drewN {w0 W : World} {g : Nat} {f0 : List Int} {f1 : Int} (h : IsS57 w0 W g f0 f1) (m : Nat) : IsS57 w0 (W.drewN m) g f0 f1 := h
theorem IsS57.drew {w0 W : World} {g : Nat} {f0 : List Int} {f1 : Int} (h : IsS57 w0 W g f0 f1) : IsS57 w0 W.drew g f0 f1 := h
theorem IsS57.at_ {w0 W : World} {g : Nat} {f0 : List Int} {f1 : Int} {w' : World} {m : Nat} (hq : W.drewN m = w') (h : IsS57 w0 W g f0 f1) : IsS57 w0 w' g f0 f1 := by subst hq; exact IsS57.drewN h m
theorem IsS57.apart {w0 W : World} {g : Nat} {f0 : List Int} {f1 : Int} {α : Type} {d : Kd α} {e : Nat} {base : Nat} {ok : Nat → Prop} {v : Value} {xs : List α} (h : IsS57 w0 W g f0 f1) (ho : d.R e W base ok v xs) (ht : ∀ q, q ∈ e :: d.E → q ≠ 57) : d.R e W base (fun k => ok k ∧ k ≠ g) v xs := by
 obtain ⟨A0, c0, hb, hg, hr0⟩ := h
 exact Kd.R_types ho hb ht
theorem IsS57.own_ne {w0 W : World} {g : Nat} {f0 : List Int} {f1 : Int} {α : Type} {d : Kd α} {e : Nat} {base : Nat} {ok : Nat → Prop} {v : Value} {xs : List α} (h : IsS57 w0 W g f0 f1) (ho : d.R e W base ok v xs) (ht : e ≠ 57) : some g ≠ v.ownBlock := by
 obtain ⟨A0, c0, hb, hg, hr0⟩ := h
 exact Kd.R_ne ho hb ht
theorem IsS57.ge {w0 W : World} {g : Nat} {f0 : List Int} {f1 : Int} (h : IsS57 w0 W g f0 f1) : w0.heap.size ≤ g := by
 obtain ⟨A0, c0, hb, hg, hr0⟩ := h
 exact hg
theorem IsS57.far {w0 W : World} {g : Nat} {f0 : List Int} {f1 : Int} {p : Addr} (h : IsS57 w0 W g f0 f1) (hne : g ≠ p.block) (u : Value) : IsS57 w0 (W.setCell p u) g f0 f1 := by
 obtain ⟨A0, c0, hb, hg, hr0⟩ := h
 exact ⟨A0, c0, blk_far hb hne u, hg, hr0⟩
theorem cellS57_0 {W : World} {g : Nat} {A0 : Option Addr} {c0 : Nat} {f0 : List Int} {f1 : Int} (h : W.heap[g]? = some (.cells #[.slice A0 f0.length c0, .int .i64 f1] 57 (0, 0))) : W.cell? ⟨g, 0, none⟩ = some (.slice A0 f0.length c0) := (blk_cell h 0).trans rfl
theorem cellS57_1 {W : World} {g : Nat} {A0 : Option Addr} {c0 : Nat} {f0 : List Int} {f1 : Int} (h : W.heap[g]? = some (.cells #[.slice A0 f0.length c0, .int .i64 f1] 57 (0, 0))) : W.cell? ⟨g, 1, none⟩ = some (.int .i64 f1) := (blk_cell h 1).trans rfl
theorem IsS57.set_1 {w0 W : World} {g : Nat} {f0 : List Int} {f1 : Int} (h : IsS57 w0 W g f0 f1) (x : Int) : IsS57 w0 (W.setCell ⟨g, 1, none⟩ (.int .i64 x)) g f0 x := by
 obtain ⟨A0, c0, hb, hg, hr0⟩ := h
 exact ⟨A0, c0, by simpa using blk_set hb 1 (.int .i64 x), hg, hr0⟩
theorem IsS57.new (w0 W : World) (A0 : Option Addr) (c0 : Nat) (f0 : List Int) (f1 : Int) (hB : Below w0.heap.size w0 W) (hr0 : Kd.C (Kd.int .i64) w0 A0 f0.length f0) : IsS57 w0 (W.alloc (.cells #[.slice A0 f0.length c0, .int .i64 f1] 57)) W.heap.size f0 f1 := ⟨A0, c0, by simpa using heap_alloc_new W _, hB.size, hr0⟩
def storagebartermake_New.f (l0 : List Int) : Option (List Int × Int) := some (l0, 0)
set_option maxHeartbeats 8000000 in
set_option maxRecDepth 100000 in
theorem storagebartermake_New.calls (A0 : Option Addr) (c0 : Nat) (l0 : List Int) (r1 : List Int) (r2 : Int) (w0 w : World) (hB : Below w0.heap.size w0 w) (hr0 : Kd.C (Kd.int .i64) w0 A0 l0.length l0) (hc0 : l0.length ≤ c0) (h : storagebartermake_New.f l0 = some (r1, r2)) :
 Calls Tryd.prog 10 #[.slice A0 l0.length c0] w fun e w' => ∃ g_ : Nat, e = .returned (.pointer (some ⟨g_, 0, none⟩)) ∧ IsS57 w0 w' g_ r1 r2 ∧ Below w0.heap.size w0 w' ∧ Below w.heap.size w w' := by
 have hu57 := Tryd.underlying57
 have HR0 := Aside0.mk hr0
 have HC0 := Aside0.mk hc0
 clear hr0 hc0
 have HBW := Aside0.mk (Below.refl w.heap.size w)
 have HW0 := Aside0.mk hB.size
 have HB := Aside0.mk hB
 clear hB
 have H : (some (l0, 0)) = some (r1, r2) := h
 clear h
 simp only [Option.some.injEq, Prod.mk.injEq] at H
 obtain ⟨rfl, rfl⟩ := H
 go_enter Tryd.func10, Tryd.ntmps10
 go_wp2_with (first | ((with_reducible refine gate_dst (N := 5) rfl ?_); refine box_event ?hg (N := 5) ?hd (cs := #[.slice A0 l0.length c0, .int .i64 0]) (t := 57) ?hr ?_; (case hd => rfl); (case hg => rfl); (case hr => first | (go_simp; done) | (go_simp; rfl)); intro gb129 hg w2 hbox hb; have n0_ := Aside0.mk (below_step HBW.out hb); have n1_ := Aside0.mk (below_step (by repeat (first | (with_reducible first | exact HB.out | apply below_alloc | apply pw_below_drewN | apply below_drew1) | exact HB.out)) hb); have n2_ := Aside0.mk (hbox); have n3_ := Aside0.mk ((by rw [hg]; exact (below_size (by repeat (first | (with_reducible first | exact HBW.out | apply below_alloc | apply pw_below_drewN | apply below_drew1) | exact HBW.out))) : w.heap.size ≤ gb129)); have n4_ := Aside0.mk ((Nat.le_trans HW0.out (by rw [hg]; exact (below_size (by repeat (first | (with_reducible first | exact HBW.out | apply below_alloc | apply pw_below_drewN | apply below_drew1) | exact HBW.out))) : w.heap.size ≤ gb129) : w0.heap.size ≤ gb129)); clear HBW; clear HB; have HBW := n0_; have HB := n1_; have BK129 := n2_; have GW129 := n3_; have GE129 := n4_; clear n0_ n1_ n2_ n3_ n4_; clear hb hbox hg))
 go_ret
 exact ⟨_, rfl, (show IsS57 w0 _ gb129 l0 0 from ⟨_, _, by (with_reducible repeat (first | refine blk_drewN ?_ _ | refine blk_drew ?_ | refine blk_alloc ?_ _)); exact BK129.out, GE129.out, HR0.out⟩), by repeat (first | (with_reducible first | exact HB.out | apply below_alloc | apply pw_below_drewN | apply below_drew1 | refine below_set ?_ GE129.out) | exact HB.out), by repeat (first | (with_reducible first | exact HBW.out | apply below_alloc | apply pw_below_drewN | apply below_drew1 | refine below_set ?_ GW129.out) | exact HBW.out)⟩
end Go.Proofs.YtcalkhlchjjalaaDoor.Q

namespace Go.Proofs.YtcalkhlchjjalaaDoor.Q
open Go.RowKit Go.Proofs.YtcalkhlchjjalaaDoorW.PrintWords Go.Proofs.YtcalkhlchjjalaaDoorW.PrintLast Go.Proofs.YtcalkhlchjjalaaDoorW.PrintMore Go.Proofs.YtcalkhlchjjalaaDoor.Gput
attribute [local go_sem] max2_int min2_int max_two min_two max_three min_three max_four min_four   -- for this text's walks alone
set_option linter.unusedVariables false
set_option linter.unusedSimpArgs false
def storagebartermake_Mod.f (a0 : Int) (a1 : Int) : Option (Int) := if a1 = 0 then (none) else (some (Int.tmod (wrap64 ((Int.tmod a0 a1) + a1)) a1))
set_option maxHeartbeats 8000000 in
set_option maxRecDepth 100000 in
theorem storagebartermake_Mod.calls (a0 : Int) (a1 : Int) (r : Int) (w : World) (h : storagebartermake_Mod.f a0 a1 = some r) :
 Calls Tryd.prog 13 #[.int .i64 a0, .int .i64 a1] w fun e w' => e = .returned (.int .i64 r) ∧ Drawn0 w w' := by
 have H : (if a1 = 0 then (none) else (some (Int.tmod (wrap64 ((Int.tmod a0 a1) + a1)) a1))) = some r := h
 clear h
 by_cases c3 : a1 = 0
 ·rw [if_pos c3] at H
  exact absurd H (by simp)
 ·rw [if_neg c3] at H
  have c3b0 : (a1 == 0) = false := beq_eq_false_iff_ne.mpr c3
  have c3b1 : (a1 != 0) = true := bne_iff_ne.mpr c3
  obtain rfl := Option.some.inj H
  go_enter Tryd.func13, Tryd.ntmps13
  go_wp2
  go_ret
  exact ⟨by first | rfl | (simp; done) | (simp [*]; done), by repeat (first | exact Drawn0.refl _ | apply Drawn0.step)⟩
end Go.Proofs.YtcalkhlchjjalaaDoor.Q

namespace Go.Proofs.YtcalkhlchjjalaaDoor.Q
open Go.RowKit Go.Proofs.YtcalkhlchjjalaaDoorW.PrintWords Go.Proofs.YtcalkhlchjjalaaDoorW.PrintLast Go.Proofs.YtcalkhlchjjalaaDoorW.PrintMore Go.Proofs.YtcalkhlchjjalaaDoor.Gput
attribute [local go_sem] max2_int min2_int max_two min_two max_three min_three max_four min_four   -- for this text's walks alone
set_option linter.unusedVariables false
set_option linter.unusedSimpArgs false
def storagebartermake_Deck_Next.f (s0_0 : List Int) (s0_1 : Int) (a1 : Int) : Option (Int × Int) := if a1 < 1 then (some (0, s0_1)) else (if s0_1 ≥ (s0_0.length : Int) then (some (0, s0_1)) else (if 0 ≤ s0_1 then (if s0_1 < (s0_0.length : Int) then ((storagebartermake_Mod.f (rd s0_0 s0_1) a1).bind fun t131 => (some (t131, wrap64 (s0_1 + 1)))) else (none)) else (none)))
set_option maxHeartbeats 8000000 in
set_option maxRecDepth 100000 in
theorem storagebartermake_Deck_Next.calls (g : Nat) (s0_0 : List Int) (s0_1 : Int) (a1 : Int) (r1 : Int) (r2 : Int) (w0 w : World) (hI : IsS57 w0 w g s0_0 s0_1) (hB : Below w0.heap.size w0 w) (h : storagebartermake_Deck_Next.f s0_0 s0_1 a1 = some (r1, r2)) :
 Calls Tryd.prog 16 #[.pointer (some ⟨g, 0, none⟩), .int .i64 a1] w fun e w' => e = .returned (.int .i64 r1) ∧ IsS57 w0 w' g s0_0 r2 ∧ Below w0.heap.size w0 w' ∧ KeepBut w w' g none := by
 have HI0 := Aside0.mk hI
 have HK := Aside0.mk (KeepBut.refl w g none)
 have HL := Aside0.mk hB.size
 clear hI
 have HW0 := Aside0.mk hB.size
 have HB := Aside0.mk hB
 clear hB
 have H : (if a1 < 1 then (some (0, s0_1)) else (if s0_1 ≥ (s0_0.length : Int) then (some (0, s0_1)) else (if 0 ≤ s0_1 then (if s0_1 < (s0_0.length : Int) then ((storagebartermake_Mod.f (rd s0_0 s0_1) a1).bind fun t131 => (some (t131, wrap64 (s0_1 + 1)))) else (none)) else (none)))) = some (r1, r2) := h
 clear h
 by_cases c3 : a1 < 1
 ·rw [if_pos c3] at H
  have c3b0 : decide (a1 < 1) = true := decide_eq_true c3
  clear c3
  simp only [Option.some.injEq, Prod.mk.injEq] at H
  obtain ⟨rfl, rfl⟩ := H
  go_enter Tryd.func16, Tryd.ntmps16
  go_wp2
  repeat (go_quiet (fail); try go_wp2)
  go_ret
  exact ⟨by first | rfl | (simp [errW_none, errW_some] <;> rfl) | (simp [*, errW_none, errW_some] <;> rfl), by repeat (first | (with_reducible first | exact HI0.out | apply IsS57.alloc | apply IsS57.drewN | apply IsS57.drew | apply IsS57.set_1) | exact HI0.out), by repeat (first | (with_reducible first | exact HB.out | apply below_alloc | apply pw_below_drewN | apply below_drew1 | refine below_set ?_ (IsS57.ge HI0.out)) | exact HB.out), by repeat (first | (with_reducible first | exact HK.out | apply KeepBut.set_ | apply keep_drewN | apply keep_drew | apply keep_alloc) | exact HK.out)⟩
 ·rw [if_neg c3] at H
  have c3b0 : decide (a1 < 1) = false := decide_eq_false c3
  clear c3
  by_cases c4 : s0_1 ≥ (s0_0.length : Int)
  ·rw [if_pos c4] at H
   have c4b0 : decide ((s0_0.length : Int) ≤ s0_1) = true := decide_eq_true c4
   clear c4
   simp only [Option.some.injEq, Prod.mk.injEq] at H
   obtain ⟨rfl, rfl⟩ := H
   obtain ⟨ASz5_0, cSz5_0, HGz5, hgz5, HSz5_0⟩ := HI0.out
   have hcz5_0 := cellS57_0 HGz5
   have hcz5_1 := cellS57_1 HGz5
   have hfz5_1 := blk_frozen HGz5 1
   clear HGz5 hgz5
   go_enter Tryd.func16, Tryd.ntmps16
   go_wp2
   repeat (go_quiet (fail); try go_wp2)
   go_ret
   exact ⟨by first | rfl | (simp [errW_none, errW_some] <;> rfl) | (simp [*, errW_none, errW_some] <;> rfl), by repeat (first | (with_reducible first | exact HI0.out | apply IsS57.alloc | apply IsS57.drewN | apply IsS57.drew | apply IsS57.set_1) | exact HI0.out), by repeat (first | (with_reducible first | exact HB.out | apply below_alloc | apply pw_below_drewN | apply below_drew1 | refine below_set ?_ (IsS57.ge HI0.out)) | exact HB.out), by repeat (first | (with_reducible first | exact HK.out | apply KeepBut.set_ | apply keep_drewN | apply keep_drew | apply keep_alloc) | exact HK.out)⟩
  ·rw [if_neg c4] at H
   have c4b0 : decide ((s0_0.length : Int) ≤ s0_1) = false := decide_eq_false c4
   clear c4
   by_cases c6 : 0 ≤ s0_1
   ·rw [if_pos c6] at H
    have c6b0 : decide (0 ≤ s0_1) = true := decide_eq_true c6
    clear c6
    by_cases c7 : s0_1 < (s0_0.length : Int)
    ·rw [if_pos c7] at H
     have c7b0 : decide (s0_1 < (s0_0.length : Int)) = true := decide_eq_true c7
     clear c7
     replace H := Option.bind_eq_some_iff.mp H
     obtain ⟨t131, A80, H⟩ := H
     replace H : (some (t131, wrap64 (s0_1 + 1))) = some (r1, r2) := H
     have A8 := Aside0.mk A80
     clear A80
     simp only [Option.some.injEq, Prod.mk.injEq] at H
     obtain ⟨rfl, rfl⟩ := H
     obtain ⟨ASz9_0, cSz9_0, HGz9, hgz9, HSz9_0⟩ := HI0.out
     have hcz9_0 := cellS57_0 HGz9
     have hcz9_1 := cellS57_1 HGz9
     have hfz9_1 := blk_frozen HGz9 1
     clear HGz9 hgz9
     have p130 : 0 ≤ (s0_1 : Int) := of_decide_eq_true (by first | (with_reducible assumption) | assumption)
     have q130 : s0_1 < (s0_0.length : Int) := of_decide_eq_true (by first | (with_reducible assumption) | assumption)
     obtain ⟨ad130, e130, hx130_0⟩ := Kd.at_int HSz9_0 s0_1 p130 q130
     cases e130
     replace hx130_0 := pw_cell_below HB.out hx130_0
     replace p130 := eq_true p130
     replace q130 := eq_true q130
     go_enter Tryd.func16, Tryd.ntmps16
     go_wp2_with (first | (go_at_call 13; (with_reducible refine (storagebartermake_Mod.calls (rd s0_0 s0_1) a1 t131 _ A8.out).mono ?_); rintro e w' ⟨rfl, ⟨nd, rfl⟩⟩; (try first | exact ⟨rfl, _, World.drewN_drewN _ _ _⟩ | exact ⟨rfl, _, Eq.trans (World.drewN_drewN _ _ _) (congrArg (World.drewN _) (Nat.add_assoc _ _ _))⟩)))
     repeat (go_quiet (first | (go_at_call 13; (with_reducible refine (storagebartermake_Mod.calls (rd s0_0 s0_1) a1 t131 _ A8.out).mono ?_); rintro e w' ⟨rfl, ⟨nd, rfl⟩⟩; (try first | exact ⟨rfl, _, World.drewN_drewN _ _ _⟩ | exact ⟨rfl, _, Eq.trans (World.drewN_drewN _ _ _) (congrArg (World.drewN _) (Nat.add_assoc _ _ _))⟩))); try go_wp2_with (first | (go_at_call 13; (with_reducible refine (storagebartermake_Mod.calls (rd s0_0 s0_1) a1 t131 _ A8.out).mono ?_); rintro e w' ⟨rfl, ⟨nd, rfl⟩⟩; (try first | exact ⟨rfl, _, World.drewN_drewN _ _ _⟩ | exact ⟨rfl, _, Eq.trans (World.drewN_drewN _ _ _) (congrArg (World.drewN _) (Nat.add_assoc _ _ _))⟩))))
     go_ret
     exact ⟨by first | rfl | (simp [errW_none, errW_some] <;> rfl) | (simp [*, errW_none, errW_some] <;> rfl), by repeat (first | (with_reducible first | exact HI0.out | apply IsS57.alloc | apply IsS57.drewN | apply IsS57.drew | apply IsS57.set_1) | exact HI0.out), by repeat (first | (with_reducible first | exact HB.out | apply below_alloc | apply pw_below_drewN | apply below_drew1 | refine below_set ?_ (IsS57.ge HI0.out)) | exact HB.out), by repeat (first | (with_reducible first | exact HK.out | apply KeepBut.set_ | apply keep_drewN | apply keep_drew | apply keep_alloc) | exact HK.out)⟩
    ·rw [if_neg c7] at H
     exact absurd H (by simp)
   ·rw [if_neg c6] at H
    exact absurd H (by simp)
end Go.Proofs.YtcalkhlchjjalaaDoor.Q

namespace Go.Proofs.YtcalkhlchjjalaaDoor.Gdm
open Go Go.RowKit Go.Proofs.YtcalkhlchjjalaaDoor.Gm Go.Proofs.YtcalkhlchjjalaaDoor.Q Go.Proofs.YtcalkhlchjjalaaDoor.Gput Go.Proofs.YtcalkhlchjjalaaDoorW.PrintWords Go.Proofs.YtcalkhlchjjalaaDoorW.PrintLast Go.Proofs.YtcalkhlchjjalaaDoorW.PrintMore
set_option linter.unusedVariables false
theorem w64 {x : Int} (h : -9223372036854775808 ≤ x ∧ x ≤ 9223372036854775807) : wrap64 x = x := by unfold wrap64; omega
theorem bt_at (s : ByteArray) (a : Nat) (h : a < s.size) : bt s (a : Int) = ((s.data.toList.drop a).headD 0).toNat := by
 have h' : a < s.data.size := h
 unfold bt
 rw [dif_pos (by simpa using h)]
 simp only [Int.toNat_natCast]
 rw [List.drop_eq_getElem_cons (by simpa using h')]
 rfl
theorem bt_lt (s : ByteArray) (i : Int) : 0 ≤ bt s i ∧ bt s i < 256 := by
 unfold bt
 split
 ·have := (s[i.toNat]).toNat_lt; omega
 ·omega
theorem wf64 {n : Int} (h : -9223372036854775808 ≤ n ∧ n ≤ 9223372036854775807) : (Lit.int .i64 n).wf = true := Go.WalkArith.wf_i64 h
theorem wire_PutInt_eq (l : List UInt8) (n : Int) (hl : l.length + 10 ≤ 140737488355328) (hn : -9223372036854775808 ≤ n ∧ n ≤ 9223372036854775807) : wire_PutInt.f (B l) n = some (B (l ++ putI n)) := by
 unfold wire_PutInt.f
 rw [if_pos ⟨by rw [B_size]; exact hl, wf64 hn⟩]
 rfl
theorem tmod_mod (a m : Int) (hm : 0 < m) : (Int.tmod a m + m) % m = a % m := by
 have h := Int.mul_tdiv_add_tmod a m
 have e : Int.tmod a m + m = a + m * (1 - Int.tdiv a m) := by rw [Int.mul_sub]; omega
 rw [e, Int.add_mul_emod_self_left]
theorem tmod_range (a m : Int) (hm : 0 < m) : -m < Int.tmod a m ∧ Int.tmod a m < m := by
 refine ⟨?_, Int.tmod_lt_of_pos a hm⟩
 rcases Int.le_total 0 a with h | h
 ·have := Int.tmod_nonneg m h; omega
 ·have h1 := Int.tmod_nonneg m (show 0 ≤ -a by omega)
  have h2 := Int.tmod_lt_of_pos (-a) hm
  rw [Int.neg_tmod] at h1 h2
  omega
theorem mod_eq (a m : Int) (hm : 0 < m) (hb : m ≤ 4294967296) : storagebartermake_Mod.f a m = some (a % m) := by
 unfold storagebartermake_Mod.f
 have hr := tmod_range a m hm
 rw [if_neg (by omega), w64 (by omega), Int.tmod_eq_emod_of_nonneg (by omega), tmod_mod a m hm]
def dg : Int → List UInt8 → Int
 | d, [] => d
 | d, b :: l => dg ((d * 1000003 + b.toNat + 1) % 2147483647) l
theorem dg_range : ∀ (l : List UInt8) (d : Int), 0 ≤ d ∧ d < 2147483647 → 0 ≤ dg d l ∧ dg d l < 2147483647
 | [], d, h => h
 | b :: l, d, h => dg_range l _ (by omega)
theorem sum_step (s : ByteArray) (d : Int) (i : Nat) (hd : 0 ≤ d ∧ d < 2147483647) (hi : i < s.size) : Int.tmod (wrap64 ((wrap64 ((wrap64 (d * 1000003)) + (wrap64 (bt s i)))) + 1)) 2147483647 = (d * 1000003 + (s.data.toList[i]'(by simpa using hi)).toNat + 1) % 2147483647 := by
 have hb := bt_lt s i
 have hbt : bt s i = (s.data.toList[i]'(by simpa using hi)).toNat := by
  have h := bt_at s i hi
  rw [List.drop_eq_getElem_cons (by simpa using hi)] at h
  exact h
 rw [w64 (x := d * 1000003) (by omega), w64 (x := bt s i) (by omega), w64 (x := d * 1000003 + bt s i) (by omega), w64 (by omega), Int.tmod_eq_emod_of_nonneg (by omega), hbt]
theorem Sum_l0 (s : ByteArray) (hs : s.size ≤ 9223372036854775807) : ∀ (n i k : Nat) (d : Int), s.size - i = n → i ≤ s.size → 0 ≤ d ∧ d < 2147483647 → n < k → digest_Sum.l0 k s d s.size i = some (dg d (s.data.toList.drop i)) := by
 intro n
 induction n with
 | zero =>
  intro i k d hn hi hd hk
  obtain ⟨k, rfl⟩ : ∃ m, k = m + 1 := ⟨k - 1, by omega⟩
  simp only [digest_Sum.l0]
  rw [if_neg (by omega), List.drop_of_length_le (by rw [Array.length_toList]; show s.size ≤ i; omega)]
  rfl
 | succ n ih =>
  intro i k d hn hi hd hk
  obtain ⟨k, rfl⟩ : ∃ m, k = m + 1 := ⟨k - 1, by omega⟩
  have hlt : i < s.size := by omega
  simp only [digest_Sum.l0]
  rw [if_pos (by omega), if_pos (by omega), if_pos (by omega), sum_step s d i hd hlt, w64 (by omega), show ((i : Int) + 1) = ((i + 1 : Nat) : Int) by omega, ih (i + 1) k _ (by omega) (by omega) (by omega) (by omega), List.drop_eq_getElem_cons (show i < s.data.toList.length by simpa using hlt)]
  rfl
theorem Sum_eq (l : List UInt8) (k : Nat) (hl : l.length ≤ 9223372036854775807) (hk : l.length < k) : digest_Sum.f k (B l) = some (dg 1 l) := by
 unfold digest_Sum.f
 exact Sum_l0 (B l) (by rw [B_size]; exact hl) l.length 0 k 1 (by rw [B_size]; omega) (by omega) (by omega) hk
theorem next_ok (L : List Int) (at_ n : Int) (hn : 1 ≤ n) (hb : n ≤ 4294967296) (h0 : 0 ≤ at_) (hl : L.length ≤ 1000000) : ∃ t at', storagebartermake_Deck_Next.f L at_ n = some (t, at') ∧ 0 ≤ t ∧ t < n ∧ 0 ≤ at' := by
 unfold storagebartermake_Deck_Next.f
 rw [if_neg (by omega)]
 by_cases h : at_ ≥ (L.length : Int)
 ·rw [if_pos h]
  exact ⟨0, at_, rfl, by omega, by omega, h0⟩
 ·rw [if_neg h, if_pos h0, if_pos (by omega), mod_eq _ _ (by omega) hb, Option.bind_some]
  exact ⟨_, _, rfl, Int.emod_nonneg _ (by omega), Int.emod_lt_of_pos _ (by omega), by rw [w64 (by omega)]; omega⟩
end Go.Proofs.YtcalkhlchjjalaaDoor.Gdm

namespace Go.Proofs.YtcalkhlchjjalaaDoor.Q
open Go.RowKit Go.Proofs.YtcalkhlchjjalaaDoorW.PrintWords Go.Proofs.YtcalkhlchjjalaaDoorW.PrintLast Go.Proofs.YtcalkhlchjjalaaDoorW.PrintMore Go.Proofs.YtcalkhlchjjalaaDoor.Gput
attribute [local go_sem] max2_int min2_int max_two min_two max_three min_three max_four min_four   -- for this text's walks alone
set_option linter.unusedVariables false
set_option linter.unusedSimpArgs false
def mark_within.f (a0 : Int) : Option (Bool) := if a0 ≥ 1 then (some (decide (a0 < 2147483647))) else (some false)
set_option maxHeartbeats 8000000 in
set_option maxRecDepth 100000 in
theorem mark_within.calls (a0 : Int) (r : Bool) (w : World) (h : mark_within.f a0 = some r) :
 Calls Tryd.prog 44 #[.int .i64 a0] w fun e w' => e = .returned (.bool r) ∧ Drawn0 w w' := by
 have H : (if a0 ≥ 1 then (some (decide (a0 < 2147483647))) else (some false)) = some r := h
 clear h
 by_cases c2 : a0 ≥ 1
 ·rw [if_pos c2] at H
  have c2b0 : decide (1 ≤ a0) = true := decide_eq_true c2
  clear c2
  obtain rfl := Option.some.inj H
  go_enter Tryd.func44, Tryd.ntmps44
  go_wp2
  go_ret
  exact ⟨by first | rfl | (simp; done) | (simp [*]; done), by repeat (first | exact Drawn0.refl _ | apply Drawn0.step)⟩
 ·rw [if_neg c2] at H
  have c2b0 : decide (1 ≤ a0) = false := decide_eq_false c2
  clear c2
  obtain rfl := Option.some.inj H
  go_enter Tryd.func44, Tryd.ntmps44
  go_wp2
  go_ret
  exact ⟨by first | rfl | (simp; done) | (simp [*]; done), by repeat (first | exact Drawn0.refl _ | apply Drawn0.step)⟩
end Go.Proofs.YtcalkhlchjjalaaDoor.Q

namespace Go.Proofs.YtcalkhlchjjalaaDoor.Q
open Go Go.RowKit Go.Maps Go.Proofs.YtcalkhlchjjalaaDoorW.PrintWords Go.Proofs.YtcalkhlchjjalaaDoorW.PrintLast Go.Proofs.YtcalkhlchjjalaaDoorW.PrintMore
set_option linter.unusedVariables false
def within (n : Int) : Prop := 1 ≤ n ∧ n < 2147483647
instance (n : Int) : Decidable (within n) := by unfold within; exact inferInstance
def ckGo (prev : Option Int) (seen : List Int) : List S25 → Int
 | [] => 0
 | p :: r => if ¬ (within p.f0 ∧ within p.f1) then 1 else if (∃ q, prev = some q ∧ p.f0 ≤ q) then 5 else if p.f1 ∈ seen then 7 else ckGo (some p.f0) (p.f1 :: seen) r
def ck (l : List S25) : Int := if 16 < l.length then 4 else ckGo none [] l
def mark_Check.f (l0 : List S25) : Option Int := if l0.all (fun p => (Lit.int .i64 p.f1).wf) then some (ck l0) else none
theorem within_yes (n : Int) (w : World) (h : within n) : Calls Tryd.prog 44 #[.int .i64 n] w fun e w' => e = .returned (.bool true) ∧ w' = w := by
 obtain ⟨h1, h2⟩ := h
 go_enter Tryd.func44, Tryd.ntmps44
 go_wp2
 go_ret
 exact ⟨by first | rfl | simp [h1, h2], rfl⟩
theorem within_no (n : Int) (w : World) (h : ¬ within n) : Calls Tryd.prog 44 #[.int .i64 n] w fun e w' => e = .returned (.bool false) ∧ w' = w := by
 by_cases h1 : 1 ≤ n
 ·have h2 : ¬ n < 2147483647 := fun z => h ⟨h1, z⟩
  go_enter Tryd.func44, Tryd.ntmps44
  go_wp2
  go_ret
  exact ⟨by first | rfl | simp [h1, h2], rfl⟩
 ·go_enter Tryd.func44, Tryd.ntmps44
  go_wp2
  go_ret
  exact ⟨by first | rfl | simp [h1], rfl⟩
def secs : List Int → DataW Unit
 | [] => .map []
 | s :: r => (secs r).put (.int .i64 s) (.lit (.bool true))
theorem secs_map : ∀ l, IsMap (secs l)
 | [] => ⟨[], rfl⟩
 | s :: r => by obtain ⟨es, he⟩ := secs_map r; exact ⟨_, by rw [secs, he]; rfl⟩
theorem secs_at (z : Int) : ∀ l, (secs l).atKey (.int .i64 z) (.lit (.bool false)) = .lit (.bool (decide (z ∈ l)))
 | [] => rfl
 | s :: r => by
  rw [secs]
  by_cases h : z = s
  ·subst h
   rw [atKey_put_same (secs_map r) (by trivial)]
   simp
  ·rw [atKey_put_other (by simpa using h), secs_at z r]
   simp [h]
set_option maxRecDepth 100000 in
theorem bool_inv {v : Value} {b : Bool} {ps : List MemPlace} (h : plainElem (H := Unit) Tryd.prog 4 v = some (.lit (.bool b), ps)) : v = .bool b := by
 unfold plainElem at h
 rw [Tryd.underlying4] at h
 cases v <;> simp at h
 obtain ⟨rfl, _⟩ := h
 rfl
theorem owns_drewN {w : World} {b n : Nat} {D : DataW Unit} (m : Nat) (h : w.ownsMap Tryd.prog 3 (plainElem (H := Unit) Tryd.prog 4) b n D) : (w.drewN m).ownsMap Tryd.prog 3 (plainElem (H := Unit) Tryd.prog 4) b n D := by
 induction m generalizing w with
 | zero => exact h
 | succ m ih => exact ih h.drew
theorem look {w : World} {b n : Nat} {l : List Int} (h : w.ownsMap Tryd.prog 3 (plainElem (H := Unit) Tryd.prog 4) b n (secs l)) (z : Int) (hz : (Lit.int .i64 z).wf = true) :
 (Instr.lookup 73 (.map (some b)) (.int .i64 z) false).run Tryd.prog w = .ok (.bool (decide (z ∈ l))) w := by
 obtain ⟨v, ps, hrun, hv⟩ := h.lookup (int_keyed Tryd.underlying3) Tryd.underlying73 (z := .bool false) (Tryd.zeroValue4 w) (zd := .lit (.bool false)) (zp := []) (plainElem_bool Tryd.underlying4 false) (key := .int .i64 z) (kl := .int .i64 z) (keyOf_int_mk Tryd.underlying3 hz)
 rw [secs_at] at hv
 rw [hrun, bool_inv hv]
def seenAt (l : List S25) (k : Nat) : List Int := ((l.take k).map (·.f1)).reverse
def prevAt (l : List S25) (k : Nat) : Option Int := if k = 0 then none else some (rd_T25 l ((k : Int) - 1)).f0
theorem seenAt_succ (l : List S25) (k : Nat) (h : k < l.length) : seenAt l (k + 1) = (rd_T25 l k).f1 :: seenAt l k := by
 unfold seenAt rd_T25
 rw [List.take_succ_eq_append_getElem h, List.map_append, List.reverse_append]
 simp [List.getD, h]
theorem drop_rd (l : List S25) (k : Nat) (h : k < l.length) : l.drop k = rd_T25 l k :: l.drop (k + 1) := by
 unfold rd_T25
 rw [List.drop_eq_getElem_cons h]
 simp [List.getD, h]
set_option maxRecDepth 100000 in
set_option maxHeartbeats 4000000 in
theorem mark_Check.calls (A0 : Option Addr) (c0 : Nat) (l0 : List S25) (r : Int) (w : World) (hr0 : Kd.C k25 w A0 l0.length l0) (hc0 : l0.length ≤ c0) (h : mark_Check.f l0 = some r) :
 Calls Tryd.prog 36 #[.slice A0 l0.length c0] w fun e w' => e = .returned (.int .i64 r) ∧ Below w.heap.size w w' := by
 unfold mark_Check.f at h
 split at h
 case isFalse => cases h
 case isTrue hall =>
 obtain rfl := Option.some.inj h
 clear h
 unfold ck
 have HR := Aside0.mk hr0
 have HALL := Aside0.mk hall
 clear hr0 hall
 by_cases hlen : 16 < l0.length
 ·have hb0 : decide ((16 : Int) < (l0.length : Int)) = true := decide_eq_true (by omega)
  rw [if_pos hlen]
  go_enter Tryd.func36, Tryd.ntmps36
  go_wp2
  go_ret
  exact ⟨rfl, Below.refl _ _⟩
 ·have hb0 : decide ((16 : Int) < (l0.length : Int)) = false := decide_eq_false (by omega)
  rw [if_neg hlen]
  have hmm := @run_makeMap Tryd.prog
  go_enter Tryd.func36, Tryd.ntmps36
  go_wp2
  go_loopw [12] (fun v12 wr => ∃ (k : Nat), k ≤ l0.length ∧ v12 = .int .i64 k ∧ wr.ownsMap Tryd.prog 3 (plainElem (H := Unit) Tryd.prog 4) w.heap.size k (secs (seenAt l0 k)) ∧ Below w.heap.size w wr ∧ Hid (ckGo none [] l0 = ckGo (prevAt l0 k) (seenAt l0 k) (l0.drop k)))
   (fun v12 _ => l0.length - (intOf v12).toNat)
  case atStart => exact ⟨0, Nat.zero_le _, rfl, World.ownsMap_made w _ _ _, (Below.refl _ _).alloc (Nat.le_refl _) _, Lib.hid rfl⟩
  case round =>
   obtain ⟨k, hk, rfl, hown, hbel, hck⟩ := hrel
   by_cases hlt : k < l0.length
   ·obtain ⟨ad, ead, hx0, hx1⟩ := at_T25 HR.out k (by omega) (by omega)
    cases ead
    replace hx0 := (hbel.cell (World.block_lt_of_cell? w _ hx0)).trans hx0
    replace hx1 := (hbel.cell (World.block_lt_of_cell? w _ hx1)).trans hx1
    simp only [Int.toNat_natCast] at hx0 hx1
    have hw := List.all_eq_true.1 HALL.out (l0[k]) (List.getElem_mem hlt)
    have er : l0[k] = rd_T25 l0 k := by simp [rd_T25, List.getD, hlt]
    rw [er] at hw
    have hseen := seenAt_succ l0 k hlt
    have hck1 := hck.out
    rw [drop_rd l0 k hlt, ckGo] at hck1
    have hprev : prevAt l0 (k + 1) = some (rd_T25 l0 k).f0 := by
     unfold prevAt
     rw [if_neg (by omega)]
     congr 3
     omega
    obtain ⟨x, hx⟩ : ∃ x, x = (rd_T25 l0 k).f0 := ⟨_, rfl⟩
    obtain ⟨y, hy⟩ : ∃ y, y = (rd_T25 l0 k).f1 := ⟨_, rfl⟩
    rw [← hx] at hx0 hprev hck1
    rw [← hy] at hx1 hck1 hw hseen
    have HE := Lib.hid hck1
    have HS := Lib.hid hseen
    have HP := Lib.hid hprev
    clear hck1 hseen hprev hx hy er hck
    by_cases h1 : within x
    ·by_cases h2 : within y
     ·have hres := HE.out
      rw [if_neg (fun z => z ⟨h1, h2⟩)] at hres
      clear HE
      have hlook : ∀ n, (Instr.lookup 73 (.map (some w.heap.size)) (.int .i64 y) false).run Tryd.prog ((wr.alloc (.cells #[.int .i64 x, .int .i64 y] 25)).drewN n) = .ok (.bool (decide (y ∈ seenAt l0 k))) ((wr.alloc (.cells #[.int .i64 x, .int .i64 y] 25)).drewN n) :=
       fun n => look (owns_drewN n (hown.alloc (.cells #[.int .i64 x, .int .i64 y] 25))) y hw
      by_cases h3 : 0 < k
      ·have hk0 : decide ((0 : Int) < (k : Int)) = true := decide_eq_true (by omega)
       obtain ⟨j, hj⟩ : ∃ j : Int, (k : Int) - 1 = j := ⟨_, rfl⟩
       have hi1 : 0 ≤ j := by omega
       have hi2 : j < (l0.length : Int) := by omega
       have hw1 : IntKind.i64.wrap ((k : Int) - 1) = j := by rw [i64_w]; unfold wrap64; omega
       obtain ⟨ad3, ead3, hz0, hz1⟩ := at_T25 HR.out j hi1 hi2
       cases ead3
       replace hz0 := (hbel.cell (World.block_lt_of_cell? w _ hz0)).trans hz0
       have hpv : prevAt l0 k = some (rd_T25 l0 j).f0 := by unfold prevAt; rw [if_neg (by omega), hj]
       rw [hpv] at hres
       obtain ⟨q, hq⟩ : ∃ q, q = (rd_T25 l0 j).f0 := ⟨_, rfl⟩
       rw [← hq] at hz0 hres
       clear hq hpv hz1 hj
       replace hz0 := (((Below.refl wr.heap.size wr).alloc (Nat.le_refl _) (.cells #[.int .i64 x, .int .i64 y] 25)).cell (World.block_lt_of_cell? wr _ hz0)).trans hz0
       by_cases h5 : x ≤ q
       ·rw [if_pos ⟨q, rfl, h5⟩] at hres
        have hk5 : decide (x ≤ q) = true := decide_eq_true h5
        clear hlook
        go_wp2_with (first | (go_at_call 44; with_reducible refine (within_yes x _ h1).mono ?_; rintro e w' ⟨rfl, rfl⟩) | (go_at_call 44; with_reducible refine (within_yes y _ h2).mono ?_; rintro e w' ⟨rfl, rfl⟩))
        go_quiet (skip)
        go_wp2
        go_ret
        exact ⟨by rw [hres]; rfl, pw_below_drewN (hbel.alloc hbel.size _) _⟩
       ·rw [if_neg (by rintro ⟨q', hq, h6⟩; cases hq; exact h5 h6)] at hres
        have hk5 : decide (x ≤ q) = false := decide_eq_false h5
        by_cases h4 : y ∈ seenAt l0 k
        ·rw [if_pos h4] at hres
         simp only [decide_eq_true h4] at hlook
         go_wp2_with (first | (go_at_call 44; with_reducible refine (within_yes x _ h1).mono ?_; rintro e w' ⟨rfl, rfl⟩) | (go_at_call 44; with_reducible refine (within_yes y _ h2).mono ?_; rintro e w' ⟨rfl, rfl⟩))
         go_quiet (skip)
         have hlk := hlook nq
         clear hlook
         go_wp2
         go_ret
         exact ⟨by rw [hres]; rfl, pw_below_drewN (hbel.alloc hbel.size _) _⟩
        ·rw [if_neg h4, ← HP.out, ← HS.out] at hres
         simp only [decide_eq_false h4] at hlook
         go_wp2_with (first | (go_at_call 44; with_reducible refine (within_yes x _ h1).mono ?_; rintro e w' ⟨rfl, rfl⟩) | (go_at_call 44; with_reducible refine (within_yes y _ h2).mono ?_; rintro e w' ⟨rfl, rfl⟩))
         go_quiet (skip)
         have hlk := hlook nq
         clear hlook
         go_wp2_with (first | (at_mapUpdate; refine wpList_mapUpdate_own _ rfl _ _ _ 73 rfl 3 4 (int_keyed Tryd.underlying3) Tryd.underlying73 (plainElem (H := Unit) Tryd.prog 4) w.heap.size k (secs (seenAt l0 k)) rfl (owns_drewN nq (hown.alloc (.cells #[.int .i64 x, .int .i64 y] 25))) (by unfold maxLen; omega) _ _ (.int .i64 y) rfl rfl (keyOf_int_mk Tryd.underlying3 hw) (.lit (.bool true)) [] (plainElem_bool Tryd.underlying4 true) ?_; intro w1 hown1 hgrow1))
         have hb9 := pw_below_drewN (hbel.alloc hbel.size (.cells #[.int .i64 x, .int .i64 y] 25)) nq
         exact ⟨⟨k + 1, by omega, by simp, by rw [HS.out]; exact hown1, hb9.grown hgrow1 hb9.size (by rintro z hz; cases hz; exact Nat.le_refl _), Lib.hid hres⟩, by simp only [intOf]; omega⟩
      ·have hk0 : decide ((0 : Int) < (k : Int)) = false := decide_eq_false (by omega)
       have hpv : prevAt l0 k = none := by unfold prevAt; rw [if_pos (by omega)]
       rw [hpv, if_neg (by rintro ⟨q, hq, _⟩; cases hq)] at hres
       by_cases h4 : y ∈ seenAt l0 k
       ·rw [if_pos h4] at hres
        simp only [decide_eq_true h4] at hlook
        go_wp2_with (first | (go_at_call 44; with_reducible refine (within_yes x _ h1).mono ?_; rintro e w' ⟨rfl, rfl⟩) | (go_at_call 44; with_reducible refine (within_yes y _ h2).mono ?_; rintro e w' ⟨rfl, rfl⟩))
        go_quiet (skip)
        have hlk := hlook nq
        clear hlook
        go_wp2
        go_ret
        exact ⟨by rw [hres]; rfl, pw_below_drewN (hbel.alloc hbel.size _) _⟩
       ·rw [if_neg h4, ← HP.out, ← HS.out] at hres
        simp only [decide_eq_false h4] at hlook
        go_wp2_with (first | (go_at_call 44; with_reducible refine (within_yes x _ h1).mono ?_; rintro e w' ⟨rfl, rfl⟩) | (go_at_call 44; with_reducible refine (within_yes y _ h2).mono ?_; rintro e w' ⟨rfl, rfl⟩))
        go_quiet (skip)
        have hlk := hlook nq
        clear hlook
        go_wp2_with (first | (at_mapUpdate; refine wpList_mapUpdate_own _ rfl _ _ _ 73 rfl 3 4 (int_keyed Tryd.underlying3) Tryd.underlying73 (plainElem (H := Unit) Tryd.prog 4) w.heap.size k (secs (seenAt l0 k)) rfl (owns_drewN nq (hown.alloc (.cells #[.int .i64 x, .int .i64 y] 25))) (by unfold maxLen; omega) _ _ (.int .i64 y) rfl rfl (keyOf_int_mk Tryd.underlying3 hw) (.lit (.bool true)) [] (plainElem_bool Tryd.underlying4 true) ?_; intro w1 hown1 hgrow1))
        have hb9 := pw_below_drewN (hbel.alloc hbel.size (.cells #[.int .i64 x, .int .i64 y] 25)) nq
        exact ⟨⟨k + 1, by omega, by simp, by rw [HS.out]; exact hown1, hb9.grown hgrow1 hb9.size (by rintro z hz; cases hz; exact Nat.le_refl _), Lib.hid hres⟩, by simp only [intOf]; omega⟩
     ·have hres := HE.out
      rw [if_pos (fun z => h2 z.2)] at hres
      clear HE
      go_wp2_with (first | (go_at_call 44; with_reducible refine (within_yes x _ h1).mono ?_; rintro e w' ⟨rfl, rfl⟩) | (go_at_call 44; with_reducible refine (within_no y _ h2).mono ?_; rintro e w' ⟨rfl, rfl⟩))
      go_ret
      exact ⟨by rw [hres]; rfl, hbel.alloc hbel.size _⟩
    ·have hres := HE.out
     rw [if_pos (fun z => h1 z.1)] at hres
     clear HE
     go_wp2_with (first | (go_at_call 44; with_reducible refine (within_no x _ h1).mono ?_; rintro e w' ⟨rfl, rfl⟩))
     go_ret
     exact ⟨by rw [hres]; rfl, hbel.alloc hbel.size _⟩
   ·obtain rfl : k = l0.length := by omega
    have he := hck.out
    rw [List.drop_length, ckGo] at he
    clear hck
    go_wp2
    go_ret
    exact ⟨by rw [he]; rfl, hbel⟩
end Go.Proofs.YtcalkhlchjjalaaDoor.Q

namespace Go.Proofs.YtcalkhlchjjalaaDoor.Q
open Go Go.RowKit Go.Maps Go.Proofs Go.Proofs.YtcalkhlchjjalaaDoorW.PrintWords Go.Proofs.YtcalkhlchjjalaaDoorW.PrintLast Go.Proofs.YtcalkhlchjjalaaDoorW.PrintMore
set_option linter.unusedVariables false
theorem compare_calls (n x y : Int) (w : World) : Calls Tryd.prog 56 #[.int .i64 n, .agg #[.int .i64 x, .int .i64 y]] w fun e w' => e = .returned (.int .i64 (wrap64 (x - n))) ∧ Below w.heap.size w w' := by
 go_enter Tryd.func56, Tryd.ntmps56
 go_wp2
 go_ret
 exact ⟨rfl, (Below.refl _ _).alloc (Nat.le_refl _) _⟩
theorem closure_calls (n x y : Int) (c : Nat) (w : World) (hc : w.cell? ⟨c, 0, none⟩ = some (.func (.func 56) #[] #[])) :
 Calls Tryd.prog 58 #[.agg #[.int .i64 x, .int .i64 y], .int .i64 n, .pointer (some ⟨c, 0, none⟩)] w fun e w' => e = .returned (.int .i64 (wrap64 (x - n))) ∧ Below w.heap.size w w' := by
 have hc1 := (((Below.refl w.heap.size w).alloc (Nat.le_refl _) (.cells #[.int .i64 x, .int .i64 y] 25)).cell (World.block_lt_of_cell? w _ hc)).trans hc
 go_enter Tryd.func58, Tryd.ntmps58
 go_wp2_with (go_at_call 56; with_reducible refine (compare_calls n x y _).mono ?_; rintro e w' ⟨rfl, hb⟩)
 go_ret
 exact ⟨rfl, ((Below.refl _ _).alloc (Nat.le_refl _) _).trans (hb.mono (by simp))⟩
set_option maxRecDepth 100000 in
set_option maxHeartbeats 4000000 in
theorem search_calls (A0 : Option Addr) (c0 : Nat) (l0 : List S25) (n : Int) (c : Nat) (w : World) (hr0 : Kd.C k25 w A0 l0.length l0) (hc0 : l0.length ≤ c0) (hc : w.cell? ⟨c, 0, none⟩ = some (.func (.func 56) #[] #[]))
 (hlen : l0.length ≤ 16) (hn : within n) (hw : ∀ t : Nat, t < l0.length → within (rd_T25 l0 t).f0) (hs : ∀ t u : Nat, t < u → u < l0.length → (rd_T25 l0 t).f0 < (rd_T25 l0 u).f0) :
 Calls Tryd.prog 57 #[.slice A0 l0.length c0, .int .i64 n, .func (.func 58) #[] #[.pointer (some ⟨c, 0, none⟩)]] w fun e w' =>
  ∃ (i : Nat) (b : Bool), e = .returned (.tuple #[.int .i64 i, .bool b]) ∧ b = decide (i < l0.length ∧ (rd_T25 l0 i).f0 = n) ∧ i ≤ l0.length ∧ (∀ t : Nat, t < i → (rd_T25 l0 t).f0 < n) ∧ (∀ t : Nat, i ≤ t → t < l0.length → n ≤ (rd_T25 l0 t).f0) ∧ Below w.heap.size w w' := by
 have HR := Aside0.mk hr0
 have HW := Aside0.mk hw
 have HS := Aside0.mk hs
 have HN := Aside0.mk hn
 clear hr0 hw hs hn
 go_enter Tryd.func57, Tryd.ntmps57
 go_wp2
 go_loopg [9, 10] l0.length (fun kx s9 s10 wr => ∃ lo hi : Nat, s9 = .int .i64 lo ∧ s10 = .int .i64 hi ∧ lo ≤ hi ∧ hi ≤ l0.length ∧ hi - lo ≤ kx ∧ Aside0 (Below w.heap.size w wr) ∧
  Aside0 ((∀ t : Nat, t < lo → (rd_T25 l0 t).f0 < n) ∧ (∀ t : Nat, hi ≤ t → t < l0.length → n ≤ (rd_T25 l0 t).f0)))
 case atStart => exact ⟨0, l0.length, rfl, rfl, Nat.zero_le _, Nat.le_refl _, by omega, ⟨Below.refl _ _⟩, ⟨fun t ht => absurd ht (Nat.not_lt_zero _), fun t h1 h2 => by omega⟩⟩
 case round =>
  obtain ⟨lo, hi, rfl, rfl, hlh, hin, hg, HB, I⟩ := hrel
  by_cases hlt : lo < hi
  ·obtain ⟨h, hh⟩ : ∃ h : Nat, h = (lo + hi) / 2 := ⟨_, rfl⟩
   have hh1 : lo ≤ h ∧ h < hi := by omega
   have hhi : ((lo : Int) + (hi : Int)) / 2 = (h : Int) := by omega
   clear hh
   obtain ⟨ad, ead, hx0, hx1⟩ := at_T25 HR.out h (by omega) (by omega)
   cases ead
   replace hx0 := (HB.out.cell (World.block_lt_of_cell? w _ hx0)).trans hx0
   replace hx1 := (HB.out.cell (World.block_lt_of_cell? w _ hx1)).trans hx1
   simp only [Int.toNat_natCast] at hx0 hx1
   have hc1 := (HB.out.cell (World.block_lt_of_cell? w _ hc)).trans hc
   obtain ⟨x, hx⟩ : ∃ x, x = (rd_T25 l0 h).f0 := ⟨_, rfl⟩
   obtain ⟨y, hy⟩ : ∃ y, y = (rd_T25 l0 h).f1 := ⟨_, rfl⟩
   rw [← hx] at hx0
   rw [← hy] at hx1
   clear hy
   have HX := Lib.hid hx
   clear hx
   have HWX := Lib.hid (HX.out ▸ HW.out h (by omega) : within x)
   have hsub : wrap64 (x - n) = x - n := by have := HWX.out; have := HN.out; unfold within at *; unfold wrap64; omega
   by_cases hyx : x - n < 0
   ·go_wp2_with (go_at_call 58; with_reducible refine (closure_calls n x y c _ hc1).mono ?_; rintro e w' ⟨rfl, hb⟩)
    go_roundg (hi - (h + 1))
    case measure => omega
    case rel =>
     exact ⟨h + 1, hi, by rw [show ((h : Int) + 1) = ((h + 1 : Nat) : Int) by omega], rfl, by omega, hin, Nat.le_refl _, ⟨HB.out.trans (hb.mono HB.out.size)⟩,
      ⟨fun t ht => by
       have hx := HX.out
       by_cases hth : t = h
       ·subst hth; omega
       ·have := HS.out t h (by omega) (by omega); omega, I.out.2⟩⟩
   ·go_wp2_with (go_at_call 58; with_reducible refine (closure_calls n x y c _ hc1).mono ?_; rintro e w' ⟨rfl, hb⟩)
    go_roundg (h - lo)
    case measure => omega
    case rel =>
     exact ⟨lo, h, rfl, rfl, by omega, by omega, Nat.le_refl _, ⟨HB.out.trans (hb.mono HB.out.size)⟩,
      ⟨I.out.1, fun t ht htl => by
       have hx := HX.out
       by_cases hth : t = h
       ·subst hth; omega
       ·have := HS.out h t (by omega) (by omega); omega⟩⟩
  ·obtain rfl : hi = lo := by omega
   by_cases hn : hi < l0.length
   ·obtain ⟨ad, ead, hx0, hx1⟩ := at_T25 HR.out hi (by omega) (by omega)
    cases ead
    replace hx0 := (HB.out.cell (World.block_lt_of_cell? w _ hx0)).trans hx0
    replace hx1 := (HB.out.cell (World.block_lt_of_cell? w _ hx1)).trans hx1
    simp only [Int.toNat_natCast] at hx0 hx1
    have hc1 := (HB.out.cell (World.block_lt_of_cell? w _ hc)).trans hc
    obtain ⟨x, hx⟩ : ∃ x, x = (rd_T25 l0 hi).f0 := ⟨_, rfl⟩
    obtain ⟨y, hy⟩ : ∃ y, y = (rd_T25 l0 hi).f1 := ⟨_, rfl⟩
    rw [← hx] at hx0
    rw [← hy] at hx1
    clear hy
    have HX := Lib.hid hx
    clear hx
    have HWX := Lib.hid (HX.out ▸ HW.out hi (by omega) : within x)
    obtain ⟨z, hz⟩ : ∃ z, z = x - n := ⟨_, rfl⟩
    have hsub : wrap64 (x - n) = z := by have := HWX.out; have := HN.out; unfold within at *; unfold wrap64; omega
    have HZ := Lib.hid hz
    clear hz
    by_cases hyz : z = 0
    ·have HY := Lib.hid hyz
     have hzb : (z == 0) = true := beq_iff_eq.mpr hyz
     clear hyz
     go_wp2_with (go_at_call 58; with_reducible refine (closure_calls n x y c _ hc1).mono ?_; rintro e w' ⟨rfl, hb⟩)
     go_ret2
     refine ⟨hi, _, ?_, rfl, hin, I.out.1, I.out.2, HB.out.trans (hb.mono HB.out.size)⟩
     rw [decide_eq_true (⟨hn, by have := HX.out; have := HY.out; have := HZ.out; omega⟩ : hi < l0.length ∧ (rd_T25 l0 hi).f0 = n)]
     rfl
    ·have hzb : (z == 0) = false := beq_eq_false_iff_ne.mpr hyz
     go_wp2_with (go_at_call 58; with_reducible refine (closure_calls n x y c _ hc1).mono ?_; rintro e w' ⟨rfl, hb⟩)
     go_ret2
     refine ⟨hi, _, ?_, rfl, hin, I.out.1, I.out.2, HB.out.trans (hb.mono HB.out.size)⟩
     rw [decide_eq_false (show ¬ (hi < l0.length ∧ (rd_T25 l0 hi).f0 = n) from fun z_ => hyz (by have := HX.out; have := HZ.out; omega))]
     rfl
   ·go_wp2
    go_ret2
    refine ⟨hi, _, ?_, rfl, hin, I.out.1, I.out.2, HB.out⟩
    rw [decide_eq_false (show ¬ (hi < l0.length ∧ (rd_T25 l0 hi).f0 = n) from fun z => hn z.1)]
    rfl
theorem ckGo_ok : ∀ (l : List S25) (prev : Option Int) (seen : List Int), ckGo prev seen l = 0 → (∀ p ∈ l, within p.f0 ∧ within p.f1) ∧ (∀ q, prev = some q → ∀ p ∈ l, q < p.f0) ∧ l.Pairwise (fun p q => p.f0 < q.f0) ∧ (∀ p ∈ l, p.f1 ∉ seen) ∧ l.Pairwise (fun p q => p.f1 ≠ q.f1) := by
 intro l
 induction l with
 | nil => intro prev seen _; simp
 | cons p r ih =>
  intro prev seen h
  simp only [ckGo] at h
  split at h
  ·cases h
  rename_i h1
  split at h
  ·cases h
  rename_i h2
  split at h
  ·cases h
  rename_i h3
  obtain ⟨a, b, c, d, e⟩ := ih _ _ h
  have h1' : within p.f0 ∧ within p.f1 := Decidable.not_not.1 h1
  refine ⟨fun x hx => ?_, fun q hq x hx => ?_, ?_, fun x hx => ?_, ?_⟩
  ·rcases List.mem_cons.1 hx with rfl | hx
   ·exact h1'
   ·exact a x hx
  ·have hqp : q < p.f0 := Int.not_le.1 fun z => h2 ⟨q, hq, z⟩
   rcases List.mem_cons.1 hx with rfl | hx
   ·exact hqp
   ·have := b p.f0 rfl x hx; omega
  ·exact List.pairwise_cons.2 ⟨fun x hx => b p.f0 rfl x hx, c⟩
  ·rcases List.mem_cons.1 hx with rfl | hx
   ·exact h3
   ·exact fun z => d x hx (List.mem_cons_of_mem _ z)
  ·exact List.pairwise_cons.2 ⟨fun x hx z => d x hx (by rw [← z]; exact List.mem_cons_self), e⟩
theorem ck_ok {l : List S25} (h : ck l = 0) : l.length ≤ 16 ∧ (∀ p ∈ l, within p.f0 ∧ within p.f1) ∧ l.Pairwise (fun p q => p.f0 < q.f0) ∧ l.Pairwise (fun p q => p.f1 ≠ q.f1) := by
 unfold ck at h
 split at h
 ·cases h
 ·obtain ⟨a, -, c, -, e⟩ := ckGo_ok l none [] h
  exact ⟨by omega, a, c, e⟩
def fd (l : List S25) (id : Int) : Int × Int × Bool :=
 if ck l = 0 ∧ within id then (match l.find? (fun p => p.f0 == id) with | some p => (p.f0, p.f1, true) | none => (0, 0, false)) else (0, 0, false)
def mark_Find.f (l0 : List S25) (a1 : Int) : Option (Int × Int × Bool) := if l0.all (fun p => (Lit.int .i64 p.f1).wf) then some (fd l0 a1) else none
theorem store_fn (w : World) : (store ⟨w.heap.size, 0, none⟩ (.func (.func 56) #[] #[])).run Tryd.prog (w.alloc (.cells #[.nilFunc] 90)) = .ok () ((w.alloc (.cells #[.nilFunc] 90)).setCell ⟨w.heap.size, 0, none⟩ (.func (.func 56) #[] #[])) := by
 have hb : (w.alloc (.cells #[.nilFunc] 90)).heap[w.heap.size]? = some (.cells #[.nilFunc] 90 (0, 0)) := heap_alloc_new w _
 rw [run_store Tryd.prog _ _ (.func (.func 56) #[] #[]) _ rfl, blk_cell hb 0]
 simp [blk_frozen hb 0]
theorem fn_below (w : World) : Below w.heap.size w (w.alloc (.cells #[.func (.func 56) #[] #[]] 90)) :=
 (Below.refl _ w).alloc (Nat.le_refl _) _
theorem rd_get (l : List S25) (t : Nat) (h : t < l.length) : rd_T25 l t = l[t] := by simp [rd_T25, List.getD, h]
set_option maxRecDepth 100000 in
set_option maxHeartbeats 4000000 in
theorem mark_Find.calls (A0 : Option Addr) (c0 : Nat) (l0 : List S25) (a1 : Int) (r1 : Int) (r2 : Int) (r3 : Bool) (w : World) (hr0 : Kd.C k25 w A0 l0.length l0) (hc0 : l0.length ≤ c0) (h : mark_Find.f l0 a1 = some (r1, r2, r3)) :
 Calls Tryd.prog 49 #[.slice A0 l0.length c0, .int .i64 a1] w fun e w' => e = .returned (.tuple #[.agg #[.int .i64 r1, .int .i64 r2], .bool r3]) ∧ Below w.heap.size w w' := by
 unfold mark_Find.f at h
 split at h
 case isFalse => cases h
 case isTrue hall =>
 replace h := Option.some.inj h
 have HR := Aside0.mk hr0
 have HF := Aside0.mk (show mark_Check.f l0 = some (ck l0) from if_pos hall)
 clear hr0 hall
 have HB := Aside0.mk (Below.refl w.heap.size w)
 by_cases hck : ck l0 = 0
 ·by_cases hid : within a1
  ·obtain ⟨hlen, hall, hpw, -⟩ := ck_ok hck
   have HW : Aside0 (∀ t : Nat, t < l0.length → within (rd_T25 l0 t).f0) := ⟨fun t ht => by rw [rd_get l0 t ht]; exact (hall _ (List.getElem_mem ht)).1⟩
   have HS : Aside0 (∀ t u : Nat, t < u → u < l0.length → (rd_T25 l0 t).f0 < (rd_T25 l0 u).f0) := ⟨fun t u htu hu => by rw [rd_get l0 t (by omega), rd_get l0 u hu]; exact List.pairwise_iff_getElem.1 hpw t u _ _ htu⟩
   clear hall hpw
   have hsf := store_fn
   by_cases hfd : ∃ t : Nat, t < l0.length ∧ (rd_T25 l0 t).f0 = a1
   ·obtain ⟨t, ht, hta⟩ := hfd
    have he : ((rd_T25 l0 t).f0, (rd_T25 l0 t).f1, true) = (r1, r2, r3) := by
     rw [← h]
     unfold fd
     have : l0.find? (fun p => p.f0 == a1) = some (rd_T25 l0 t) := by
      rw [List.find?_eq_some_iff_getElem]
      refine ⟨by simpa using hta, t, ht, (rd_get l0 t ht).symm, fun j hj => ?_⟩
      have := HS.out j t hj ht
      rw [rd_get l0 j (by omega)] at this
      simp only [Bool.not_eq_true', beq_eq_false_iff_ne]
      omega
     rw [if_pos ⟨hck, hid⟩, this]
    clear h
    generalize ck l0 = ckv at HF hck
    subst hck
    obtain ⟨ad, ead, hx0, hx1⟩ := at_T25 HR.out t (by omega) (by omega)
    cases ead
    simp only [Int.toNat_natCast] at hx0 hx1
    have HT := Lib.hid hta
    generalize (rd_T25 l0 t).f0 = x at hx0 he
    generalize (rd_T25 l0 t).f1 = y at hx1 he
    obtain ⟨rfl, rfl, rfl⟩ : x = r1 ∧ y = r2 ∧ true = r3 := by simpa using he
    clear he hta
    have HX0 := Aside0.mk hx0
    have HX1 := Aside0.mk hx1
    clear hx0 hx1
    go_enter Tryd.func49, Tryd.ntmps49
    go_wp2_with (first | ((with_reducible refine gate_dst (N := 4) rfl ?_); refine box_event ?hg (N := 4) ?hd (cs := #[.int .i64 0, .int .i64 0]) (t := 25) ?hr ?_; (case hd => rfl); (case hg => rfl); (case hr => first | (go_simp; done) | (go_simp; rfl)); intro gb hgb w1 hbox hb; have BK := Aside0.mk hbox; have GB := Aside0.mk (by rw [hgb]; exact Nat.le_refl _ : w.heap.size ≤ gb); have n1_ := Aside0.mk (below_step HB.out hb); clear HB; have HB := n1_; clear n1_ hb hbox hgb) | (go_at_call 36; with_reducible refine (mark_Check.calls _ c0 l0 _ _ (Kd.C_below HR.out HB.out) hc0 HF.out).mono ?_; rintro e w2 ⟨rfl, hb⟩; have n0_ := Aside0.mk (blk_below (g := gb) (o := .cells #[.int .i64 0, .int .i64 0] 25 (0, 0)) BK.out hb); have n1_ := Aside0.mk (below_step HB.out hb); clear HB BK; have BK := n0_; have HB := n1_; clear n0_ n1_ hb; have hcl0 : w2.cell? ⟨gb, 0, none⟩ = some (.int .i64 0) := ((blk_cell BK.out _).trans rfl); have hcl1 : w2.cell? ⟨gb, 1, none⟩ = some (.int .i64 0) := ((blk_cell BK.out _).trans rfl); have hf0 := blk_frozen BK.out 0; have hf1 := blk_frozen BK.out 1) | (go_at_call 44; with_reducible refine (within_yes a1 _ hid).mono ?_; rintro e w' ⟨rfl, rfl⟩) | (go_at_call 57; (with_reducible refine (search_calls _ c0 l0 a1 _ _ (Kd.C_below HR.out (below_step HB.out (fn_below _))) hc0 ?hcell hlen hid HW.out HS.out).mono ?_; (case hcell => first | (go_simp; done) | (go_simp; rfl)); rintro e w3 ⟨i, b, rfl, hbd, hi1, hi2, hi3, hb⟩; have n0_ := Aside0.mk (blk_below (g := gb) (o := .cells #[.int .i64 0, .int .i64 0] 25 (0, 0)) (blk_below BK.out (fn_below _)) hb); have n1_ := Aside0.mk (below_step (below_step HB.out (fn_below _)) hb); clear HB BK hcl0 hcl1 hf0 hf1; have BK := n0_; have HB := n1_; clear n0_ n1_ hb; have hcl0 : w3.cell? ⟨gb, 0, none⟩ = some (.int .i64 0) := ((blk_cell BK.out _).trans rfl); have hcl1 : w3.cell? ⟨gb, 1, none⟩ = some (.int .i64 0) := ((blk_cell BK.out _).trans rfl); have hf0 := blk_frozen BK.out 0; have hf1 := blk_frozen BK.out 1; obtain rfl : i = t := (by have hT := HT.out; have s1 := HS.out; exact Nat.le_antisymm (Nat.not_lt.1 fun z => by have := hi2 t z; omega) (Nat.not_lt.1 fun z => by have := s1 i t z ht; have := hi3 i (Nat.le_refl _) (by omega); omega)); obtain rfl : b = true := hbd.trans (decide_eq_true ⟨ht, HT.out⟩); have hx0 := (HB.out.cell (World.block_lt_of_cell? w _ HX0.out)).trans HX0.out; have hx1 := (HB.out.cell (World.block_lt_of_cell? w _ HX1.out)).trans HX1.out; clear hi2 hi3 hbd)))
    refine bodyPost_ret (results_ct rfl _ _ gb 25 #[.int .i64 x, .int .i64 y] (0, 0) _ rfl (by refine blk_put (cs := #[.int .i64 x, .int .i64 0]) ?_ 1 _ rfl; refine blk_put (cs := #[.int .i64 0, .int .i64 0]) ?_ 0 _ rfl; exact BK.out) Tryd.underlying25 rfl (by kernel_rfl)) rfl ?_
    exact ⟨by first | rfl | (simp; done), by repeat (first | (with_reducible first | exact HB.out | apply below_alloc | apply pw_below_drewN | apply below_drew1 | refine below_set ?_ GB.out) | exact HB.out)⟩
   ·have he : (0, 0, false) = (r1, r2, r3) := by
     rw [← h]
     unfold fd
     have : l0.find? (fun p => p.f0 == a1) = none := by
      rw [List.find?_eq_none]
      intro p hp
      obtain ⟨j, hj, rfl⟩ := List.getElem_of_mem hp
      exact fun z => hfd ⟨j, hj, by rw [rd_get l0 j hj]; simpa using z⟩
     rw [if_pos ⟨hck, hid⟩, this]
    obtain ⟨rfl, rfl, rfl⟩ : 0 = r1 ∧ 0 = r2 ∧ false = r3 := by simpa using he
    clear h he
    generalize ck l0 = ckv at HF hck
    subst hck
    have HFD := Lib.hid hfd
    clear hfd
    go_enter Tryd.func49, Tryd.ntmps49
    go_wp2_with (first | ((with_reducible refine gate_dst (N := 4) rfl ?_); refine box_event ?hg (N := 4) ?hd (cs := #[.int .i64 0, .int .i64 0]) (t := 25) ?hr ?_; (case hd => rfl); (case hg => rfl); (case hr => first | (go_simp; done) | (go_simp; rfl)); intro gb hgb w1 hbox hb; have BK := Aside0.mk hbox; have GB := Aside0.mk (by rw [hgb]; exact Nat.le_refl _ : w.heap.size ≤ gb); have n1_ := Aside0.mk (below_step HB.out hb); clear HB; have HB := n1_; clear n1_ hb hbox hgb) | (go_at_call 36; with_reducible refine (mark_Check.calls _ c0 l0 _ _ (Kd.C_below HR.out HB.out) hc0 HF.out).mono ?_; rintro e w2 ⟨rfl, hb⟩; have n0_ := Aside0.mk (blk_below (g := gb) (o := .cells #[.int .i64 0, .int .i64 0] 25 (0, 0)) BK.out hb); have n1_ := Aside0.mk (below_step HB.out hb); clear HB BK; have BK := n0_; have HB := n1_; clear n0_ n1_ hb; have hcl0 : w2.cell? ⟨gb, 0, none⟩ = some (.int .i64 0) := ((blk_cell BK.out _).trans rfl); have hcl1 : w2.cell? ⟨gb, 1, none⟩ = some (.int .i64 0) := ((blk_cell BK.out _).trans rfl); have hf0 := blk_frozen BK.out 0; have hf1 := blk_frozen BK.out 1) | (go_at_call 44; with_reducible refine (within_yes a1 _ hid).mono ?_; rintro e w' ⟨rfl, rfl⟩) | (go_at_call 57; (with_reducible refine (search_calls _ c0 l0 a1 _ _ (Kd.C_below HR.out (below_step HB.out (fn_below _))) hc0 ?hcell hlen hid HW.out HS.out).mono ?_; (case hcell => first | (go_simp; done) | (go_simp; rfl)); rintro e w3 ⟨i, b, rfl, hbd, hi1, hi2, hi3, hb⟩; have n0_ := Aside0.mk (blk_below (g := gb) (o := .cells #[.int .i64 0, .int .i64 0] 25 (0, 0)) (blk_below BK.out (fn_below _)) hb); have n1_ := Aside0.mk (below_step (below_step HB.out (fn_below _)) hb); clear HB BK hcl0 hcl1 hf0 hf1; have BK := n0_; have HB := n1_; clear n0_ n1_ hb; have hcl0 : w3.cell? ⟨gb, 0, none⟩ = some (.int .i64 0) := ((blk_cell BK.out _).trans rfl); have hcl1 : w3.cell? ⟨gb, 1, none⟩ = some (.int .i64 0) := ((blk_cell BK.out _).trans rfl); have hf0 := blk_frozen BK.out 0; have hf1 := blk_frozen BK.out 1; obtain rfl : b = false := hbd.trans (decide_eq_false fun z => absurd (⟨i, z⟩ : ∃ t : Nat, t < l0.length ∧ (rd_T25 l0 t).f0 = a1) HFD.out); clear hi2 hi3 hbd)))
    refine bodyPost_ret (results_ct rfl _ _ gb 25 #[.int .i64 0, .int .i64 0] (0, 0) _ rfl (by refine blk_put (cs := #[.int .i64 0, .int .i64 0]) ?_ 1 _ rfl; refine blk_put (cs := #[.int .i64 0, .int .i64 0]) ?_ 0 _ rfl; exact BK.out) Tryd.underlying25 rfl (by kernel_rfl)) rfl ?_
    exact ⟨by first | rfl | (simp; done), by repeat (first | (with_reducible first | exact HB.out | apply below_alloc | apply pw_below_drewN | apply below_drew1 | refine below_set ?_ GB.out) | exact HB.out)⟩
  ·have he : (0, 0, false) = (r1, r2, r3) := by rw [← h]; unfold fd; rw [if_neg (fun z => hid z.2)]
   obtain ⟨rfl, rfl, rfl⟩ : 0 = r1 ∧ 0 = r2 ∧ false = r3 := by simpa using he
   clear h he
   generalize ck l0 = ckv at HF hck
   subst hck
   go_enter Tryd.func49, Tryd.ntmps49
   go_wp2_with (first | ((with_reducible refine gate_dst (N := 4) rfl ?_); refine box_event ?hg (N := 4) ?hd (cs := #[.int .i64 0, .int .i64 0]) (t := 25) ?hr ?_; (case hd => rfl); (case hg => rfl); (case hr => first | (go_simp; done) | (go_simp; rfl)); intro gb hgb w1 hbox hb; have BK := Aside0.mk hbox; have GB := Aside0.mk (by rw [hgb]; exact Nat.le_refl _ : w.heap.size ≤ gb); have n1_ := Aside0.mk (below_step HB.out hb); clear HB; have HB := n1_; clear n1_ hb hbox hgb) | (go_at_call 36; with_reducible refine (mark_Check.calls _ c0 l0 _ _ (Kd.C_below HR.out HB.out) hc0 HF.out).mono ?_; rintro e w2 ⟨rfl, hb⟩; have n0_ := Aside0.mk (blk_below (g := gb) (o := .cells #[.int .i64 0, .int .i64 0] 25 (0, 0)) BK.out hb); have n1_ := Aside0.mk (below_step HB.out hb); clear HB BK; have BK := n0_; have HB := n1_; clear n0_ n1_ hb; have hcl0 : w2.cell? ⟨gb, 0, none⟩ = some (.int .i64 0) := ((blk_cell BK.out _).trans rfl); have hcl1 : w2.cell? ⟨gb, 1, none⟩ = some (.int .i64 0) := ((blk_cell BK.out _).trans rfl); have hf0 := blk_frozen BK.out 0; have hf1 := blk_frozen BK.out 1) | (go_at_call 44; with_reducible refine (within_no a1 _ hid).mono ?_; rintro e w' ⟨rfl, rfl⟩))
   refine bodyPost_ret (results_ct rfl _ _ gb 25 #[.int .i64 0, .int .i64 0] (0, 0) _ rfl (by refine blk_put (cs := #[.int .i64 0, .int .i64 0]) ?_ 1 _ rfl; refine blk_put (cs := #[.int .i64 0, .int .i64 0]) ?_ 0 _ rfl; exact BK.out) Tryd.underlying25 rfl (by kernel_rfl)) rfl ?_
   exact ⟨by first | rfl | (simp; done), by repeat (first | (with_reducible first | exact HB.out | apply below_alloc | apply pw_below_drewN | apply below_drew1 | refine below_set ?_ GB.out) | exact HB.out)⟩
 ·have he : (0, 0, false) = (r1, r2, r3) := by rw [← h]; unfold fd; rw [if_neg (fun z => hck z.1)]
  obtain ⟨rfl, rfl, rfl⟩ : 0 = r1 ∧ 0 = r2 ∧ false = r3 := by simpa using he
  clear h he
  generalize ck l0 = ckv at HF hck
  have hck1 : (ckv != 0) = true := bne_iff_ne.mpr hck
  have hck2 : (ckv == 0) = false := beq_eq_false_iff_ne.mpr hck
  go_enter Tryd.func49, Tryd.ntmps49
  go_wp2_with (first | ((with_reducible refine gate_dst (N := 4) rfl ?_); refine box_event ?hg (N := 4) ?hd (cs := #[.int .i64 0, .int .i64 0]) (t := 25) ?hr ?_; (case hd => rfl); (case hg => rfl); (case hr => first | (go_simp; done) | (go_simp; rfl)); intro gb hgb w1 hbox hb; have BK := Aside0.mk hbox; have GB := Aside0.mk (by rw [hgb]; exact Nat.le_refl _ : w.heap.size ≤ gb); have n1_ := Aside0.mk (below_step HB.out hb); clear HB; have HB := n1_; clear n1_ hb hbox hgb) | (go_at_call 36; with_reducible refine (mark_Check.calls _ c0 l0 _ _ (Kd.C_below HR.out HB.out) hc0 HF.out).mono ?_; rintro e w2 ⟨rfl, hb⟩; have n0_ := Aside0.mk (blk_below (g := gb) (o := .cells #[.int .i64 0, .int .i64 0] 25 (0, 0)) BK.out hb); have n1_ := Aside0.mk (below_step HB.out hb); clear HB BK; have BK := n0_; have HB := n1_; clear n0_ n1_ hb; have hcl0 : w2.cell? ⟨gb, 0, none⟩ = some (.int .i64 0) := ((blk_cell BK.out _).trans rfl); have hcl1 : w2.cell? ⟨gb, 1, none⟩ = some (.int .i64 0) := ((blk_cell BK.out _).trans rfl); have hf0 := blk_frozen BK.out 0; have hf1 := blk_frozen BK.out 1))
  refine bodyPost_ret (results_ct rfl _ _ gb 25 #[.int .i64 0, .int .i64 0] (0, 0) _ rfl (by refine blk_put (cs := #[.int .i64 0, .int .i64 0]) ?_ 1 _ rfl; refine blk_put (cs := #[.int .i64 0, .int .i64 0]) ?_ 0 _ rfl; exact BK.out) Tryd.underlying25 rfl (by kernel_rfl)) rfl ?_
  exact ⟨by first | rfl | (simp; done), by repeat (first | (with_reducible first | exact HB.out | apply below_alloc | apply pw_below_drewN | apply below_drew1 | refine below_set ?_ GB.out) | exact HB.out)⟩
end Go.Proofs.YtcalkhlchjjalaaDoor.Q

namespace Go.Proofs.YtcalkhlchjjalaaDoor.Q
open Go.RowKit Go.Proofs.YtcalkhlchjjalaaDoorW.PrintWords Go.Proofs.YtcalkhlchjjalaaDoorW.PrintLast Go.Proofs.YtcalkhlchjjalaaDoorW.PrintMore Go.Proofs.YtcalkhlchjjalaaDoor.Gput
attribute [local go_sem] max2_int min2_int max_two min_two max_three min_three max_four min_four   -- for this text's walks alone
set_option linter.unusedVariables false
set_option linter.unusedSimpArgs false
def storagebartermake_People.l0 : Nat → Int → List (S25) → Int → Int → List Int → Int → Option ((List (S25)) × Int)
 | 0, _, _, _, _, _, _ => none
 | k + 1, x1, x5, x6, x7, x1000, x1001 => if x7 ≤ x1 then ((storagebartermake_Deck_Next.f x1000 x1001 50).bind fun bt132 => (if x5.length < 8796093022208 then (storagebartermake_People.l0 k x1 (x5 ++ [(⟨x7, wrap64 (x6 + (wrap64 (1 + bt132.1)))⟩ : S25)]) (wrap64 (x6 + (wrap64 (1 + bt132.1)))) (wrap64 (x7 + 1)) x1000 bt132.2) else (none))) else (some (x5, x1001))
def storagebartermake_People.f (k : Nat) (s0_0 : List Int) (s0_1 : Int) (a1 : Int) : Option ((List (S25)) × Int) := storagebartermake_People.l0 k a1 ([] : List (S25)) 0 1 s0_0 s0_1
theorem storagebartermake_People.mono_l : ∀ k, (∀ y0 y1 y2 y3 y4 y5, LeO (storagebartermake_People.l0 k y0 y1 y2 y3 y4 y5) (storagebartermake_People.l0 (k + 1) y0 y1 y2 y3 y4 y5))
 | 0 => fun _ _ _ _ _ _ r h => by simp [storagebartermake_People.l0] at h
 | k + 1 => by
  have ih0 := storagebartermake_People.mono_l k
  ·intro y0 y1 y2 y3 y4 y5
   unfold storagebartermake_People.l0
   repeat' first
   | (with_reducible exact ih0 _ _ _ _ _ _)
   | (with_reducible exact LeO.refl _)
   | (with_reducible exact LeO.none _)
   | (with_reducible refine LeO.ite ?_ ?_)
   | (with_reducible refine LeO.bind ?_ (fun _ => ?_))
   | exact ih0 _ _ _ _ _ _
   | exact LeO.none _
   | refine LeO.ite ?_ ?_
   | refine LeO.bind ?_ (fun _ => ?_)
theorem storagebartermake_People.mono : ∀ a0 a1 a2 k, LeO (storagebartermake_People.f k a0 a1 a2) (storagebartermake_People.f (k + 1) a0 a1 a2) := by
 intro a0 a1 a2 k
 have ih0 := storagebartermake_People.mono_l k
 unfold storagebartermake_People.f
 repeat' first
  | (with_reducible exact ih0 _ _ _ _ _ _)
  | (with_reducible exact LeO.refl _)
  | (with_reducible exact LeO.none _)
  | (with_reducible refine LeO.ite ?_ ?_)
  | (with_reducible refine LeO.bind ?_ (fun _ => ?_))
  | exact ih0 _ _ _ _ _ _
  | exact LeO.none _
  | refine LeO.ite ?_ ?_
  | refine LeO.bind ?_ (fun _ => ?_)
set_option maxHeartbeats 8000000 in
set_option maxRecDepth 100000 in
theorem storagebartermake_People.calls (k : Nat) (g : Nat) (s0_0 : List Int) (s0_1 : Int) (a1 : Int) (r1 : List (S25)) (r2 : Int) (w0 w : World) (hI : IsS57 w0 w g s0_0 s0_1) (hB : Below w0.heap.size w0 w) (h : storagebartermake_People.f k s0_0 s0_1 a1 = some (r1, r2)) :
 Calls Tryd.prog 11 #[.pointer (some ⟨g, 0, none⟩), .int .i64 a1] w fun e w' => ∃ v0_ : Value, e = .returned (v0_) ∧ Kd.R k25 25 w' w.heap.size (fun _ => True) v0_ r1 ∧ IsS57 w0 w' g s0_0 r2 ∧ Below w0.heap.size w0 w' ∧ KeepBut w w' g none := by
 have hu25 := Tryd.underlying25
 have HI0 := Aside0.mk hI
 have HK := Aside0.mk (KeepBut.refl w g none)
 have HL := Aside0.mk hB.size
 clear hI
 have HW0 := Aside0.mk hB.size
 have HB := Aside0.mk hB
 clear hB
 have H : (storagebartermake_People.l0 k a1 ([] : List (S25)) 0 1 s0_0 s0_1) = some (r1, r2) := h
 clear h
 have H' := Aside0.mk H
 clear H
 go_enter Tryd.func11, Tryd.ntmps11
 go_wp2
 go_loopg [5, 6, 7] k (fun kq v5 v6 v7 w' => ∃ (x5_1 : List (S25)) (x6_1 : Int) (x7_1 : Int) (x1001_1 : Int), v6 = .int .i64 x6_1 ∧ v7 = .int .i64 x7_1 ∧ Aside0 (storagebartermake_People.l0 kq a1 x5_1 x6_1 x7_1 s0_0 x1001_1 = some (r1, r2)) ∧ Aside0 (kq ≤ k) ∧ Aside0 (Kd.R k25 25 w' w.heap.size (fun _ => True) v5 x5_1) ∧ Aside0 (IsS57 w0 w' g s0_0 x1001_1) ∧ Aside0 (KeepBut w w' g none) ∧ Aside0 (Below w0.heap.size w0 w'))
 case atStart => exact ⟨(([] : List (S25))), (0), (1), (s0_1), (by first | rfl | (simp; done) | (simp [*]; done)), (by first | rfl | (simp; done) | (simp [*]; done)), H', ⟨Nat.le_refl _⟩, ⟨by first | exact Kd.R_nil _ _ _ _ _ | exact Kd.N_nil _ _ _ _ _ | exact Kd.V_nil _ _ _ _ _ | exact Kd.Q_nil _ _ _ _ _ | exact Kd.S_nil _ _ _ _ _⟩, ⟨by repeat (first | (with_reducible first | exact HI0.out | apply IsS57.alloc | apply IsS57.drewN | apply IsS57.drew | apply IsS57.set_1) | exact HI0.out)⟩, ⟨by repeat (first | (with_reducible first | exact HK.out | apply KeepBut.set_ | apply keep_drewN | apply keep_drew | apply keep_alloc) | exact HK.out)⟩, ⟨by repeat (first | (with_reducible first | exact HB.out | apply below_alloc | apply pw_below_drewN | apply below_drew1 | refine below_set ?_ (IsS57.ge HI0.out)) | exact HB.out)⟩⟩
 case round =>
  clear H'
  try clear c1
  try clear p2
  obtain ⟨x5_1, x6_1, x7_1, x1001_1, rfl, rfl, HA, HK1, HO_5, HI0, HK, HB⟩ := hrel
  cases gk with
  | zero => exact absurd HA.out (by simp [storagebartermake_People.l0])
  | succ k1 =>
   have H := HA.out
   clear HA
   simp only [storagebartermake_People.l0] at H
   by_cases c3 : x7_1 ≤ a1
   ·rw [if_pos c3] at H
    have c3b0 : decide (x7_1 ≤ a1) = true := decide_eq_true c3
    clear c3
    replace H := Option.bind_eq_some_iff.mp H
    obtain ⟨⟨t132, t133⟩, A40, H⟩ := H
    replace H : (if x5_1.length < 8796093022208 then (storagebartermake_People.l0 k1 a1 (x5_1 ++ [(⟨x7_1, wrap64 (x6_1 + (wrap64 (1 + t132)))⟩ : S25)]) (wrap64 (x6_1 + (wrap64 (1 + t132)))) (wrap64 (x7_1 + 1)) s0_0 t133) else (none)) = some (r1, r2) := H
    have A4 := Aside0.mk A40
    clear A40
    by_cases c5 : x5_1.length < 8796093022208
    ·rw [if_pos c5] at H
     have LMc5 := Aside0.mk c5
     clear c5
     obtain ⟨y134, hy134⟩ : ∃ y_ : List (S25), y_ = (x5_1 ++ [(⟨x7_1, wrap64 (x6_1 + (wrap64 (1 + t132)))⟩ : S25)]) := ⟨_, rfl⟩
     replace H : (storagebartermake_People.l0 k1 a1 y134 (wrap64 (x6_1 + (wrap64 (1 + t132)))) (wrap64 (x7_1 + 1)) s0_0 t133) = some (r1, r2) := by first | (rw [hy134]; with_reducible exact H) | (have H2_ := (Option.bind_some _ _).symm.trans H; rw [hy134]; with_reducible exact H2_) | (have H2_ := (Option.bind_some _ _).symm.trans H; with_reducible exact H2_) | with_reducible exact H | (rw [hy134]; exact H) | exact H
     have Ny134 := Aside0.mk hy134
     clear hy134
     have H' := Aside0.mk H
     clear H
     go_wp2_with (first | ((with_reducible refine gate_callee (f := 16) rfl ?_); refine goesL_ (some 15) rfl rfl Tryd.func16 (by kernel_rfl) rfl #[.pointer (some ⟨g, 0, none⟩), .int .i64 50] rfl (by (try simp only [List.map_toArray, List.map_cons, List.map_nil]); first | done | rfl | (simp only [List.length_drop, List.length_take]; rfl)) ?_; (with_reducible refine (storagebartermake_Deck_Next.calls g s0_0 x1001_1 50 t132 t133 w0 _ ?side1 ?side2 A4.out).mono ?_); (case side1 => repeat (first | (with_reducible first | exact HI0.out | apply IsS57.alloc | apply IsS57.drewN | apply IsS57.drew | apply IsS57.set_1) | exact HI0.out)); (case side2 => repeat (first | (with_reducible first | exact HB.out | apply below_alloc | apply pw_below_drewN | apply below_drew1 | refine below_set ?_ (IsS57.ge HI0.out)) | exact HB.out)); rintro e w6 ⟨rfl, hi, hb, hk⟩; refine ⟨_, rfl, ?_⟩; have n0_ := Aside0.mk (Kd.R_mono (Kd.R_keep (IsS57.apart (show IsS57 w0 _ g s0_0 x1001_1 from by repeat (first | (with_reducible first | exact HI0.out | apply IsS57.alloc | apply IsS57.drewN | apply IsS57.drew | apply IsS57.set_1) | exact HI0.out)) (by (with_reducible repeat (first | apply Kd.R_alloc | apply Kd.R_drewN | apply Kd.R_drew)); exact HO_5.out) (by decide)) hk (fun _ h => h.2)) (fun _ h => h.1)); have n1_ := Aside0.mk (KeepBut.trans (by repeat (first | (with_reducible first | exact HK.out | apply KeepBut.set_ | apply keep_drewN | apply keep_drew | apply keep_alloc) | exact HK.out)) hk (.inl rfl)); have n2_ := Aside0.mk (hb); have n3_ := Aside0.mk (hi); clear HO_5; clear HK; clear HB; clear HI0; have HO_5 := n0_; have HK := n1_; have HB := n2_; have HI0 := n3_; clear n0_ n1_ n2_ n3_; (try clear hb); (try clear hb2); (try clear hk); (try clear hi)) | ((with_reducible refine gate_builtin (b := .append) (xs := #[.tmp 18, .tmp 22]) rfl ?_); at_builtin; refine Kd.R_append k25 w.heap.size rfl (.tmp 18) (.tmp 22) 30 25 (.agg #[(.int .i64 0), (.int .i64 0)]) 16 rfl Tryd.underlying30 info25 rfl (by decide) (by omega) u5 x5_1 (⟨x7_1, wrap64 (x6_1 + (wrap64 (1 + t132)))⟩ : S25) [.int .i64 x7_1, .int .i64 (wrap64 (x6_1 + (wrap64 (1 + t132))))] (fun _ => True) (fun _ => False) rfl rfl ?aP (fun _ hk => hk.elim) ?aF ?aO (Below.refl _ _) ?aS ?aL ?_; (case aP => exact k25_mkM _ _ _ (⟨x7_1, wrap64 (x6_1 + (wrap64 (1 + t132)))⟩ : S25)); (case aF => exact (fun _ _ => trivial)); (case aO => exact (by (with_reducible repeat (first | apply Kd.R_alloc | apply Kd.R_drewN | apply Kd.R_drew)); exact HO_5.out)); (case aS => exact (keep_size (w := w) (g := g) (row := none) (by repeat (first | (with_reducible first | exact HK.out | apply KeepBut.set_ | apply keep_drewN | apply keep_drew | apply keep_alloc) | exact HK.out)))); (case aL => have := LMc5.out; omega); intro v135 w7 ho hb hg hat; rw [← Ny134.out] at ho; have n0_ := Aside0.mk (IsS57.grown (by repeat (first | (with_reducible first | exact HI0.out | apply IsS57.alloc | apply IsS57.drewN | apply IsS57.drew | apply IsS57.set_1) | exact HI0.out)) hg (IsS57.own_ne HI0.out HO_5.out (by decide))); have n1_ := Aside0.mk (below_weaken (by repeat (first | (with_reducible first | exact HB.out | apply below_alloc | apply pw_below_drewN | apply below_drew1 | refine below_set ?_ (IsS57.ge HI0.out)) | exact HB.out)) HL.out hb); have n2_ := Aside0.mk (KeepBut.trans (by repeat (first | (with_reducible first | exact HK.out | apply KeepBut.set_ | apply keep_drewN | apply keep_drew | apply keep_alloc) | exact HK.out)) (KeepBut.of_grown hg g) (Kd.R_base2 HO_5.out)); have n3_ := Aside0.mk (ho); clear HI0; clear HB; clear HK; clear HO_5; have HI0 := n0_; have HB := n1_; have HK := n2_; have HO136 := n3_; clear n0_ n1_ n2_ n3_; clear ho hb hg hat))
     go_roundg k1
     case measure => have := HK1.out; omega
     case rel => exact ⟨(y134), (wrap64 (x6_1 + (wrap64 (1 + t132)))), (wrap64 (x7_1 + 1)), (t133), (by first | rfl | (simp; done) | (simp [*]; done)), (by first | rfl | (simp; done) | (simp [*]; done)), H', ⟨by have := HK1.out; omega⟩, ⟨by (with_reducible repeat (first | apply Kd.R_alloc | apply Kd.R_drewN | apply Kd.R_drew)); exact HO136.out⟩, ⟨by repeat (first | (with_reducible first | exact HI0.out | apply IsS57.alloc | apply IsS57.drewN | apply IsS57.drew | apply IsS57.set_1) | exact HI0.out)⟩, ⟨by repeat (first | (with_reducible first | exact HK.out | apply KeepBut.set_ | apply keep_drewN | apply keep_drew | apply keep_alloc) | exact HK.out)⟩, ⟨by repeat (first | (with_reducible first | exact HB.out | apply below_alloc | apply pw_below_drewN | apply below_drew1 | refine below_set ?_ (IsS57.ge HI0.out)) | exact HB.out)⟩⟩
    ·rw [if_neg c5] at H
     exact absurd H (by simp)
   ·rw [if_neg c3] at H
    have c3b0 : decide (x7_1 ≤ a1) = false := decide_eq_false c3
    clear c3
    simp only [Option.some.injEq, Prod.mk.injEq] at H
    obtain ⟨rfl, rfl⟩ := H
    go_wp2
    go_ret
    exact ⟨_, by first | rfl | (simp [errW_none, errW_some] <;> rfl) | (simp [*, errW_none, errW_some] <;> rfl), by (with_reducible repeat (first | apply Kd.R_alloc | apply Kd.R_drewN | apply Kd.R_drew)); exact HO_5.out, by repeat (first | (with_reducible first | exact HI0.out | apply IsS57.alloc | apply IsS57.drewN | apply IsS57.drew | apply IsS57.set_1) | exact HI0.out), by repeat (first | (with_reducible first | exact HB.out | apply below_alloc | apply pw_below_drewN | apply below_drew1 | refine below_set ?_ (IsS57.ge HI0.out)) | exact HB.out), by repeat (first | (with_reducible first | exact HK.out | apply KeepBut.set_ | apply keep_drewN | apply keep_drew | apply keep_alloc) | exact HK.out)⟩
end Go.Proofs.YtcalkhlchjjalaaDoor.Q

namespace Go.Proofs.YtcalkhlchjjalaaDoor.Gpp
open Go Go.RowKit Go.Proofs.YtcalkhlchjjalaaDoor.Gm Go.Proofs.YtcalkhlchjjalaaDoor.Gdm Go.Proofs.YtcalkhlchjjalaaDoor.Q Go.Proofs.YtcalkhlchjjalaaDoor.Gput Go.Proofs.YtcalkhlchjjalaaDoorW.PrintWords Go.Proofs.YtcalkhlchjjalaaDoorW.PrintLast Go.Proofs.YtcalkhlchjjalaaDoorW.PrintMore
set_option linter.unusedVariables false
structure Made (l : List S25) (sec : Int) : Prop where
 ids : ∀ (j : Nat) (h : j < l.length), l[j].f0 = j + 1
 secs : l.Pairwise (fun p q => p.f1 < q.f1)
 low : ∀ p ∈ l, 1 ≤ p.f1 ∧ p.f1 ≤ sec
 high : 0 ≤ sec ∧ sec ≤ 50 * l.length
theorem Made.snoc {l : List S25} {sec t : Int} (h : Made l sec) (h0 : 0 ≤ t) (h1 : t < 50) : Made (l ++ [⟨(l.length : Int) + 1, sec + (1 + t)⟩]) (sec + (1 + t)) := by
 refine ⟨fun j hj => ?_, ?_, fun p hp => ?_, ?_⟩
 ·rw [List.length_append, List.length_singleton] at hj
  by_cases hjl : j < l.length
  ·rw [List.getElem_append_left hjl]; exact h.ids j hjl
  ·obtain rfl : j = l.length := by omega
   rw [List.getElem_append_right (Nat.le_refl _)]
   simp
 ·rw [List.pairwise_append]
  refine ⟨h.secs, List.pairwise_singleton _ _, fun p hp q hq => ?_⟩
  rw [List.mem_singleton] at hq
  subst hq
  have := (h.low p hp).2
  show p.f1 < sec + (1 + t)
  omega
 ·rcases List.mem_append.1 hp with hp | hp
  ·have := h.low p hp; omega
  ·rw [List.mem_singleton] at hp
   subst hp
   have := h.high
   show 1 ≤ sec + (1 + t) ∧ sec + (1 + t) ≤ sec + (1 + t)
   omega
 ·rw [List.length_append, List.length_singleton]
  have := h.high
  omega
theorem People_l0 (L : List Int) (hL : L.length ≤ 1000000) (n : Nat) (hn : n ≤ 1000) : ∀ (d : Nat) (l : List S25) (sec at_ : Int) (k : Nat), n - l.length = d → l.length ≤ n → Made l sec → 0 ≤ at_ → d < k →
 ∃ l' sec' at', storagebartermake_People.l0 k n l sec ((l.length : Int) + 1) L at_ = some (l', at') ∧ Made l' sec' ∧ l'.length = n ∧ 0 ≤ at' := by
 intro d
 induction d with
 | zero =>
  intro l sec at_ k hd hle hm h0 hk
  obtain ⟨k, rfl⟩ : ∃ m, k = m + 1 := ⟨k - 1, by omega⟩
  rw [storagebartermake_People.l0, if_neg (by omega)]
  exact ⟨l, sec, at_, rfl, hm, by omega, h0⟩
 | succ d ih =>
  intro l sec at_ k hd hle hm h0 hk
  obtain ⟨k, rfl⟩ : ∃ m, k = m + 1 := ⟨k - 1, by omega⟩
  obtain ⟨t, at', e, ht0, ht1, hat⟩ := next_ok L at_ 50 (by omega) (by omega) h0 hL
  have hh := hm.high
  rw [storagebartermake_People.l0, if_pos (by omega), e, Option.bind_some, if_pos (by omega), w64 (x := 1 + t) (by omega), w64 (x := sec + (1 + t)) (by omega), w64 (by omega)]
  have hlen : (((l ++ [(⟨(l.length : Int) + 1, sec + (1 + t)⟩ : S25)]).length : Nat) : Int) + 1 = (l.length : Int) + 1 + 1 := by simp
  rw [← hlen]
  exact ih _ _ at' k (by simp; omega) (by simp; omega) (hm.snoc ht0 ht1) hat (by omega)
theorem People_ok (L : List Int) (hL : L.length ≤ 1000000) (at_ : Int) (h0 : 0 ≤ at_) (n : Nat) (hn : n ≤ 1000) (k : Nat) (hk : n < k) : ∃ l sec at', storagebartermake_People.f k L at_ n = some (l, at') ∧ Made l sec ∧ l.length = n ∧ 0 ≤ at' := by
 unfold storagebartermake_People.f
 exact People_l0 L hL n hn n [] 0 at_ k (by simp) (by simp) ⟨fun j h => absurd h (by simp), List.Pairwise.nil, fun p hp => absurd hp (by simp), by simp⟩ h0 hk
theorem ckGo_of : ∀ (l : List S25) (prev : Option Int) (seen : List Int), (∀ p ∈ l, within p.f0 ∧ within p.f1) → (∀ q, prev = some q → ∀ p ∈ l, q < p.f0) → l.Pairwise (fun p q => p.f0 < q.f0) → (∀ p ∈ l, p.f1 ∉ seen) → l.Pairwise (fun p q => p.f1 ≠ q.f1) → ckGo prev seen l = 0 := by
 intro l
 induction l with
 | nil => intros; rfl
 | cons p r ih =>
  intro prev seen h1 h2 h3 h4 h5
  obtain ⟨h3a, h3b⟩ := List.pairwise_cons.1 h3
  obtain ⟨h5a, h5b⟩ := List.pairwise_cons.1 h5
  rw [ckGo, if_neg (fun z => z (h1 p List.mem_cons_self)), if_neg (by rintro ⟨q, hq, z⟩; have := h2 q hq p List.mem_cons_self; omega), if_neg (h4 p List.mem_cons_self)]
  refine ih _ _ (fun x hx => h1 x (List.mem_cons_of_mem _ hx)) (fun q hq x hx => ?_) h3b (fun x hx => ?_) h5b
  ·cases hq; exact h3a x hx
  ·intro z
   rcases List.mem_cons.1 z with z | z
   ·exact h5a x hx z.symm
   ·exact h4 x (List.mem_cons_of_mem _ hx) z
theorem Made.pairs {l : List S25} {sec : Int} (h : Made l sec) : l.Pairwise (fun p q => p.f0 < q.f0) := by
 rw [List.pairwise_iff_getElem]
 intro i j hi hj hij
 rw [h.ids i hi, h.ids j hj]
 omega
theorem Made.within {l : List S25} {sec : Int} (h : Made l sec) (hl : l.length ≤ 16) : ∀ p ∈ l, Q.within p.f0 ∧ Q.within p.f1 := by
 intro p hp
 have h1 := h.low p hp
 have h2 := h.high
 obtain ⟨j, hj, rfl⟩ := List.getElem_of_mem hp
 rw [h.ids j hj]
 unfold Q.within
 omega
theorem Made.ck {l : List S25} {sec : Int} (h : Made l sec) (hl : l.length ≤ 16) : Q.ck l = 0 := by
 unfold Q.ck
 rw [if_neg (by omega)]
 exact ckGo_of l none [] (h.within hl) (fun q hq => by cases hq) h.pairs (fun p hp => by simp) (h.secs.imp fun z => by omega)
theorem Made.wf {l : List S25} {sec : Int} (h : Made l sec) (hl : l.length ≤ 16) : l.all (fun p => (Lit.int .i64 p.f1).wf) = true := by
 rw [List.all_eq_true]
 intro p hp
 have := (h.within hl p hp).2
 unfold Q.within at this
 exact wf64 (by omega)
theorem Find_made {l : List S25} {sec : Int} (h : Made l sec) (hl : l.length ≤ 16) (j : Nat) (hj : j < l.length) : mark_Find.f l ((j : Int) + 1) = some ((j : Int) + 1, l[j].f1, true) := by
 unfold mark_Find.f fd
 have hf : l.find? (fun p => p.f0 == (j : Int) + 1) = some l[j] := by
  rw [List.find?_eq_some_iff_getElem]
  refine ⟨by simp [h.ids j hj], j, hj, rfl, fun i hi => ?_⟩
  simp only [h.ids i (by omega), Bool.not_eq_true', beq_eq_false_iff_ne]
  omega
 rw [if_pos (h.wf hl), if_pos ⟨h.ck hl, by unfold Q.within; omega⟩, hf]
 simp only [h.ids j hj]
end Go.Proofs.YtcalkhlchjjalaaDoor.Gpp

namespace Go.Proofs.YtcalkhlchjjalaaDoor.Q
open Go.RowKit Go.Proofs.YtcalkhlchjjalaaDoorW.PrintWords Go.Proofs.YtcalkhlchjjalaaDoorW.PrintLast Go.Proofs.YtcalkhlchjjalaaDoorW.PrintMore Go.Proofs.YtcalkhlchjjalaaDoor.Gput
attribute [local go_sem] max2_int min2_int max_two min_two max_three min_three max_four min_four   -- for this text's walks alone
set_option linter.unusedVariables false
set_option linter.unusedSimpArgs false
def mark_Sign.f (k : Nat) (a0 : Int) (a1 : ByteArray) : Option (Int × Int) := (mark_within.f a0).bind fun t109 => (if t109 = true then (if (a1.size : Int) > 16384 then (some (0, 4)) else ((wire_PutInt.f (⟨#[]⟩ : ByteArray) a0).bind fun t110 => (if t110.size + a1.size ≤ 9223372036854775807 then ((digest_Sum.f k (t110 ++ a1)).bind fun t111 => (some (t111, 0))) else (none)))) else (some (0, 1)))
theorem mark_Sign.mono : ∀ a0 a1 k, LeO (mark_Sign.f k a0 a1) (mark_Sign.f (k + 1) a0 a1) := by
 intro a0 a1 k
 unfold mark_Sign.f
 repeat' first
  | (with_reducible exact digest_Sum.mono _ _)
  | (with_reducible exact LeO.refl _)
  | (with_reducible exact LeO.none _)
  | (with_reducible refine LeO.ite ?_ ?_)
  | (with_reducible refine LeO.bind ?_ (fun _ => ?_))
  | exact digest_Sum.mono _ _
  | exact LeO.none _
  | refine LeO.ite ?_ ?_
  | refine LeO.bind ?_ (fun _ => ?_)
set_option maxHeartbeats 8000000 in
set_option maxRecDepth 100000 in
theorem mark_Sign.calls (k : Nat) (a0 : Int) (a1 : ByteArray) (r1 : Int) (r2 : Int) (w : World) (h : mark_Sign.f k a0 a1 = some (r1, r2)) :
 Calls Tryd.prog 29 #[.int .i64 a0, .string a1] w fun e w' => e = .returned (.tuple #[.int .i64 r1, .int .i64 r2]) ∧ Below w.heap.size w w' := by
 have HB := Aside0.mk (Below.refl w.heap.size w)
 have H : ((mark_within.f a0).bind fun t109 => (if t109 = true then (if (a1.size : Int) > 16384 then (some (0, 4)) else ((wire_PutInt.f (⟨#[]⟩ : ByteArray) a0).bind fun t110 => (if t110.size + a1.size ≤ 9223372036854775807 then ((digest_Sum.f k (t110 ++ a1)).bind fun t111 => (some (t111, 0))) else (none)))) else (some (0, 1)))) = some (r1, r2) := h
 clear h
 replace H := Option.bind_eq_some_iff.mp H
 obtain ⟨t109, A30, H⟩ := H
 replace H : (if t109 = true then (if (a1.size : Int) > 16384 then (some (0, 4)) else ((wire_PutInt.f (⟨#[]⟩ : ByteArray) a0).bind fun t110 => (if t110.size + a1.size ≤ 9223372036854775807 then ((digest_Sum.f k (t110 ++ a1)).bind fun t111 => (some (t111, 0))) else (none)))) else (some (0, 1))) = some (r1, r2) := H
 have A3 := Aside0.mk A30
 clear A30
 by_cases c4 : t109 = true
 ·subst c4
  have H1 : (if (a1.size : Int) > 16384 then (some (0, 4)) else ((wire_PutInt.f (⟨#[]⟩ : ByteArray) a0).bind fun t110 => (if t110.size + a1.size ≤ 9223372036854775807 then ((digest_Sum.f k (t110 ++ a1)).bind fun t111 => (some (t111, 0))) else (none)))) = some (r1, r2) := by rw [if_pos rfl] at H; exact H
  clear H
  have H := H1
  clear H1
  by_cases c5 : (a1.size : Int) > 16384
  ·rw [if_pos c5] at H
   have c5b0 : decide (16384 < (a1.size : Int)) = true := decide_eq_true c5
   have c5b1 : decide (16384 < a1.size) = true := decide_eq_true (by omega)
   clear c5
   simp only [Option.some.injEq, Prod.mk.injEq] at H
   obtain ⟨rfl, rfl⟩ := H
   go_enter Tryd.func29, Tryd.ntmps29
   go_wp2_with (first | ((with_reducible refine gate_callee (f := 44) rfl ?_); refine goesL_ (some 7) rfl rfl Tryd.func44 (by kernel_rfl) rfl #[.int .i64 a0] rfl (by (try simp only [List.map_toArray, List.map_cons, List.map_nil]); first | done | rfl | (simp only [List.length_drop, List.length_take]; rfl)) ?_; (with_reducible refine (mark_within.calls a0 true _ A3.out).mono ?_); rintro e w' ⟨rfl, ⟨nd, rfl⟩⟩; refine ⟨_, rfl, ?_⟩))
   go_ret2
   exact ⟨by first | rfl | (simp [errW_none, errW_some] <;> rfl) | (simp [*, errW_none, errW_some] <;> rfl), by repeat (first | (with_reducible first | exact HB.out | apply below_alloc | apply pw_below_drewN | apply below_drew1) | exact HB.out)⟩
  ·rw [if_neg c5] at H
   have c5b0 : decide (16384 < (a1.size : Int)) = false := decide_eq_false c5
   have c5b1 : decide (16384 < a1.size) = false := decide_eq_false (by omega)
   clear c5
   replace H := Option.bind_eq_some_iff.mp H
   obtain ⟨t110, A60, H⟩ := H
   replace H : (if t110.size + a1.size ≤ 9223372036854775807 then ((digest_Sum.f k (t110 ++ a1)).bind fun t111 => (some (t111, 0))) else (none)) = some (r1, r2) := H
   have A6 := Aside0.mk A60
   clear A60
   by_cases c7 : t110.size + a1.size ≤ 9223372036854775807
   ·rw [if_pos c7] at H
    have c7b0 := eq_true c7
    have c7b1 : decide (t110.size + a1.size ≤ 9223372036854775807) = true := decide_eq_true c7
    try have c7b2 : (9223372036854775807 < t110.size + a1.size) = False := eq_false (Nat.not_lt.2 c7)
    replace H := Option.bind_eq_some_iff.mp H
    obtain ⟨t111, A80, H⟩ := H
    replace H : (some (t111, 0)) = some (r1, r2) := H
    have A8 := Aside0.mk A80
    clear A80
    simp only [Option.some.injEq, Prod.mk.injEq] at H
    obtain ⟨rfl, rfl⟩ := H
    go_enter Tryd.func29, Tryd.ntmps29
    go_wp2_with (first | ((with_reducible refine gate_callee (f := 44) rfl ?_); refine goesL_ (some 7) rfl rfl Tryd.func44 (by kernel_rfl) rfl #[.int .i64 a0] rfl (by (try simp only [List.map_toArray, List.map_cons, List.map_nil]); first | done | rfl | (simp only [List.length_drop, List.length_take]; rfl)) ?_; (with_reducible refine (mark_within.calls a0 true _ A3.out).mono ?_); rintro e w' ⟨rfl, ⟨nd, rfl⟩⟩; refine ⟨_, rfl, ?_⟩) | ((with_reducible refine gate_callee (f := 42) rfl ?_); refine goesL_ (some 13) rfl rfl Tryd.func42 (by kernel_rfl) rfl #[.string (⟨#[]⟩ : ByteArray), .int .i64 a0] rfl (by (try simp only [List.map_toArray, List.map_cons, List.map_nil]); first | done | rfl | (simp only [List.length_drop, List.length_take]; rfl)) ?_; (with_reducible refine (wire_PutInt.calls (⟨#[]⟩ : ByteArray) a0 t110 _ A6.out).mono ?_); rintro e w9 ⟨rfl, hb⟩; refine ⟨_, rfl, ?_⟩; have n0_ := Aside0.mk (below_step (by repeat (first | (with_reducible first | exact HB.out | apply below_alloc | apply pw_below_drewN | apply below_drew1) | exact HB.out)) hb); clear HB; have HB := n0_; clear n0_; (try clear hb); (try clear hb2); (try clear hk); (try clear hi)) | ((with_reducible refine gate_callee (f := 26) rfl ?_); refine goesL_ (some 16) rfl rfl Tryd.func26 (by kernel_rfl) rfl #[.string (t110 ++ a1)] rfl (by (try simp only [List.map_toArray, List.map_cons, List.map_nil]); first | done | rfl | (simp only [List.length_drop, List.length_take]; rfl)) ?_; (with_reducible refine (digest_Sum.calls k (t110 ++ a1) t111 _ A8.out).mono ?_); rintro e w' ⟨rfl, ⟨nd, rfl⟩⟩; refine ⟨_, rfl, ?_⟩))
    go_ret2
    exact ⟨by first | rfl | (simp [errW_none, errW_some] <;> rfl) | (simp [*, errW_none, errW_some] <;> rfl), by repeat (first | (with_reducible first | exact HB.out | apply below_alloc | apply pw_below_drewN | apply below_drew1) | exact HB.out)⟩
   ·rw [if_neg c7] at H
    exact absurd H (by simp)
 ·replace c4 := Bool.eq_false_iff.mpr c4
  subst c4
  have H1 : (some (0, 1)) = some (r1, r2) := by rw [if_neg (show ¬ (false = true) by decide)] at H; exact H
  clear H
  have H := H1
  clear H1
  simp only [Option.some.injEq, Prod.mk.injEq] at H
  obtain ⟨rfl, rfl⟩ := H
  go_enter Tryd.func29, Tryd.ntmps29
  go_wp2_with (first | ((with_reducible refine gate_callee (f := 44) rfl ?_); refine goesL_ (some 7) rfl rfl Tryd.func44 (by kernel_rfl) rfl #[.int .i64 a0] rfl (by (try simp only [List.map_toArray, List.map_cons, List.map_nil]); first | done | rfl | (simp only [List.length_drop, List.length_take]; rfl)) ?_; (with_reducible refine (mark_within.calls a0 false _ A3.out).mono ?_); rintro e w' ⟨rfl, ⟨nd, rfl⟩⟩; refine ⟨_, rfl, ?_⟩))
  go_ret2
  exact ⟨by first | rfl | (simp [errW_none, errW_some] <;> rfl) | (simp [*, errW_none, errW_some] <;> rfl), by repeat (first | (with_reducible first | exact HB.out | apply below_alloc | apply pw_below_drewN | apply below_drew1) | exact HB.out)⟩
end Go.Proofs.YtcalkhlchjjalaaDoor.Q

namespace Go.Proofs.YtcalkhlchjjalaaDoor.Gsg
open Go Go.RowKit Go.Proofs.YtcalkhlchjjalaaDoor.Gm Go.Proofs.YtcalkhlchjjalaaDoor.Gdm Go.Proofs.YtcalkhlchjjalaaDoor.Gpp Go.Proofs.YtcalkhlchjjalaaDoor.Q Go.Proofs.YtcalkhlchjjalaaDoor.Gput Go.Proofs.YtcalkhlchjjalaaDoorW.PrintWords Go.Proofs.YtcalkhlchjjalaaDoorW.PrintLast Go.Proofs.YtcalkhlchjjalaaDoorW.PrintMore
set_option linter.unusedVariables false
theorem within_eq (n : Int) : mark_within.f n = some (decide (within n)) := by
 unfold mark_within.f within
 by_cases h1 : 1 ≤ n <;> by_cases h2 : n < 2147483647 <;> simp [h1, h2]
theorem Sign_eq (n : Int) (t : List UInt8) (k : Nat) (hn : within n) (ht : t.length ≤ 16384) (hk : t.length + 20 ≤ k) : mark_Sign.f k n (B t) = some (dg 1 (putI n ++ t), 0) := by
 unfold mark_Sign.f
 have hr : -9223372036854775808 ≤ n ∧ n ≤ 9223372036854775807 := by unfold within at hn; omega
 have hp := putI_len hr
 rw [within_eq, Option.bind_some, if_pos (by simpa using hn), B_size, if_neg (by omega), show (⟨#[]⟩ : ByteArray) = B [] from rfl, wire_PutInt_eq [] n (by simp) hr, Option.bind_some, List.nil_append, B_size, B_append, if_pos (by omega), Sum_eq _ _ (by rw [List.length_append]; omega) (by rw [List.length_append]; omega)]
 rfl
end Go.Proofs.YtcalkhlchjjalaaDoor.Gsg

namespace Go.Proofs.YtcalkhlchjjalaaDoor.Q
open Go.RowKit Go.Proofs.YtcalkhlchjjalaaDoorW.PrintWords Go.Proofs.YtcalkhlchjjalaaDoorW.PrintLast Go.Proofs.YtcalkhlchjjalaaDoorW.PrintMore Go.Proofs.YtcalkhlchjjalaaDoor.Gput
attribute [local go_sem] max2_int min2_int max_two min_two max_three min_three max_four min_four   -- for this text's walks alone
set_option linter.unusedVariables false
set_option linter.unusedSimpArgs false
def statement_Bytes.l0 : Nat → ByteArray → List Int → Int → Int → Option (ByteArray)
 | 0, _, _, _, _ => none
 | k + 1, x3, x26, x27, x28 => if x28 < x27 then (if 0 ≤ x28 then (if x28 < (x26.length : Int) then ((wire_PutInt.f x3 (rd x26 x28)).bind fun t108 => (statement_Bytes.l0 k t108 x26 x27 (wrap64 (x28 + 1)))) else (none)) else (none)) else (some x3)
def statement_Bytes.f (k : Nat) (a0_0 : Int) (a0_1 : Int) (a0_2 : Int) (a0_3 : Int) (a0_4 : Int) (a0_5 : Int) (a0_6 : Int) (a0_7 : Int) (a0_8 : Int) (a0_9 : Int) (a0_10 : Int) : Option (ByteArray) := (some (([a0_0, a0_1, a0_2, a0_3, a0_4, a0_5, a0_6, a0_7, a0_8, a0_9] : List Int) : List Int)).bind fun y104 => (statement_Bytes.l0 k (⟨#[]⟩ : ByteArray) y104 (y104.length : Int) 0)
theorem statement_Bytes.mono_l : ∀ k, (∀ y0 y1 y2 y3, LeO (statement_Bytes.l0 k y0 y1 y2 y3) (statement_Bytes.l0 (k + 1) y0 y1 y2 y3))
 | 0 => fun _ _ _ _ r h => by simp [statement_Bytes.l0] at h
 | k + 1 => by
  have ih0 := statement_Bytes.mono_l k
  ·intro y0 y1 y2 y3
   unfold statement_Bytes.l0
   repeat' first
   | (with_reducible exact ih0 _ _ _ _)
   | (with_reducible exact LeO.refl _)
   | (with_reducible exact LeO.none _)
   | (with_reducible refine LeO.ite ?_ ?_)
   | (with_reducible refine LeO.bind ?_ (fun _ => ?_))
   | exact ih0 _ _ _ _
   | exact LeO.none _
   | refine LeO.ite ?_ ?_
   | refine LeO.bind ?_ (fun _ => ?_)
theorem statement_Bytes.mono : ∀ a0 a1 a2 a3 a4 a5 a6 a7 a8 a9 a10 k, LeO (statement_Bytes.f k a0 a1 a2 a3 a4 a5 a6 a7 a8 a9 a10) (statement_Bytes.f (k + 1) a0 a1 a2 a3 a4 a5 a6 a7 a8 a9 a10) := by
 intro a0 a1 a2 a3 a4 a5 a6 a7 a8 a9 a10 k
 have ih0 := statement_Bytes.mono_l k
 unfold statement_Bytes.f
 repeat' first
  | (with_reducible exact ih0 _ _ _ _)
  | (with_reducible exact LeO.refl _)
  | (with_reducible exact LeO.none _)
  | (with_reducible refine LeO.ite ?_ ?_)
  | (with_reducible refine LeO.bind ?_ (fun _ => ?_))
  | exact ih0 _ _ _ _
  | exact LeO.none _
  | refine LeO.ite ?_ ?_
  | refine LeO.bind ?_ (fun _ => ?_)
set_option maxHeartbeats 8000000 in
set_option maxRecDepth 100000 in
theorem statement_Bytes.calls (k : Nat) (a0_0 : Int) (a0_1 : Int) (a0_2 : Int) (a0_3 : Int) (a0_4 : Int) (a0_5 : Int) (a0_6 : Int) (a0_7 : Int) (a0_8 : Int) (a0_9 : Int) (a0_10 : Int) (r : ByteArray) (w : World) (h : statement_Bytes.f k a0_0 a0_1 a0_2 a0_3 a0_4 a0_5 a0_6 a0_7 a0_8 a0_9 a0_10 = some r) :
 Calls Tryd.prog 25 #[.agg #[.int .i64 a0_0, .int .i64 a0_1, .int .i64 a0_2, .int .i64 a0_3, .int .i64 a0_4, .int .i64 a0_5, .int .i64 a0_6, .int .i64 a0_7, .int .i64 a0_8, .int .i64 a0_9, .int .i64 a0_10]] w fun e w' => e = .returned (.string r) ∧ Below w.heap.size w w' := by
 have hu39 := Tryd.underlying39
 have HB := Aside0.mk (Below.refl w.heap.size w)
 have H : ((some (([a0_0, a0_1, a0_2, a0_3, a0_4, a0_5, a0_6, a0_7, a0_8, a0_9] : List Int) : List Int)).bind fun y104 => (statement_Bytes.l0 k (⟨#[]⟩ : ByteArray) y104 (y104.length : Int) 0)) = some r := h
 clear h
 obtain ⟨y104, hy104⟩ : ∃ y_ : List Int, y_ = (([a0_0, a0_1, a0_2, a0_3, a0_4, a0_5, a0_6, a0_7, a0_8, a0_9] : List Int)) := ⟨_, rfl⟩
 replace H : (statement_Bytes.l0 k (⟨#[]⟩ : ByteArray) y104 (y104.length : Int) 0) = some r := by first | (rw [hy104]; with_reducible exact H) | (have H2_ := (Option.bind_some _ _).symm.trans H; rw [hy104]; with_reducible exact H2_) | (have H2_ := (Option.bind_some _ _).symm.trans H; with_reducible exact H2_) | with_reducible exact H | (rw [hy104]; exact H) | exact H
 have Ny104 := Aside0.mk hy104
 clear hy104
 have H' := Aside0.mk H
 clear H
 go_enter Tryd.func25, Tryd.ntmps25
 go_wp2_with (first | ((with_reducible refine gate_dst (N := 1) rfl ?_); refine box_event ?hg (N := 1) ?hd (cs := #[.int .i64 a0_0, .int .i64 a0_1, .int .i64 a0_2, .int .i64 a0_3, .int .i64 a0_4, .int .i64 a0_5, .int .i64 a0_6, .int .i64 a0_7, .int .i64 a0_8, .int .i64 a0_9, .int .i64 a0_10]) (t := 39) ?hr ?_; (case hd => rfl); (case hg => rfl); (case hr => first | (go_simp; done) | (go_simp; rfl)); intro gb103 hg w2 hbox hb; have n0_ := Aside0.mk (below_step (by repeat (first | (with_reducible first | exact HB.out | apply below_alloc | apply pw_below_drewN | apply below_drew1) | exact HB.out)) hb); have n1_ := Aside0.mk (hbox); have n2_ := Aside0.mk ((by rw [hg]; exact (below_size (by repeat (first | (with_reducible first | exact HB.out | apply below_alloc | apply pw_below_drewN | apply below_drew1) | exact HB.out))) : w.heap.size ≤ gb103)); have n3_ := Aside0.mk ((by rw [hg]; exact (below_size (by repeat (first | (with_reducible first | exact HB.out | apply below_alloc | apply pw_below_drewN | apply below_drew1) | exact HB.out))) : w.heap.size ≤ gb103)); clear HB; have HB := n0_; have BK103 := n1_; have GW103 := n2_; have GE103 := n3_; clear n0_ n1_ n2_ n3_; clear hb hbox hg; have hcz3_0 : w2.cell? ⟨gb103, 0, none⟩ = some (.int .i64 a0_0) := (blk_cell BK103.out 0).trans rfl; have hcz3_1 : w2.cell? ⟨gb103, 1, none⟩ = some (.int .i64 a0_1) := (blk_cell BK103.out 1).trans rfl; have hcz3_2 : w2.cell? ⟨gb103, 2, none⟩ = some (.int .i64 a0_2) := (blk_cell BK103.out 2).trans rfl; have hcz3_3 : w2.cell? ⟨gb103, 3, none⟩ = some (.int .i64 a0_3) := (blk_cell BK103.out 3).trans rfl; have hcz3_4 : w2.cell? ⟨gb103, 4, none⟩ = some (.int .i64 a0_4) := (blk_cell BK103.out 4).trans rfl; have hcz3_5 : w2.cell? ⟨gb103, 5, none⟩ = some (.int .i64 a0_5) := (blk_cell BK103.out 5).trans rfl; have hcz3_6 : w2.cell? ⟨gb103, 6, none⟩ = some (.int .i64 a0_6) := (blk_cell BK103.out 6).trans rfl; have hcz3_7 : w2.cell? ⟨gb103, 7, none⟩ = some (.int .i64 a0_7) := (blk_cell BK103.out 7).trans rfl; have hcz3_8 : w2.cell? ⟨gb103, 8, none⟩ = some (.int .i64 a0_8) := (blk_cell BK103.out 8).trans rfl; have hcz3_9 : w2.cell? ⟨gb103, 9, none⟩ = some (.int .i64 a0_9) := (blk_cell BK103.out 9).trans rfl; have hcz3_10 : w2.cell? ⟨gb103, 10, none⟩ = some (.int .i64 a0_10) := (blk_cell BK103.out 10).trans rfl; have hfz3_0 := blk_frozen BK103.out 0; have hfz3_1 := blk_frozen BK103.out 1; have hfz3_2 := blk_frozen BK103.out 2; have hfz3_3 := blk_frozen BK103.out 3; have hfz3_4 := blk_frozen BK103.out 4; have hfz3_5 := blk_frozen BK103.out 5; have hfz3_6 := blk_frozen BK103.out 6; have hfz3_7 := blk_frozen BK103.out 7; have hfz3_8 := blk_frozen BK103.out 8; have hfz3_9 := blk_frozen BK103.out 9; have hfz3_10 := blk_frozen BK103.out 10) | ((with_reducible refine gate_dst (N := 26) rfl ?_); refine Kd.R_lit (Kd.int .i64) _ 3 ?hg (N := 26) ?hd (xs := ([a0_0, a0_1, a0_2, a0_3, a0_4, a0_5, a0_6, a0_7, a0_8, a0_9] : List Int)) (inner := [.int .i64 a0_0, .int .i64 a0_1, .int .i64 a0_2, .int .i64 a0_3, .int .i64 a0_4, .int .i64 a0_5, .int .i64 a0_6, .int .i64 a0_7, .int .i64 a0_8, .int .i64 a0_9]) (ok := fun _ => True) (okp := fun _ => True) ?hr ?hp (fun _ hk => hk) trivial (Below.refl _ _) (Nat.le_refl _) (by simp) ?_; (case hd => rfl); (case hg => rfl); (case hr => first | (go_simp; done) | (go_simp; rfl)); (case hp => exact (Reps.one (show Kd.M (Kd.int .i64) _ _ _ a0_0 [.int .i64 a0_0] from rfl) (Reps.one (show Kd.M (Kd.int .i64) _ _ _ a0_1 [.int .i64 a0_1] from rfl) (Reps.one (show Kd.M (Kd.int .i64) _ _ _ a0_2 [.int .i64 a0_2] from rfl) (Reps.one (show Kd.M (Kd.int .i64) _ _ _ a0_3 [.int .i64 a0_3] from rfl) (Reps.one (show Kd.M (Kd.int .i64) _ _ _ a0_4 [.int .i64 a0_4] from rfl) (Reps.one (show Kd.M (Kd.int .i64) _ _ _ a0_5 [.int .i64 a0_5] from rfl) (Reps.one (show Kd.M (Kd.int .i64) _ _ _ a0_6 [.int .i64 a0_6] from rfl) (Reps.one (show Kd.M (Kd.int .i64) _ _ _ a0_7 [.int .i64 a0_7] from rfl) (Reps.one (show Kd.M (Kd.int .i64) _ _ _ a0_8 [.int .i64 a0_8] from rfl) (Reps.one (show Kd.M (Kd.int .i64) _ _ _ a0_9 [.int .i64 a0_9] from rfl) (Reps.none _ _)))))))))))); intro v105 w4 ho5 hb hg_ hnew_; clear hg_ hnew_; (first | rw [← Ny104.out] at ho5 | (simp only [Int.reduceToNat] at ho5; rw [← Ny104.out] at ho5)); have n0_ := Aside0.mk (Kd.R_lower ho5 (below_size (by repeat (first | (with_reducible first | exact HB.out | apply below_alloc | apply pw_below_drewN | apply below_drew1 | refine below_set ?_ GE103.out) | exact HB.out)))); have n1_ := Aside0.mk (blk_below (g := gb103) (o := .cells #[.int .i64 a0_0, .int .i64 a0_1, .int .i64 a0_2, .int .i64 a0_3, .int .i64 a0_4, .int .i64 a0_5, .int .i64 a0_6, .int .i64 a0_7, .int .i64 a0_8, .int .i64 a0_9, .int .i64 a0_10] 39 (0, 0)) (by (with_reducible repeat (first | refine blk_drewN ?_ _ | refine blk_drew ?_ | refine blk_alloc ?_ _)); exact BK103.out) hb); have n2_ := Aside0.mk (below_step (by repeat (first | (with_reducible first | exact HB.out | apply below_alloc | apply pw_below_drewN | apply below_drew1 | refine below_set ?_ GE103.out) | exact HB.out)) hb); clear BK103; clear HB; have HO106 := n0_; have BK103 := n1_; have HB := n2_; clear n0_ n1_ n2_; clear hb ho5; obtain ⟨Ao6, co6, eo6⟩ := Kd.R_slice HO106.out; subst eo6))
 go_loopg [3, 28] k (fun kq v3 v28 w' => ∃ (x3_1 : ByteArray) (x28_1 : Int), v3 = .string x3_1 ∧ v28 = .int .i64 x28_1 ∧ Aside0 (statement_Bytes.l0 kq x3_1 y104 (y104.length : Int) x28_1 = some r) ∧ Aside0 (kq ≤ k) ∧ Aside0 (Kd.R (Kd.int .i64) 3 w' w.heap.size (fun _ => True) (.slice Ao6 y104.length co6) y104) ∧ Aside0 (w'.heap[gb103]? = some (.cells #[.int .i64 a0_0, .int .i64 a0_1, .int .i64 a0_2, .int .i64 a0_3, .int .i64 a0_4, .int .i64 a0_5, .int .i64 a0_6, .int .i64 a0_7, .int .i64 a0_8, .int .i64 a0_9, .int .i64 a0_10] 39 (0, 0))) ∧ Aside0 (Below w.heap.size w w'))
 case atStart => exact ⟨((⟨#[]⟩ : ByteArray)), (0), (by first | rfl | (simp; done) | (simp [*]; done)), (by first | rfl | (simp; done) | (simp [*]; done)), H', ⟨Nat.le_refl _⟩, ⟨by (with_reducible repeat (first | apply Kd.R_alloc | apply Kd.R_drewN | apply Kd.R_drew)); exact HO106.out⟩, ⟨by (with_reducible repeat (first | refine blk_drewN ?_ _ | refine blk_drew ?_ | refine blk_alloc ?_ _)); exact BK103.out⟩, ⟨by repeat (first | (with_reducible first | exact HB.out | apply below_alloc | apply pw_below_drewN | apply below_drew1 | refine below_set ?_ GE103.out) | exact HB.out)⟩⟩
 case round =>
  clear H'
  try clear c2
  try clear p2
  try clear hcz3_0
  try clear hcz3_1
  try clear hcz3_10
  try clear hcz3_2
  try clear hcz3_3
  try clear hcz3_4
  try clear hcz3_5
  try clear hcz3_6
  try clear hcz3_7
  try clear hcz3_8
  try clear hcz3_9
  try clear hfz3_0
  try clear hfz3_1
  try clear hfz3_10
  try clear hfz3_2
  try clear hfz3_3
  try clear hfz3_4
  try clear hfz3_5
  try clear hfz3_6
  try clear hfz3_7
  try clear hfz3_8
  try clear hfz3_9
  obtain ⟨x3_1, x28_1, rfl, rfl, HA, HK1, HO_26, BK103, HB⟩ := hrel
  cases gk with
  | zero => exact absurd HA.out (by simp [statement_Bytes.l0])
  | succ k1 =>
   have H := HA.out
   clear HA
   simp only [statement_Bytes.l0] at H
   by_cases c7 : x28_1 < (y104.length : Int)
   ·rw [if_pos c7] at H
    have c7b0 : decide (x28_1 < (y104.length : Int)) = true := decide_eq_true c7
    clear c7
    by_cases c8 : 0 ≤ x28_1
    ·rw [if_pos c8] at H
     have c8b0 : decide (0 ≤ x28_1) = true := decide_eq_true c8
     clear c8
     by_cases c9 : x28_1 < (y104.length : Int)
     ·rw [if_pos c9] at H
      have c9b0 : decide (x28_1 < (y104.length : Int)) = true := decide_eq_true c9
      clear c9
      replace H := Option.bind_eq_some_iff.mp H
      obtain ⟨t108, A100, H⟩ := H
      replace H : (statement_Bytes.l0 k1 t108 y104 (y104.length : Int) (wrap64 (x28_1 + 1))) = some r := H
      have A10 := Aside0.mk A100
      clear A100
      have H' := Aside0.mk H
      clear H
      have p107 : 0 ≤ (x28_1 : Int) := of_decide_eq_true (by first | (with_reducible assumption) | assumption)
      have q107 : x28_1 < (y104.length : Int) := of_decide_eq_true (by first | (with_reducible assumption) | assumption)
      obtain ⟨ad107, e107, hx107_0⟩ := Kd.at_int (Kd.R_reads' HO_26.out).2.2 x28_1 p107 q107
      cases e107
      replace p107 := eq_true p107
      replace q107 := eq_true q107
      go_wp2_with (first | ((with_reducible refine gate_callee (f := 42) rfl ?_); refine goesL_ (some 34) rfl rfl Tryd.func42 (by kernel_rfl) rfl #[.string x3_1, .int .i64 (rd y104 x28_1)] rfl (by (try simp only [List.map_toArray, List.map_cons, List.map_nil]); first | done | rfl | (simp only [List.length_drop, List.length_take]; rfl)) ?_; (with_reducible refine (wire_PutInt.calls x3_1 (rd y104 x28_1) t108 _ A10.out).mono ?_); rintro e w11 ⟨rfl, hb⟩; refine ⟨_, rfl, ?_⟩; have n0_ := Aside0.mk (Kd.R_below (by (with_reducible repeat (first | apply Kd.R_alloc | apply Kd.R_drewN | apply Kd.R_drew)); exact HO_26.out) hb); have n1_ := Aside0.mk (blk_below (g := gb103) (o := .cells #[.int .i64 a0_0, .int .i64 a0_1, .int .i64 a0_2, .int .i64 a0_3, .int .i64 a0_4, .int .i64 a0_5, .int .i64 a0_6, .int .i64 a0_7, .int .i64 a0_8, .int .i64 a0_9, .int .i64 a0_10] 39 (0, 0)) (by (with_reducible repeat (first | refine blk_drewN ?_ _ | refine blk_drew ?_ | refine blk_alloc ?_ _)); exact BK103.out) hb); have n2_ := Aside0.mk (below_step (by repeat (first | (with_reducible first | exact HB.out | apply below_alloc | apply pw_below_drewN | apply below_drew1 | refine below_set ?_ GE103.out) | exact HB.out)) hb); clear HO_26; clear BK103; clear HB; have HO_26 := n0_; have BK103 := n1_; have HB := n2_; clear n0_ n1_ n2_; (try clear hb); (try clear hb2); (try clear hk); (try clear hi)))
      go_roundg k1
      case measure => have := HK1.out; omega
      case rel => exact ⟨(t108), (wrap64 (x28_1 + 1)), (by first | rfl | (simp; done) | (simp [*]; done)), (by first | rfl | (simp; done) | (simp [*]; done)), H', ⟨by have := HK1.out; omega⟩, ⟨by (with_reducible repeat (first | apply Kd.R_alloc | apply Kd.R_drewN | apply Kd.R_drew)); exact HO_26.out⟩, ⟨by (with_reducible repeat (first | refine blk_drewN ?_ _ | refine blk_drew ?_ | refine blk_alloc ?_ _)); exact BK103.out⟩, ⟨by repeat (first | (with_reducible first | exact HB.out | apply below_alloc | apply pw_below_drewN | apply below_drew1 | refine below_set ?_ GE103.out) | exact HB.out)⟩⟩
     ·rw [if_neg c9] at H
      exact absurd H (by simp)
    ·rw [if_neg c8] at H
     exact absurd H (by simp)
   ·rw [if_neg c7] at H
    have c7b0 : decide (x28_1 < (y104.length : Int)) = false := decide_eq_false c7
    clear c7
    obtain rfl := Option.some.inj H
    go_wp2
    go_ret
    exact ⟨by first | rfl | (simp [errW_none, errW_some] <;> rfl) | (simp [*, errW_none, errW_some] <;> rfl), by repeat (first | (with_reducible first | exact HB.out | apply below_alloc | apply pw_below_drewN | apply below_drew1 | refine below_set ?_ GE103.out) | exact HB.out)⟩
end Go.Proofs.YtcalkhlchjjalaaDoor.Q

namespace Go.Proofs.YtcalkhlchjjalaaDoor.Gsy
open Go Go.RowKit Go.Proofs.YtcalkhlchjjalaaDoor.Gm Go.Proofs.YtcalkhlchjjalaaDoor.Gdm Go.Proofs.YtcalkhlchjjalaaDoor.Gsg Go.Proofs.YtcalkhlchjjalaaDoor.Q Go.Proofs.YtcalkhlchjjalaaDoor.Gput Go.Proofs.YtcalkhlchjjalaaDoorW.PrintWords Go.Proofs.YtcalkhlchjjalaaDoorW.PrintLast Go.Proofs.YtcalkhlchjjalaaDoorW.PrintMore
set_option linter.unusedVariables false
def I64 (x : Int) : Prop := -9223372036854775808 ≤ x ∧ x ≤ 9223372036854775807
structure W64 (s : S39) : Prop where
 h0 : I64 s.f0
 h1 : I64 s.f1
 h2 : I64 s.f2
 h3 : I64 s.f3
 h4 : I64 s.f4
 h5 : I64 s.f5
 h6 : I64 s.f6
 h7 : I64 s.f7
 h8 : I64 s.f8
 h9 : I64 s.f9
 h10 : I64 s.f10
def bl (l : List Int) : List UInt8 := l.flatMap putI
def bts (s : S39) : List UInt8 := bl [s.f0, s.f1, s.f2, s.f3, s.f4, s.f5, s.f6, s.f7, s.f8, s.f9]
theorem bl_len {l : List Int} (h : ∀ x ∈ l, I64 x) : (bl l).length ≤ 10 * l.length := by
 induction l with
 | nil => simp [bl]
 | cons x l ih =>
  have h1 := ih (fun y hy => h y (List.mem_cons_of_mem _ hy))
  have h2 := putI_len (n := x) (h x List.mem_cons_self)
  unfold bl at h1 ⊢
  rw [List.flatMap_cons, List.length_append, List.length_cons]
  omega
theorem W64.all {s : S39} (h : W64 s) : ∀ x ∈ [s.f0, s.f1, s.f2, s.f3, s.f4, s.f5, s.f6, s.f7, s.f8, s.f9], I64 x := by
 intro x hx
 simp only [List.mem_cons, List.not_mem_nil, or_false] at hx
 rcases hx with rfl | rfl | rfl | rfl | rfl | rfl | rfl | rfl | rfl | rfl
 ·exact h.h0
 ·exact h.h1
 ·exact h.h2
 ·exact h.h3
 ·exact h.h4
 ·exact h.h5
 ·exact h.h6
 ·exact h.h7
 ·exact h.h8
 ·exact h.h9
theorem bts_len {s : S39} (h : W64 s) : (bts s).length ≤ 100 := bl_len h.all
theorem Bytes_l0 (l : List Int) (hl : l.length ≤ 10) (h : ∀ x ∈ l, I64 x) : ∀ (d i k : Nat), l.length - i = d → i ≤ l.length → d < k →
 statement_Bytes.l0 k (B (bl (l.take i))) l (l.length : Int) (i : Int) = some (B (bl l)) := by
 intro d
 induction d with
 | zero =>
  intro i k hd hi hk
  obtain ⟨k, rfl⟩ : ∃ m, k = m + 1 := ⟨k - 1, by omega⟩
  rw [statement_Bytes.l0, if_neg (by omega), List.take_of_length_le (by omega)]
 | succ d ih =>
  intro i k hd hi hk
  obtain ⟨k, rfl⟩ : ∃ m, k = m + 1 := ⟨k - 1, by omega⟩
  have hil : i < l.length := by omega
  have h1 := bl_len (l := l.take i) (fun x hx => h x (List.mem_of_mem_take hx))
  rw [List.length_take] at h1
  have e : rd l (i : Int) = l[i] := by simp [rd, List.getD, hil]
  have h0 := ih (i + 1) k (by omega) (by omega) (by omega)
  have e2 : bl (l.take (i + 1)) = bl (l.take i) ++ putI l[i] := by
   unfold bl
   rw [List.take_succ_eq_append_getElem hil, List.flatMap_append]
   simp
  rw [e2] at h0
  rw [statement_Bytes.l0, if_pos (by omega), if_pos (by omega), if_pos (by omega), e, wire_PutInt_eq _ _ (by omega) (h _ (List.getElem_mem hil)), Option.bind_some, w64 (x := (i : Int) + 1) (by omega), show ((i : Int) + 1) = ((i + 1 : Nat) : Int) by omega]
  exact h0
theorem Bytes_eq (s : S39) (h : W64 s) (k : Nat) (hk : 11 ≤ k) : statement_Bytes.f k s.f0 s.f1 s.f2 s.f3 s.f4 s.f5 s.f6 s.f7 s.f8 s.f9 s.f10 = some (B (bts s)) := by
 have := Bytes_l0 [s.f0, s.f1, s.f2, s.f3, s.f4, s.f5, s.f6, s.f7, s.f8, s.f9] (by simp) h.all 10 0 k (by simp) (by simp) (by omega)
 unfold statement_Bytes.f
 rw [Option.bind_some]
 exact this
theorem bytes_x (f0 f1 f2 f3 f4 f5 f6 f7 f8 f9 f10 : Int) (h : W64 ⟨f0, f1, f2, f3, f4, f5, f6, f7, f8, f9, f10⟩) (w : World) :
 Calls Tryd.prog 25 #[.agg #[.int .i64 f0, .int .i64 f1, .int .i64 f2, .int .i64 f3, .int .i64 f4, .int .i64 f5, .int .i64 f6, .int .i64 f7, .int .i64 f8, .int .i64 f9, .int .i64 f10]] w fun e w' => e = .returned (.string (B (bts ⟨f0, f1, f2, f3, f4, f5, f6, f7, f8, f9, f10⟩))) ∧ Below w.heap.size w w' :=
 statement_Bytes.calls 11 f0 f1 f2 f3 f4 f5 f6 f7 f8 f9 f10 _ w (Bytes_eq _ h 11 (Nat.le_refl _))
theorem sum_x (l : List UInt8) (hl : l.length ≤ 1000) (w : World) : Calls Tryd.prog 26 #[.string (B l)] w fun e w' => e = .returned (.int .i64 (dg 1 l)) ∧ Below w.heap.size w w' :=
 (digest_Sum.calls 1001 (B l) _ w (Sum_eq l 1001 (by omega) (by omega))).mono fun e w' h => ⟨h.1, by obtain ⟨nd, rfl⟩ := h.2; exact pw_below_drewN (Below.refl _ _) _⟩
def mk_ (p : Int) (l : List UInt8) : Int := dg 1 (putI p ++ l)
theorem sign_x (p : Int) (l : List UInt8) (hp : within p) (hl : l.length ≤ 1000) (w : World) : Calls Tryd.prog 29 #[.int .i64 p, .string (B l)] w fun e w' => e = .returned (.tuple #[.int .i64 (mk_ p l), .int .i64 0]) ∧ Below w.heap.size w w' :=
 mark_Sign.calls 1100 p (B l) _ _ w (Sign_eq p l 1100 hp (by omega) (by omega))
theorem mk_range (p : Int) (l : List UInt8) : 0 ≤ mk_ p l ∧ mk_ p l < 2147483647 := dg_range _ 1 (by omega)
end Go.Proofs.YtcalkhlchjjalaaDoor.Gsy

namespace Go.Proofs.YtcalkhlchjjalaaDoor.Gnx
open Go Go.RowKit Go.Proofs Go.Proofs.YtcalkhlchjjalaaDoor.Gm Go.Proofs.YtcalkhlchjjalaaDoor.Gdm Go.Proofs.YtcalkhlchjjalaaDoor.Gsg Go.Proofs.YtcalkhlchjjalaaDoor.Gsy Go.Proofs.YtcalkhlchjjalaaDoor.Q Go.Proofs.YtcalkhlchjjalaaDoor.Gput Go.Proofs.YtcalkhlchjjalaaDoorW.PrintWords Go.Proofs.YtcalkhlchjjalaaDoorW.PrintLast Go.Proofs.YtcalkhlchjjalaaDoorW.PrintMore
set_option linter.unusedVariables false
def vldS (s : S39) : Bool := vldB s.f0 s.f1 s.f2 s.f3 s.f4 s.f5 s.f6 s.f7 s.f8 s.f9 s.f10
def fin (p0 p1 dst n prev tick kind a b c d : Int) : S39 × Int :=
 if vldS ⟨p0, dst, n, prev, tick, kind, a, b, c, d, 0⟩ = true then (⟨p0, dst, n, prev, tick, kind, a, b, c, d, mk_ p1 (bts ⟨p0, dst, n, prev, tick, kind, a, b, c, d, 0⟩)⟩, 0) else (z39, 2)
def nxt (l : List S39) (p0 p1 dst tick kind a b c d : Int) : S39 × Int :=
 if hold 1 2147483646 p0 = false ∨ hold 1 2147483646 p1 = false then (z39, 1)
 else if 256 ≤ l.length then (z39, 4)
 else if ∃ s ∈ l, s.f0 ≠ p0 ∨ s.f1 ≠ dst then (z39, 16)
 else match l.getLast? with
  | none => fin p0 p1 dst ((l.length : Int) + 1) 0 tick kind a b c d
  | some s => if tick < s.f4 then (z39, 22) else fin p0 p1 dst ((l.length : Int) + 1) (dg 1 (bts s)) tick kind a b c d
theorem hold_within {p : Int} (h : hold 1 2147483646 p = true) : within p := by
 unfold hold at h
 rw [Bool.and_eq_true, decide_eq_true_eq, decide_eq_true_eq] at h
 exact ⟨h.1, by omega⟩
theorem rd_get (l : List S39) (t : Nat) (h : t < l.length) : rd_T39 l t = l[t] := by simp [rd_T39, List.getD, h]
structure NxW (w W : World) (p0 p1 : Int) : Prop where
 hb : Below w.heap.size w W
 b10 : W.heap[w.heap.size]? = some (.cells #[.int .i64 p0, .int .i64 p1] 25 (0, 0))
 b18 : W.heap[w.heap.size + 1]? = some (.cells #[.int .i64 0, .int .i64 0, .int .i64 0, .int .i64 0, .int .i64 0, .int .i64 0, .int .i64 0, .int .i64 0, .int .i64 0, .int .i64 0, .int .i64 0] 39 (0, 0))
section
variable {w W W' : World} {p0 p1 : Int}
theorem NxW.below (h : NxW w W p0 p1) (hb : Below W.heap.size W W') : NxW w W' p0 p1 := ⟨below_step h.hb hb, blk_below h.b10 hb, blk_below h.b18 hb⟩
theorem NxW.alloc (h : NxW w W p0 p1) (o : Obj) : NxW w (W.alloc o) p0 p1 := h.below (below_alloc (Below.refl _ _) o)
theorem NxW.set (h : NxW w W p0 p1) {g : Nat} (h0 : w.heap.size + 1 < g) (i : Nat) (v : Value) : NxW w (W.setCell ⟨g, i, none⟩ v) p0 p1 :=
 ⟨below_set h.hb (Nat.le_of_lt (Nat.lt_of_succ_lt h0)), blk_far h.b10 (Nat.ne_of_lt (Nat.lt_of_succ_lt h0)) _, blk_far h.b18 (Nat.ne_of_lt h0) _⟩
theorem NxW.drewN (h : NxW w W p0 p1) (n : Nat) : NxW w (W.drewN n) p0 p1 := h.below (pw_below_drewN (Below.refl _ _) n)
end
theorem put11 {W : World} {g : Nat} {t : TypeId} (x0 x1 x2 x3 x4 x5 x6 x7 x8 x9 x10 v0 v1 v2 v3 v4 v5 v6 v7 v8 v9 v10 : Value) (h : W.heap[g]? = some (.cells #[x0, x1, x2, x3, x4, x5, x6, x7, x8, x9, x10] t (0, 0))) :
 (((((((((((W.setCell ⟨g, 0, none⟩ v0).setCell ⟨g, 1, none⟩ v1).setCell ⟨g, 2, none⟩ v2).setCell ⟨g, 3, none⟩ v3).setCell ⟨g, 4, none⟩ v4).setCell ⟨g, 5, none⟩ v5).setCell ⟨g, 6, none⟩ v6).setCell ⟨g, 7, none⟩ v7).setCell ⟨g, 8, none⟩ v8).setCell ⟨g, 9, none⟩ v9).setCell ⟨g, 10, none⟩ v10).heap[g]? = some (.cells #[v0, v1, v2, v3, v4, v5, v6, v7, v8, v9, v10] t (0, 0)) := by
 have h0_ : (W.setCell ⟨g, 0, none⟩ v0).heap[g]? = some (.cells #[v0, x1, x2, x3, x4, x5, x6, x7, x8, x9, x10] t (0, 0)) := blk_put h 0 v0 rfl
 have h1_ : ((W.setCell ⟨g, 0, none⟩ v0).setCell ⟨g, 1, none⟩ v1).heap[g]? = some (.cells #[v0, v1, x2, x3, x4, x5, x6, x7, x8, x9, x10] t (0, 0)) := blk_put h0_ 1 v1 rfl
 have h2_ : (((W.setCell ⟨g, 0, none⟩ v0).setCell ⟨g, 1, none⟩ v1).setCell ⟨g, 2, none⟩ v2).heap[g]? = some (.cells #[v0, v1, v2, x3, x4, x5, x6, x7, x8, x9, x10] t (0, 0)) := blk_put h1_ 2 v2 rfl
 have h3_ : ((((W.setCell ⟨g, 0, none⟩ v0).setCell ⟨g, 1, none⟩ v1).setCell ⟨g, 2, none⟩ v2).setCell ⟨g, 3, none⟩ v3).heap[g]? = some (.cells #[v0, v1, v2, v3, x4, x5, x6, x7, x8, x9, x10] t (0, 0)) := blk_put h2_ 3 v3 rfl
 have h4_ : (((((W.setCell ⟨g, 0, none⟩ v0).setCell ⟨g, 1, none⟩ v1).setCell ⟨g, 2, none⟩ v2).setCell ⟨g, 3, none⟩ v3).setCell ⟨g, 4, none⟩ v4).heap[g]? = some (.cells #[v0, v1, v2, v3, v4, x5, x6, x7, x8, x9, x10] t (0, 0)) := blk_put h3_ 4 v4 rfl
 have h5_ : ((((((W.setCell ⟨g, 0, none⟩ v0).setCell ⟨g, 1, none⟩ v1).setCell ⟨g, 2, none⟩ v2).setCell ⟨g, 3, none⟩ v3).setCell ⟨g, 4, none⟩ v4).setCell ⟨g, 5, none⟩ v5).heap[g]? = some (.cells #[v0, v1, v2, v3, v4, v5, x6, x7, x8, x9, x10] t (0, 0)) := blk_put h4_ 5 v5 rfl
 have h6_ : (((((((W.setCell ⟨g, 0, none⟩ v0).setCell ⟨g, 1, none⟩ v1).setCell ⟨g, 2, none⟩ v2).setCell ⟨g, 3, none⟩ v3).setCell ⟨g, 4, none⟩ v4).setCell ⟨g, 5, none⟩ v5).setCell ⟨g, 6, none⟩ v6).heap[g]? = some (.cells #[v0, v1, v2, v3, v4, v5, v6, x7, x8, x9, x10] t (0, 0)) := blk_put h5_ 6 v6 rfl
 have h7_ : ((((((((W.setCell ⟨g, 0, none⟩ v0).setCell ⟨g, 1, none⟩ v1).setCell ⟨g, 2, none⟩ v2).setCell ⟨g, 3, none⟩ v3).setCell ⟨g, 4, none⟩ v4).setCell ⟨g, 5, none⟩ v5).setCell ⟨g, 6, none⟩ v6).setCell ⟨g, 7, none⟩ v7).heap[g]? = some (.cells #[v0, v1, v2, v3, v4, v5, v6, v7, x8, x9, x10] t (0, 0)) := blk_put h6_ 7 v7 rfl
 have h8_ : (((((((((W.setCell ⟨g, 0, none⟩ v0).setCell ⟨g, 1, none⟩ v1).setCell ⟨g, 2, none⟩ v2).setCell ⟨g, 3, none⟩ v3).setCell ⟨g, 4, none⟩ v4).setCell ⟨g, 5, none⟩ v5).setCell ⟨g, 6, none⟩ v6).setCell ⟨g, 7, none⟩ v7).setCell ⟨g, 8, none⟩ v8).heap[g]? = some (.cells #[v0, v1, v2, v3, v4, v5, v6, v7, v8, x9, x10] t (0, 0)) := blk_put h7_ 8 v8 rfl
 have h9_ : ((((((((((W.setCell ⟨g, 0, none⟩ v0).setCell ⟨g, 1, none⟩ v1).setCell ⟨g, 2, none⟩ v2).setCell ⟨g, 3, none⟩ v3).setCell ⟨g, 4, none⟩ v4).setCell ⟨g, 5, none⟩ v5).setCell ⟨g, 6, none⟩ v6).setCell ⟨g, 7, none⟩ v7).setCell ⟨g, 8, none⟩ v8).setCell ⟨g, 9, none⟩ v9).heap[g]? = some (.cells #[v0, v1, v2, v3, v4, v5, v6, v7, v8, v9, x10] t (0, 0)) := blk_put h8_ 9 v9 rfl
 have h10_ : (((((((((((W.setCell ⟨g, 0, none⟩ v0).setCell ⟨g, 1, none⟩ v1).setCell ⟨g, 2, none⟩ v2).setCell ⟨g, 3, none⟩ v3).setCell ⟨g, 4, none⟩ v4).setCell ⟨g, 5, none⟩ v5).setCell ⟨g, 6, none⟩ v6).setCell ⟨g, 7, none⟩ v7).setCell ⟨g, 8, none⟩ v8).setCell ⟨g, 9, none⟩ v9).setCell ⟨g, 10, none⟩ v10).heap[g]? = some (.cells #[v0, v1, v2, v3, v4, v5, v6, v7, v8, v9, v10] t (0, 0)) := blk_put h9_ 10 v10 rfl
 exact h10_
set_option maxRecDepth 100000 in
set_option maxHeartbeats 8000000 in
theorem next_x (A0 : Option Addr) (c0 : Nat) (l0 : List S39) (p0 p1 dst tick kind a b c d : Int) (w : World) (hr0 : Kd.C k39 w A0 l0.length l0) (hc0 : l0.length ≤ c0) (hG : GL w)
 (hW : ∀ s ∈ l0, W64 s) (i0 : I64 p0) (i2 : I64 dst) (i3 : I64 tick) (i4 : I64 kind) (i5 : I64 a) (i6 : I64 b) (i7 : I64 c) (i8 : I64 d) (r : S39) (re : Int) (hr : nxt l0 p0 p1 dst tick kind a b c d = (r, re)) :
 Calls Tryd.prog 14 #[.slice A0 l0.length c0, .agg #[.int .i64 p0, .int .i64 p1], .int .i64 dst, .int .i64 tick, .int .i64 kind, .int .i64 a, .int .i64 b, .int .i64 c, .int .i64 d] w fun e w' =>
  e = .returned (.tuple #[.agg #[.int .i64 r.f0, .int .i64 r.f1, .int .i64 r.f2, .int .i64 r.f3, .int .i64 r.f4, .int .i64 r.f5, .int .i64 r.f6, .int .i64 r.f7, .int .i64 r.f8, .int .i64 r.f9, .int .i64 r.f10], .int .i64 re]) ∧ Below w.heap.size w w' := by
 have hu39 := Tryd.underlying39
 have hu25 := Tryd.underlying25
 have hu61 := Tryd.underlying61
 have HG := Aside0.mk hG
 obtain ⟨q0, q1, n0, n1, -⟩ := hG
 have hs2 : 2 < w.heap.size := World.block_lt_of_cell? w _ (HG.out.f 1 (by omega) (by omega)).h0
 have hs0 : 0 < w.heap.size := by omega
 have hs1 : 1 < w.heap.size := by omega
 have HR := Aside0.mk hr0
 have HW := Aside0.mk hW
 have HN := Lib.hid hr
 have HI := Aside0.mk (And.intro i0 (And.intro i2 (And.intro i3 (And.intro i4 (And.intro i5 (And.intro i6 (And.intro i7 i8)))))))
 clear hr0 hr hW i0 i2 i3 i4 i5 i6 i7 i8
 obtain ⟨b0, hb0⟩ : ∃ b, hold 1 2147483646 p0 = b := ⟨_, rfl⟩
 have H0 := Lib.hid hb0
 clear hb0
 cases b0 with
 | false =>
  obtain ⟨rfl, rfl⟩ : z39 = r ∧ 1 = re := by have h := HN.out; unfold nxt at h; rw [if_pos (.inl H0.out)] at h; exact Prod.mk.inj h
  go_enter Tryd.func14, Tryd.ntmps14
  go_wp2_with (first | (go_at_call 28; with_reducible refine (holds_x 1 2147483646 p0 false H0.out _).mono ?_; rintro e w' ⟨rfl, rfl⟩))
  have HB := Aside0.mk (Below.refl w.heap.size w)
  refine bodyPost_ret (results_ct rfl _ _ (w.heap.size + 1) 39 #[.int .i64 0, .int .i64 0, .int .i64 0, .int .i64 0, .int .i64 0, .int .i64 0, .int .i64 0, .int .i64 0, .int .i64 0, .int .i64 0, .int .i64 0] (0, 0) _ rfl (by refine blk_alloc ?_ _; exact two_new w _ _ _ _) Tryd.underlying39 rfl (by kernel_rfl)) rfl ?_
  exact ⟨rfl, by (repeat (with_reducible first | exact HB.out | exact Below.refl _ _ | apply below_alloc | apply pw_below_drewN | apply below_drew1 | refine below_set ?_ (Nat.le_succ _) | refine below_set ?_ HZ.out))⟩
 | true =>
  obtain ⟨b1, hb1⟩ : ∃ b, hold 1 2147483646 p1 = b := ⟨_, rfl⟩
  have H1 := Lib.hid hb1
  clear hb1
  cases b1 with
  | false =>
   obtain ⟨rfl, rfl⟩ : z39 = r ∧ 1 = re := by have h := HN.out; unfold nxt at h; rw [if_pos (.inr H1.out)] at h; exact Prod.mk.inj h
   go_enter Tryd.func14, Tryd.ntmps14
   go_wp2_with (first | (go_at_call 28; with_reducible refine (holds_x 1 2147483646 p0 true H0.out _).mono ?_; rintro e w' ⟨rfl, rfl⟩) | (go_at_call 28; with_reducible refine (holds_x 1 2147483646 p1 false H1.out _).mono ?_; rintro e w' ⟨rfl, rfl⟩))
   have HB := Aside0.mk (Below.refl w.heap.size w)
   refine bodyPost_ret (results_ct rfl _ _ (w.heap.size + 1) 39 #[.int .i64 0, .int .i64 0, .int .i64 0, .int .i64 0, .int .i64 0, .int .i64 0, .int .i64 0, .int .i64 0, .int .i64 0, .int .i64 0, .int .i64 0] (0, 0) _ rfl (by refine blk_alloc ?_ _; refine blk_alloc ?_ _; exact two_new w _ _ _ _) Tryd.underlying39 rfl (by kernel_rfl)) rfl ?_
   exact ⟨rfl, by (repeat (with_reducible first | exact HB.out | exact Below.refl _ _ | apply below_alloc | apply pw_below_drewN | apply below_drew1 | refine below_set ?_ (Nat.le_succ _) | refine below_set ?_ HZ.out))⟩
  | true =>
   have HP : Aside0 (within p0 ∧ within p1) := ⟨⟨hold_within H0.out, hold_within H1.out⟩⟩
   by_cases hl : 256 ≤ l0.length
   case pos =>
    obtain ⟨rfl, rfl⟩ : z39 = r ∧ 4 = re := by have h := HN.out; unfold nxt at h; rw [H0.out, H1.out, if_neg (by simp), if_pos hl] at h; exact Prod.mk.inj h
    have g1 : decide (256 ≤ l0.length) = true := decide_eq_true hl
    have g2 : decide (256 ≤ (l0.length : Int)) = true := decide_eq_true (by omega)
    clear hl
    go_enter Tryd.func14, Tryd.ntmps14
    go_wp2_with (first | (go_at_call 28; with_reducible refine (holds_x 1 2147483646 p0 true H0.out _).mono ?_; rintro e w' ⟨rfl, rfl⟩) | (go_at_call 28; with_reducible refine (holds_x 1 2147483646 p1 true H1.out _).mono ?_; rintro e w' ⟨rfl, rfl⟩))
    have HB := Aside0.mk (Below.refl w.heap.size w)
    refine bodyPost_ret (results_ct rfl _ _ (w.heap.size + 1) 39 #[.int .i64 0, .int .i64 0, .int .i64 0, .int .i64 0, .int .i64 0, .int .i64 0, .int .i64 0, .int .i64 0, .int .i64 0, .int .i64 0, .int .i64 0] (0, 0) _ rfl (by refine blk_alloc ?_ _; refine blk_alloc ?_ _; exact two_new w _ _ _ _) Tryd.underlying39 rfl (by kernel_rfl)) rfl ?_
    exact ⟨rfl, by (repeat (with_reducible first | exact HB.out | exact Below.refl _ _ | apply below_alloc | apply pw_below_drewN | apply below_drew1 | refine below_set ?_ (Nat.le_succ _) | refine below_set ?_ HZ.out))⟩
   case neg =>
   have g1 : decide (256 ≤ l0.length) = false := decide_eq_false hl
   have g2 : decide (256 ≤ (l0.length : Int)) = false := decide_eq_false (by omega)
   have hlen : l0.length < 256 := by omega
   clear hl
   go_enter Tryd.func14, Tryd.ntmps14
   go_wp2_with (first | (go_at_call 28; with_reducible refine (holds_x 1 2147483646 p0 true H0.out _).mono ?_; rintro e w' ⟨rfl, rfl⟩) | (go_at_call 28; with_reducible refine (holds_x 1 2147483646 p1 true H1.out _).mono ?_; rintro e w' ⟨rfl, rfl⟩))
   clear H0 H1 q0 q1 n0 n1 hs0 hs1 g1 g2
   go_loopw [45] (fun s45 wr => ∃ k : Nat, k ≤ l0.length ∧ s45 = .int .i64 k ∧ Aside0 (∀ j : Nat, j < k → (rd_T39 l0 j).f0 = p0 ∧ (rd_T39 l0 j).f1 = dst) ∧ Aside0 (NxW w wr p0 p1)) (fun s45 _ => l0.length - (intOf s45).toNat)
   case atStart => exact ⟨0, Nat.zero_le _, rfl, ⟨fun j hj => absurd hj (Nat.not_lt_zero _)⟩, ⟨⟨by repeat (first | exact Below.refl _ _ | (with_reducible apply below_alloc)), blk_alloc (blk_alloc (blk_alloc (heap_alloc_new w _) _) _) _, blk_alloc (blk_alloc (two_new w _ _ _ _) _) _⟩⟩⟩
   case round =>
    obtain ⟨k, hk, rfl, HJ, HX⟩ := hrel
    have hv0 : wr.cell? ⟨w.heap.size, 0, none⟩ = some (.int .i64 p0) := (blk_cell HX.out.b10 0).trans rfl
    have hv1 : wr.cell? ⟨w.heap.size, 1, none⟩ = some (.int .i64 p1) := (blk_cell HX.out.b10 1).trans rfl
    have hz0 : w.heap.size < wr.heap.size := blk_lt HX.out.b10
    have hz1 : w.heap.size + 1 < wr.heap.size := blk_lt HX.out.b18
    have hf0 := blk_frozen HX.out.b18 0
    have hq0 : wr.cell? ⟨w.heap.size + 1, 0, none⟩ = some (.int .i64 0) := (blk_cell HX.out.b18 0).trans rfl
    have hf1 := blk_frozen HX.out.b18 1
    have hq1 : wr.cell? ⟨w.heap.size + 1, 1, none⟩ = some (.int .i64 0) := (blk_cell HX.out.b18 1).trans rfl
    have hf2 := blk_frozen HX.out.b18 2
    have hq2 : wr.cell? ⟨w.heap.size + 1, 2, none⟩ = some (.int .i64 0) := (blk_cell HX.out.b18 2).trans rfl
    have hf3 := blk_frozen HX.out.b18 3
    have hq3 : wr.cell? ⟨w.heap.size + 1, 3, none⟩ = some (.int .i64 0) := (blk_cell HX.out.b18 3).trans rfl
    have hf4 := blk_frozen HX.out.b18 4
    have hq4 : wr.cell? ⟨w.heap.size + 1, 4, none⟩ = some (.int .i64 0) := (blk_cell HX.out.b18 4).trans rfl
    have hf5 := blk_frozen HX.out.b18 5
    have hq5 : wr.cell? ⟨w.heap.size + 1, 5, none⟩ = some (.int .i64 0) := (blk_cell HX.out.b18 5).trans rfl
    have hf6 := blk_frozen HX.out.b18 6
    have hq6 : wr.cell? ⟨w.heap.size + 1, 6, none⟩ = some (.int .i64 0) := (blk_cell HX.out.b18 6).trans rfl
    have hf7 := blk_frozen HX.out.b18 7
    have hq7 : wr.cell? ⟨w.heap.size + 1, 7, none⟩ = some (.int .i64 0) := (blk_cell HX.out.b18 7).trans rfl
    have hf8 := blk_frozen HX.out.b18 8
    have hq8 : wr.cell? ⟨w.heap.size + 1, 8, none⟩ = some (.int .i64 0) := (blk_cell HX.out.b18 8).trans rfl
    have hf9 := blk_frozen HX.out.b18 9
    have hq9 : wr.cell? ⟨w.heap.size + 1, 9, none⟩ = some (.int .i64 0) := (blk_cell HX.out.b18 9).trans rfl
    have hf10 := blk_frozen HX.out.b18 10
    have hq10 : wr.cell? ⟨w.heap.size + 1, 10, none⟩ = some (.int .i64 0) := (blk_cell HX.out.b18 10).trans rfl
    by_cases hlt : k < l0.length
    case pos =>
     obtain ⟨ad, ead, hx0, hx1, hx2, hx3, hx4, hx5, hx6, hx7, hx8, hx9, hx10⟩ := at_T39 HR.out k (by omega) (by omega)
     cases ead
     replace hx0 := (HX.out.hb.cell (World.block_lt_of_cell? w _ hx0)).trans hx0
     replace hx1 := (HX.out.hb.cell (World.block_lt_of_cell? w _ hx1)).trans hx1
     replace hx2 := (HX.out.hb.cell (World.block_lt_of_cell? w _ hx2)).trans hx2
     replace hx3 := (HX.out.hb.cell (World.block_lt_of_cell? w _ hx3)).trans hx3
     replace hx4 := (HX.out.hb.cell (World.block_lt_of_cell? w _ hx4)).trans hx4
     replace hx5 := (HX.out.hb.cell (World.block_lt_of_cell? w _ hx5)).trans hx5
     replace hx6 := (HX.out.hb.cell (World.block_lt_of_cell? w _ hx6)).trans hx6
     replace hx7 := (HX.out.hb.cell (World.block_lt_of_cell? w _ hx7)).trans hx7
     replace hx8 := (HX.out.hb.cell (World.block_lt_of_cell? w _ hx8)).trans hx8
     replace hx9 := (HX.out.hb.cell (World.block_lt_of_cell? w _ hx9)).trans hx9
     replace hx10 := (HX.out.hb.cell (World.block_lt_of_cell? w _ hx10)).trans hx10
     simp only [Int.toNat_natCast] at hx0 hx1 hx2 hx3 hx4 hx5 hx6 hx7 hx8 hx9 hx10
     obtain ⟨e, he⟩ : ∃ e, e = rd_T39 l0 k := ⟨_, rfl⟩
     rw [← he] at hx0 hx1 hx2 hx3 hx4 hx5 hx6 hx7 hx8 hx9 hx10
     have HE := Lib.hid he
     clear he
     obtain ⟨y0, y1, y2, y3, y4, y5, y6, y7, y8, y9, y10⟩ := e
     simp only at hx0 hx1 hx2 hx3 hx4 hx5 hx6 hx7 hx8 hx9 hx10
     by_cases e0 : y0 = p0
     case neg =>
      obtain ⟨rfl, rfl⟩ : z39 = r ∧ 16 = re := by
       have h := HN.out
       unfold nxt at h
       have hbad : ∃ s ∈ l0, s.f0 ≠ p0 ∨ s.f1 ≠ dst := ⟨l0[k], List.getElem_mem hlt, by rw [← rd_get l0 k hlt, ← HE.out]; exact .inl e0⟩
       rw [if_neg (by rintro (z | z); exact absurd HP.out.1 (fun y => by unfold hold at z; unfold within at y; simp at z; omega); exact absurd HP.out.2 (fun y => by unfold hold at z; unfold within at y; simp at z; omega)), if_neg (by omega), if_pos hbad] at h
       exact Prod.mk.inj h
      have g0 : (y0 != p0) = true := bne_iff_ne.2 e0
      have g0' : (y0 == p0) = false := beq_eq_false_iff_ne.2 e0
      clear e0
      go_wp2
      have HB := Aside0.mk HX.out.hb
      refine bodyPost_ret (results_ct rfl _ _ (w.heap.size + 1) 39 #[.int .i64 0, .int .i64 0, .int .i64 0, .int .i64 0, .int .i64 0, .int .i64 0, .int .i64 0, .int .i64 0, .int .i64 0, .int .i64 0, .int .i64 0] (0, 0) _ rfl (by (with_reducible refine blk_alloc ?_ _); (with_reducible exact put11 _ _ _ _ _ _ _ _ _ _ _ _ _ _ _ _ _ _ _ _ _ _ HX.out.b18)) Tryd.underlying39 rfl (by kernel_rfl)) rfl ?_
      exact ⟨rfl, by (repeat (with_reducible first | exact HB.out | exact Below.refl _ _ | apply below_alloc | apply pw_below_drewN | apply below_drew1 | refine below_set ?_ (Nat.le_succ _) | refine below_set ?_ HZ.out))⟩
     case pos =>
     by_cases e1 : y1 = dst
     case neg =>
      obtain ⟨rfl, rfl⟩ : z39 = r ∧ 16 = re := by
       have h := HN.out
       unfold nxt at h
       have hbad : ∃ s ∈ l0, s.f0 ≠ p0 ∨ s.f1 ≠ dst := ⟨l0[k], List.getElem_mem hlt, by rw [← rd_get l0 k hlt, ← HE.out]; exact .inr e1⟩
       rw [if_neg (by rintro (z | z); exact absurd HP.out.1 (fun y => by unfold hold at z; unfold within at y; simp at z; omega); exact absurd HP.out.2 (fun y => by unfold hold at z; unfold within at y; simp at z; omega)), if_neg (by omega), if_pos hbad] at h
       exact Prod.mk.inj h
      have g0 : (y0 != p0) = false := bne_eq_false_iff_eq.2 e0
      have g0' : (y0 == p0) = true := beq_iff_eq.2 e0
      have g1 : (y1 != dst) = true := bne_iff_ne.2 e1
      have g1' : (y1 == dst) = false := beq_eq_false_iff_ne.2 e1
      clear e0 e1
      go_wp2
      have HB := Aside0.mk HX.out.hb
      refine bodyPost_ret (results_ct rfl _ _ (w.heap.size + 1) 39 #[.int .i64 0, .int .i64 0, .int .i64 0, .int .i64 0, .int .i64 0, .int .i64 0, .int .i64 0, .int .i64 0, .int .i64 0, .int .i64 0, .int .i64 0] (0, 0) _ rfl (by (with_reducible refine blk_alloc ?_ _); (with_reducible exact put11 _ _ _ _ _ _ _ _ _ _ _ _ _ _ _ _ _ _ _ _ _ _ HX.out.b18)) Tryd.underlying39 rfl (by kernel_rfl)) rfl ?_
      exact ⟨rfl, by (repeat (with_reducible first | exact HB.out | exact Below.refl _ _ | apply below_alloc | apply pw_below_drewN | apply below_drew1 | refine below_set ?_ (Nat.le_succ _) | refine below_set ?_ HZ.out))⟩
     case pos =>
     have J1 : Aside0 (∀ j : Nat, j < k + 1 → (rd_T39 l0 j).f0 = p0 ∧ (rd_T39 l0 j).f1 = dst) := ⟨fun j hj => by
      by_cases z : j = k
      ·subst z; rw [← HE.out]; exact ⟨e0, e1⟩
      ·exact HJ.out j (by omega)⟩
     have g0 : (y0 != p0) = false := bne_eq_false_iff_eq.2 e0
     have g0' : (y0 == p0) = true := beq_iff_eq.2 e0
     have g1 : (y1 != dst) = false := bne_eq_false_iff_eq.2 e1
     have g1' : (y1 == dst) = true := beq_iff_eq.2 e1
     clear e0 e1
     go_wp2
     go_roundw
     case rel => exact ⟨k + 1, by omega, by go_num, J1, ⟨HX.out.alloc _⟩⟩
     case measure => simp only [intOf]; omega
    case neg =>
    obtain rfl : k = l0.length := by omega
    have HL0 : Aside0 (∀ s ∈ l0, s.f0 = p0 ∧ s.f1 = dst) := ⟨fun s hs => by obtain ⟨j, hj, rfl⟩ := List.getElem_of_mem hs; rw [← rd_get l0 j hj]; exact HJ.out j hj⟩
    have HN2 : Hid ((match l0.getLast? with | none => fin p0 p1 dst ((l0.length : Int) + 1) 0 tick kind a b c d | some s => if tick < s.f4 then (z39, 22) else fin p0 p1 dst ((l0.length : Int) + 1) (dg 1 (bts s)) tick kind a b c d) = (r, re)) := Lib.hid (by
     have h := HN.out
     unfold nxt at h
     rw [if_neg (by rintro (z | z); exact absurd HP.out.1 (fun y => by unfold hold at z; unfold within at y; simp at z; omega); exact absurd HP.out.2 (fun y => by unfold hold at z; unfold within at y; simp at z; omega)), if_neg (by omega), if_neg (by rintro ⟨s, hs, z | z⟩; exact z (HL0.out s hs).1; exact z (HL0.out s hs).2)] at h
     exact h)
    clear HN HJ HL0
    have HS := Aside0.mk (heap_alloc_new wr (.cells #[.int .i64 p0, .int .i64 dst, .int .i64 ((l0.length : Int) + 1), .int .i64 0, .int .i64 tick, .int .i64 kind, .int .i64 a, .int .i64 b, .int .i64 c, .int .i64 d, .int .i64 0] 39))
    by_cases hz : l0.length = 0
    case pos =>
     have HF : Hid (fin p0 p1 dst ((l0.length : Int) + 1) 0 tick kind a b c d = (r, re)) := Lib.hid (by have h := HN2.out; rw [List.length_eq_zero_iff.1 hz] at h ⊢; exact h)
     have gz : decide (0 < l0.length) = false := decide_eq_false (by omega)
     have gz' : decide (0 < (l0.length : Int)) = false := decide_eq_false (by omega)
     clear hz HN2
     replace HX := Aside0.mk (HX.out.alloc (.cells #[.int .i64 p0, .int .i64 dst, .int .i64 ((l0.length : Int) + 1), .int .i64 0, .int .i64 tick, .int .i64 kind, .int .i64 a, .int .i64 b, .int .i64 c, .int .i64 d, .int .i64 0] 39))
     have HWS : Aside0 (W64 ⟨p0, dst, (l0.length : Int) + 1, 0, tick, kind, a, b, c, d, 0⟩) := ⟨by obtain ⟨i0, i2, i3, i4, i5, i6, i7, i8⟩ := HI.out; exact ⟨i0, i2, by show I64 ((l0.length : Int) + 1); unfold I64; omega, by show I64 0; unfold I64; omega, i3, i4, i5, i6, i7, i8, by show I64 0; unfold I64; omega⟩⟩
     have HSL : Aside0 ((bts ⟨p0, dst, (l0.length : Int) + 1, 0, tick, kind, a, b, c, d, 0⟩).length ≤ 1000) := ⟨Nat.le_trans (bts_len HWS.out) (by omega)⟩
     by_cases hv : vldS ⟨p0, dst, (l0.length : Int) + 1, 0, tick, kind, a, b, c, d, 0⟩ = true
     case neg =>
      obtain ⟨rfl, rfl⟩ : z39 = r ∧ 2 = re := by have h := HF.out; unfold fin at h; rw [if_neg hv] at h; exact Prod.mk.inj h
      have HV : Hid (vldB p0 dst ((l0.length : Int) + 1) 0 tick kind a b c d 0 = false) := Lib.hid (by simpa [vldS] using hv)
      clear hv
      go_wp2_with (first | (go_at_call 24; with_reducible refine (valid_x p0 dst ((l0.length : Int) + 1) 0 tick kind a b c d 0 _ ?gl false HV.out).mono ?_; (case gl => exact HG.out.step (by have HB := Aside0.mk HX.out.hb; (repeat (with_reducible first | exact HB.out | exact Below.refl _ _ | apply below_alloc | apply pw_below_drewN | apply below_drew1 | refine below_set ?_ (Nat.le_succ _) | refine below_set ?_ HZ.out)))); rintro e w2 ⟨rfl, hb⟩; have n1_ := Aside0.mk (HX.out.below hb); have n2_ := Aside0.mk (blk_below HS.out hb); clear HX HS; have HX := n1_; have HS := n2_; clear n1_ n2_ hb; have hv1_ : w2.cell? ⟨w.heap.size, 1, none⟩ = some (.int .i64 p1) := (blk_cell HX.out.b10 1).trans rfl; have hq0_ : w2.cell? ⟨w.heap.size + 1, 0, none⟩ = some (.int .i64 0) := (blk_cell HX.out.b18 0).trans rfl; have hf0_ := blk_frozen HX.out.b18 0; have hq1_ : w2.cell? ⟨w.heap.size + 1, 1, none⟩ = some (.int .i64 0) := (blk_cell HX.out.b18 1).trans rfl; have hf1_ := blk_frozen HX.out.b18 1; have hq2_ : w2.cell? ⟨w.heap.size + 1, 2, none⟩ = some (.int .i64 0) := (blk_cell HX.out.b18 2).trans rfl; have hf2_ := blk_frozen HX.out.b18 2; have hq3_ : w2.cell? ⟨w.heap.size + 1, 3, none⟩ = some (.int .i64 0) := (blk_cell HX.out.b18 3).trans rfl; have hf3_ := blk_frozen HX.out.b18 3; have hq4_ : w2.cell? ⟨w.heap.size + 1, 4, none⟩ = some (.int .i64 0) := (blk_cell HX.out.b18 4).trans rfl; have hf4_ := blk_frozen HX.out.b18 4; have hq5_ : w2.cell? ⟨w.heap.size + 1, 5, none⟩ = some (.int .i64 0) := (blk_cell HX.out.b18 5).trans rfl; have hf5_ := blk_frozen HX.out.b18 5; have hq6_ : w2.cell? ⟨w.heap.size + 1, 6, none⟩ = some (.int .i64 0) := (blk_cell HX.out.b18 6).trans rfl; have hf6_ := blk_frozen HX.out.b18 6; have hq7_ : w2.cell? ⟨w.heap.size + 1, 7, none⟩ = some (.int .i64 0) := (blk_cell HX.out.b18 7).trans rfl; have hf7_ := blk_frozen HX.out.b18 7; have hq8_ : w2.cell? ⟨w.heap.size + 1, 8, none⟩ = some (.int .i64 0) := (blk_cell HX.out.b18 8).trans rfl; have hf8_ := blk_frozen HX.out.b18 8; have hq9_ : w2.cell? ⟨w.heap.size + 1, 9, none⟩ = some (.int .i64 0) := (blk_cell HX.out.b18 9).trans rfl; have hf9_ := blk_frozen HX.out.b18 9; have hq10_ : w2.cell? ⟨w.heap.size + 1, 10, none⟩ = some (.int .i64 0) := (blk_cell HX.out.b18 10).trans rfl; have hf10_ := blk_frozen HX.out.b18 10))
      have HB := Aside0.mk HX.out.hb
      refine bodyPost_ret (results_ct rfl _ _ (w.heap.size + 1) 39 #[.int .i64 0, .int .i64 0, .int .i64 0, .int .i64 0, .int .i64 0, .int .i64 0, .int .i64 0, .int .i64 0, .int .i64 0, .int .i64 0, .int .i64 0] (0, 0) _ rfl (by (with_reducible exact put11 _ _ _ _ _ _ _ _ _ _ _ _ _ _ _ _ _ _ _ _ _ _ HX.out.b18)) Tryd.underlying39 rfl (by kernel_rfl)) rfl ?_
      exact ⟨rfl, by (repeat (with_reducible first | exact HB.out | exact Below.refl _ _ | apply below_alloc | apply pw_below_drewN | apply below_drew1 | refine below_set ?_ (Nat.le_succ _) | refine below_set ?_ HZ.out))⟩
     case pos =>
     obtain ⟨hr_, hre_⟩ : (⟨p0, dst, (l0.length : Int) + 1, 0, tick, kind, a, b, c, d, mk_ p1 (bts ⟨p0, dst, (l0.length : Int) + 1, 0, tick, kind, a, b, c, d, 0⟩)⟩ : S39) = r ∧ 0 = re := by have h := HF.out; unfold fin at h; rw [if_pos hv] at h; exact Prod.mk.inj h
     subst hr_
     subst hre_
     have HV : Hid (vldB p0 dst ((l0.length : Int) + 1) 0 tick kind a b c d 0 = true) := Lib.hid (by simpa [vldS] using hv)
     clear hv
     go_upto_region 19 with (first | (go_at_call 24; with_reducible refine (valid_x p0 dst ((l0.length : Int) + 1) 0 tick kind a b c d 0 _ ?gl true HV.out).mono ?_; (case gl => exact HG.out.step (by have HB := Aside0.mk HX.out.hb; (repeat (with_reducible first | exact HB.out | exact Below.refl _ _ | apply below_alloc | apply pw_below_drewN | apply below_drew1 | refine below_set ?_ (Nat.le_succ _) | refine below_set ?_ HZ.out)))); rintro e w2 ⟨rfl, hb⟩; have n1_ := Aside0.mk (HX.out.below hb); have n2_ := Aside0.mk (blk_below HS.out hb); clear HX HS; have HX := n1_; have HS := n2_; clear n1_ n2_ hb; have hv1_ : w2.cell? ⟨w.heap.size, 1, none⟩ = some (.int .i64 p1) := (blk_cell HX.out.b10 1).trans rfl; have hs0_ : w2.cell? ⟨wr.heap.size, 0, none⟩ = some _ := (blk_cell HS.out 0).trans rfl; have hs1_ : w2.cell? ⟨wr.heap.size, 1, none⟩ = some _ := (blk_cell HS.out 1).trans rfl; have hs2_ : w2.cell? ⟨wr.heap.size, 2, none⟩ = some _ := (blk_cell HS.out 2).trans rfl; have hs3_ : w2.cell? ⟨wr.heap.size, 3, none⟩ = some _ := (blk_cell HS.out 3).trans rfl; have hs4_ : w2.cell? ⟨wr.heap.size, 4, none⟩ = some _ := (blk_cell HS.out 4).trans rfl; have hs5_ : w2.cell? ⟨wr.heap.size, 5, none⟩ = some _ := (blk_cell HS.out 5).trans rfl; have hs6_ : w2.cell? ⟨wr.heap.size, 6, none⟩ = some _ := (blk_cell HS.out 6).trans rfl; have hs7_ : w2.cell? ⟨wr.heap.size, 7, none⟩ = some _ := (blk_cell HS.out 7).trans rfl; have hs8_ : w2.cell? ⟨wr.heap.size, 8, none⟩ = some _ := (blk_cell HS.out 8).trans rfl; have hs9_ : w2.cell? ⟨wr.heap.size, 9, none⟩ = some _ := (blk_cell HS.out 9).trans rfl; have hs10_ : w2.cell? ⟨wr.heap.size, 10, none⟩ = some _ := (blk_cell HS.out 10).trans rfl))
     go_cut [24, 25] (fun s24 s25 wx => s24 = .int .i64 (mk_ p1 (bts ⟨p0, dst, (l0.length : Int) + 1, 0, tick, kind, a, b, c, d, 0⟩)) ∧ s25 = .int .i64 0 ∧ Aside0 (NxW w wx p0 p1) ∧ Aside0 (wx.heap[wr.heap.size]? = some (.cells #[.int .i64 p0, .int .i64 dst, .int .i64 ((l0.length : Int) + 1), .int .i64 0, .int .i64 tick, .int .i64 kind, .int .i64 a, .int .i64 b, .int .i64 c, .int .i64 d, .int .i64 0] 39 (0, 0))))
     case first =>
      go_region_with (first | (go_at_call 25; with_reducible refine (bytes_x p0 dst ((l0.length : Int) + 1) 0 tick kind a b c d 0 HWS.out _).mono ?_; rintro e w3 ⟨rfl, hb⟩; have hb_ := below_step (show Below w2.heap.size w2 _ from by (repeat (with_reducible first | exact Below.refl _ _ | apply below_alloc | apply pw_below_drewN | apply below_drew1))) hb; clear hb; have hb := hb_; clear hb_; have n1_ := Aside0.mk (HX.out.below hb); have n2_ := Aside0.mk (blk_below HS.out hb); clear HX HS; have HX := n1_; have HS := n2_; clear n1_ n2_ hb; have hv1_ : w3.cell? ⟨w.heap.size, 1, none⟩ = some (.int .i64 p1) := (blk_cell HX.out.b10 1).trans rfl; have hs0_ : w3.cell? ⟨wr.heap.size, 0, none⟩ = some _ := (blk_cell HS.out 0).trans rfl; have hs1_ : w3.cell? ⟨wr.heap.size, 1, none⟩ = some _ := (blk_cell HS.out 1).trans rfl; have hs2_ : w3.cell? ⟨wr.heap.size, 2, none⟩ = some _ := (blk_cell HS.out 2).trans rfl; have hs3_ : w3.cell? ⟨wr.heap.size, 3, none⟩ = some _ := (blk_cell HS.out 3).trans rfl; have hs4_ : w3.cell? ⟨wr.heap.size, 4, none⟩ = some _ := (blk_cell HS.out 4).trans rfl; have hs5_ : w3.cell? ⟨wr.heap.size, 5, none⟩ = some _ := (blk_cell HS.out 5).trans rfl; have hs6_ : w3.cell? ⟨wr.heap.size, 6, none⟩ = some _ := (blk_cell HS.out 6).trans rfl; have hs7_ : w3.cell? ⟨wr.heap.size, 7, none⟩ = some _ := (blk_cell HS.out 7).trans rfl; have hs8_ : w3.cell? ⟨wr.heap.size, 8, none⟩ = some _ := (blk_cell HS.out 8).trans rfl; have hs9_ : w3.cell? ⟨wr.heap.size, 9, none⟩ = some _ := (blk_cell HS.out 9).trans rfl; have hs10_ : w3.cell? ⟨wr.heap.size, 10, none⟩ = some _ := (blk_cell HS.out 10).trans rfl) | (go_at_call 29; with_reducible refine (sign_x p1 _ HP.out.2 HSL.out _).mono ?_; rintro e w4 ⟨rfl, hb⟩; have hb_ := below_step (show Below w3.heap.size w3 _ from by (repeat (with_reducible first | exact Below.refl _ _ | apply below_alloc | apply pw_below_drewN | apply below_drew1))) hb; clear hb; have hb := hb_; clear hb_; have n1_ := Aside0.mk (HX.out.below hb); have n2_ := Aside0.mk (blk_below HS.out hb); clear HX HS; have HX := n1_; have HS := n2_; clear n1_ n2_ hb; have hv1_ : w4.cell? ⟨w.heap.size, 1, none⟩ = some (.int .i64 p1) := (blk_cell HX.out.b10 1).trans rfl; have hs0_ : w4.cell? ⟨wr.heap.size, 0, none⟩ = some _ := (blk_cell HS.out 0).trans rfl; have hs1_ : w4.cell? ⟨wr.heap.size, 1, none⟩ = some _ := (blk_cell HS.out 1).trans rfl; have hs2_ : w4.cell? ⟨wr.heap.size, 2, none⟩ = some _ := (blk_cell HS.out 2).trans rfl; have hs3_ : w4.cell? ⟨wr.heap.size, 3, none⟩ = some _ := (blk_cell HS.out 3).trans rfl; have hs4_ : w4.cell? ⟨wr.heap.size, 4, none⟩ = some _ := (blk_cell HS.out 4).trans rfl; have hs5_ : w4.cell? ⟨wr.heap.size, 5, none⟩ = some _ := (blk_cell HS.out 5).trans rfl; have hs6_ : w4.cell? ⟨wr.heap.size, 6, none⟩ = some _ := (blk_cell HS.out 6).trans rfl; have hs7_ : w4.cell? ⟨wr.heap.size, 7, none⟩ = some _ := (blk_cell HS.out 7).trans rfl; have hs8_ : w4.cell? ⟨wr.heap.size, 8, none⟩ = some _ := (blk_cell HS.out 8).trans rfl; have hs9_ : w4.cell? ⟨wr.heap.size, 9, none⟩ = some _ := (blk_cell HS.out 9).trans rfl; have hs10_ : w4.cell? ⟨wr.heap.size, 10, none⟩ = some _ := (blk_cell HS.out 10).trans rfl))
      all_goals (go_wp2_with fail; go_meet; exact ⟨rfl, rfl, HX, HS⟩)
     case rest =>
      obtain ⟨rfl, rfl, HX, HS⟩ := hcut
      have hq0_ : wc.cell? ⟨w.heap.size + 1, 0, none⟩ = some (.int .i64 0) := (blk_cell HX.out.b18 0).trans rfl
      have hf0_ := blk_frozen HX.out.b18 0
      have hq1_ : wc.cell? ⟨w.heap.size + 1, 1, none⟩ = some (.int .i64 0) := (blk_cell HX.out.b18 1).trans rfl
      have hf1_ := blk_frozen HX.out.b18 1
      have hq2_ : wc.cell? ⟨w.heap.size + 1, 2, none⟩ = some (.int .i64 0) := (blk_cell HX.out.b18 2).trans rfl
      have hf2_ := blk_frozen HX.out.b18 2
      have hq3_ : wc.cell? ⟨w.heap.size + 1, 3, none⟩ = some (.int .i64 0) := (blk_cell HX.out.b18 3).trans rfl
      have hf3_ := blk_frozen HX.out.b18 3
      have hq4_ : wc.cell? ⟨w.heap.size + 1, 4, none⟩ = some (.int .i64 0) := (blk_cell HX.out.b18 4).trans rfl
      have hf4_ := blk_frozen HX.out.b18 4
      have hq5_ : wc.cell? ⟨w.heap.size + 1, 5, none⟩ = some (.int .i64 0) := (blk_cell HX.out.b18 5).trans rfl
      have hf5_ := blk_frozen HX.out.b18 5
      have hq6_ : wc.cell? ⟨w.heap.size + 1, 6, none⟩ = some (.int .i64 0) := (blk_cell HX.out.b18 6).trans rfl
      have hf6_ := blk_frozen HX.out.b18 6
      have hq7_ : wc.cell? ⟨w.heap.size + 1, 7, none⟩ = some (.int .i64 0) := (blk_cell HX.out.b18 7).trans rfl
      have hf7_ := blk_frozen HX.out.b18 7
      have hq8_ : wc.cell? ⟨w.heap.size + 1, 8, none⟩ = some (.int .i64 0) := (blk_cell HX.out.b18 8).trans rfl
      have hf8_ := blk_frozen HX.out.b18 8
      have hq9_ : wc.cell? ⟨w.heap.size + 1, 9, none⟩ = some (.int .i64 0) := (blk_cell HX.out.b18 9).trans rfl
      have hf9_ := blk_frozen HX.out.b18 9
      have hq10_ : wc.cell? ⟨w.heap.size + 1, 10, none⟩ = some (.int .i64 0) := (blk_cell HX.out.b18 10).trans rfl
      have hf10_ := blk_frozen HX.out.b18 10
      have hs0_ : wc.cell? ⟨wr.heap.size, 0, none⟩ = some _ := (blk_cell HS.out 0).trans rfl
      have hs1_ : wc.cell? ⟨wr.heap.size, 1, none⟩ = some _ := (blk_cell HS.out 1).trans rfl
      have hs2_ : wc.cell? ⟨wr.heap.size, 2, none⟩ = some _ := (blk_cell HS.out 2).trans rfl
      have hs3_ : wc.cell? ⟨wr.heap.size, 3, none⟩ = some _ := (blk_cell HS.out 3).trans rfl
      have hs4_ : wc.cell? ⟨wr.heap.size, 4, none⟩ = some _ := (blk_cell HS.out 4).trans rfl
      have hs5_ : wc.cell? ⟨wr.heap.size, 5, none⟩ = some _ := (blk_cell HS.out 5).trans rfl
      have hs6_ : wc.cell? ⟨wr.heap.size, 6, none⟩ = some _ := (blk_cell HS.out 6).trans rfl
      have hs7_ : wc.cell? ⟨wr.heap.size, 7, none⟩ = some _ := (blk_cell HS.out 7).trans rfl
      have hs8_ : wc.cell? ⟨wr.heap.size, 8, none⟩ = some _ := (blk_cell HS.out 8).trans rfl
      have hs9_ : wc.cell? ⟨wr.heap.size, 9, none⟩ = some _ := (blk_cell HS.out 9).trans rfl
      have hs10_ : wc.cell? ⟨wr.heap.size, 10, none⟩ = some _ := (blk_cell HS.out 10).trans rfl
      have hg0_ := blk_frozen HS.out 0
      have hg1_ := blk_frozen HS.out 1
      have hg2_ := blk_frozen HS.out 2
      have hg3_ := blk_frozen HS.out 3
      have hg4_ := blk_frozen HS.out 4
      have hg5_ := blk_frozen HS.out 5
      have hg6_ := blk_frozen HS.out 6
      have hg7_ := blk_frozen HS.out 7
      have hg8_ := blk_frozen HS.out 8
      have hg9_ := blk_frozen HS.out 9
      have hg10_ := blk_frozen HS.out 10
      have hzz := blk_lt HS.out
      have hzy := blk_lt HX.out.b18
      have HZ := Aside0.mk (Nat.le_of_lt hz0)
      go_wp2
      have HB := Aside0.mk HX.out.hb
      refine bodyPost_ret (results_ct rfl _ _ (w.heap.size + 1) 39 #[.int .i64 p0, .int .i64 dst, .int .i64 ((l0.length : Int) + 1), .int .i64 0, .int .i64 tick, .int .i64 kind, .int .i64 a, .int .i64 b, .int .i64 c, .int .i64 d, .int .i64 (mk_ p1 (bts ⟨p0, dst, (l0.length : Int) + 1, 0, tick, kind, a, b, c, d, 0⟩))] (0, 0) _ rfl (by (with_reducible exact put11 _ _ _ _ _ _ _ _ _ _ _ _ _ _ _ _ _ _ _ _ _ _ (blk_far HX.out.b18 (Nat.ne_of_lt hz1) _))) Tryd.underlying39 rfl (by kernel_rfl)) rfl ?_
      exact ⟨rfl, by (repeat (with_reducible first | exact HB.out | exact Below.refl _ _ | apply below_alloc | apply pw_below_drewN | apply below_drew1 | refine below_set ?_ (Nat.le_succ _) | refine below_set ?_ HZ.out))⟩
    case neg =>
    have gz : decide (0 < l0.length) = true := decide_eq_true (by omega)
    have gz' : decide (0 < (l0.length : Int)) = true := decide_eq_true (by omega)
    obtain ⟨m, hm⟩ : ∃ m : Nat, l0.length = m + 1 := ⟨l0.length - 1, by omega⟩
    have hm1 : ((l0.length : Int) - 1) = (m : Int) := by omega
    have hml : m < l0.length := by omega
    obtain ⟨ad, ead, hx0, hx1, hx2, hx3, hx4, hx5, hx6, hx7, hx8, hx9, hx10⟩ := at_T39 HR.out m (by omega) (by omega)
    cases ead
    replace hx0 := (HX.out.hb.cell (World.block_lt_of_cell? w _ hx0)).trans hx0
    replace hx1 := (HX.out.hb.cell (World.block_lt_of_cell? w _ hx1)).trans hx1
    replace hx2 := (HX.out.hb.cell (World.block_lt_of_cell? w _ hx2)).trans hx2
    replace hx3 := (HX.out.hb.cell (World.block_lt_of_cell? w _ hx3)).trans hx3
    replace hx4 := (HX.out.hb.cell (World.block_lt_of_cell? w _ hx4)).trans hx4
    replace hx5 := (HX.out.hb.cell (World.block_lt_of_cell? w _ hx5)).trans hx5
    replace hx6 := (HX.out.hb.cell (World.block_lt_of_cell? w _ hx6)).trans hx6
    replace hx7 := (HX.out.hb.cell (World.block_lt_of_cell? w _ hx7)).trans hx7
    replace hx8 := (HX.out.hb.cell (World.block_lt_of_cell? w _ hx8)).trans hx8
    replace hx9 := (HX.out.hb.cell (World.block_lt_of_cell? w _ hx9)).trans hx9
    replace hx10 := (HX.out.hb.cell (World.block_lt_of_cell? w _ hx10)).trans hx10
    simp only [Int.toNat_natCast] at hx0 hx1 hx2 hx3 hx4 hx5 hx6 hx7 hx8 hx9 hx10
    obtain ⟨e, he⟩ : ∃ e, e = rd_T39 l0 m := ⟨_, rfl⟩
    rw [← he] at hx0 hx1 hx2 hx3 hx4 hx5 hx6 hx7 hx8 hx9 hx10
    have heW : W64 e := by rw [he, rd_get l0 m hml]; exact HW.out _ (List.getElem_mem hml)
    have HN3 : Hid ((if tick < e.f4 then (z39, 22) else fin p0 p1 dst ((l0.length : Int) + 1) (dg 1 (bts e)) tick kind a b c d) = (r, re)) := Lib.hid (by
     have h := HN2.out
     rw [List.getLast?_eq_getElem?, show l0.length - 1 = m by omega, List.getElem?_eq_getElem hml, ← rd_get l0 m hml, ← he] at h
     exact h)
    have hadl := World.block_lt_of_cell? wr _ hx0
    have HEW := Aside0.mk heW
    have HM1 := Lib.hid hm1
    clear he heW hm HN2 hz hm1
    obtain ⟨y0, y1, y2, y3, y4, y5, y6, y7, y8, y9, y10⟩ := e
    simp only at hx0 hx1 hx2 hx3 hx4 hx5 hx6 hx7 hx8 hx9 hx10
    have hm2 : IntKind.i64.wrap ((l0.length : Int) - 1) = (m : Int) := by rw [HM1.out]; exact IntWalk.i64_in _ (by omega)
    have hm3 : wrap64 ((l0.length : Int) - 1) = (m : Int) := by rw [HM1.out]; exact w64 (by omega)
    have hm4 : (l0.length : Int) - 1 = (m : Int) := HM1.out
    have HZ := Aside0.mk (Nat.le_of_lt hz0)
    by_cases ht : tick < y4
    case pos =>
     obtain ⟨rfl, rfl⟩ : z39 = r ∧ 22 = re := by have h := HN3.out; rw [if_pos ht] at h; exact Prod.mk.inj h
     have ht1 : decide (tick < y4) = true := decide_eq_true ht
     clear ht
     go_wp2
     have HB := Aside0.mk HX.out.hb
     refine bodyPost_ret (results_ct rfl _ _ (w.heap.size + 1) 39 #[.int .i64 0, .int .i64 0, .int .i64 0, .int .i64 0, .int .i64 0, .int .i64 0, .int .i64 0, .int .i64 0, .int .i64 0, .int .i64 0, .int .i64 0] (0, 0) _ rfl (by (repeat (with_reducible refine blk_alloc ?_ _)); (with_reducible exact put11 _ _ _ _ _ _ _ _ _ _ _ _ _ _ _ _ _ _ _ _ _ _ (by (repeat (with_reducible refine blk_alloc ?_ _)); exact HX.out.b18))) Tryd.underlying39 rfl (by kernel_rfl)) rfl ?_
     exact ⟨rfl, by (repeat (with_reducible first | exact HB.out | exact Below.refl _ _ | apply below_alloc | apply pw_below_drewN | apply below_drew1 | refine below_set ?_ (Nat.le_succ _) | refine below_set ?_ HZ.out))⟩
    case neg =>
    have HF0 : Hid (fin p0 p1 dst ((l0.length : Int) + 1) (dg 1 (bts ⟨y0, y1, y2, y3, y4, y5, y6, y7, y8, y9, y10⟩)) tick kind a b c d = (r, re)) := Lib.hid (by have h := HN3.out; rw [if_neg ht] at h; exact h)
    have ht1 : decide (tick < y4) = false := decide_eq_false ht
    clear ht HN3
    obtain ⟨dgl, hdg⟩ : ∃ z, dg 1 (bts ⟨y0, y1, y2, y3, y4, y5, y6, y7, y8, y9, y10⟩) = z := ⟨_, rfl⟩
    have hdr : 0 ≤ dgl ∧ dgl < 2147483647 := by rw [← hdg]; exact dg_range _ 1 (by omega)
    have HF : Hid (fin p0 p1 dst ((l0.length : Int) + 1) dgl tick kind a b c d = (r, re)) := Lib.hid (by rw [← hdg]; exact HF0.out)
    have HDG := Lib.hid hdg
    have HDR := Aside0.mk hdr
    clear hdg hdr HF0
    replace HX := Aside0.mk ((HX.out.alloc (.cells #[.int .i64 p0, .int .i64 dst, .int .i64 ((l0.length : Int) + 1), .int .i64 0, .int .i64 tick, .int .i64 kind, .int .i64 a, .int .i64 b, .int .i64 c, .int .i64 d, .int .i64 0] 39)).alloc (.cells #[.int .i64 y0, .int .i64 y1, .int .i64 y2, .int .i64 y3, .int .i64 y4, .int .i64 y5, .int .i64 y6, .int .i64 y7, .int .i64 y8, .int .i64 y9, .int .i64 y10] 39))
    replace HS := Aside0.mk (blk_alloc HS.out (.cells #[.int .i64 y0, .int .i64 y1, .int .i64 y2, .int .i64 y3, .int .i64 y4, .int .i64 y5, .int .i64 y6, .int .i64 y7, .int .i64 y8, .int .i64 y9, .int .i64 y10] 39))
    go_upto_if 77 with fail
    go_cut [] (fun wx => Aside0 (NxW w wx p0 p1) ∧ Aside0 (wx.heap[wr.heap.size]? = some (.cells #[.int .i64 p0, .int .i64 dst, .int .i64 ((l0.length : Int) + 1), .int .i64 dgl, .int .i64 tick, .int .i64 kind, .int .i64 a, .int .i64 b, .int .i64 c, .int .i64 d, .int .i64 0] 39 (0, 0))))
    case first =>
     go_wp2_with (first | (go_at_call 25; with_reducible refine (bytes_x y0 y1 y2 y3 y4 y5 y6 y7 y8 y9 y10 HEW.out _).mono ?_; rintro e w5 ⟨rfl, hb⟩; have n1_ := Aside0.mk (HX.out.below hb); have n2_ := Aside0.mk (blk_below HS.out hb); clear HX HS; have HX := n1_; have HS := n2_; clear n1_ n2_ hb) | (go_at_call 26; with_reducible refine (sum_x _ (Nat.le_trans (bts_len HEW.out) (by omega)) _).mono ?_; rintro e w6 ⟨rfl, hb⟩; have n1_ := Aside0.mk (HX.out.below hb); have n2_ := Aside0.mk (blk_below HS.out hb); clear HX HS; have HX := n1_; have HS := n2_; clear n1_ n2_ hb; have hs0_ : w6.cell? ⟨wr.heap.size, 0, none⟩ = some _ := (blk_cell HS.out 0).trans rfl; have hs1_ : w6.cell? ⟨wr.heap.size, 1, none⟩ = some _ := (blk_cell HS.out 1).trans rfl; have hs2_ : w6.cell? ⟨wr.heap.size, 2, none⟩ = some _ := (blk_cell HS.out 2).trans rfl; have hs3_ : w6.cell? ⟨wr.heap.size, 3, none⟩ = some _ := (blk_cell HS.out 3).trans rfl; have hs4_ : w6.cell? ⟨wr.heap.size, 4, none⟩ = some _ := (blk_cell HS.out 4).trans rfl; have hs5_ : w6.cell? ⟨wr.heap.size, 5, none⟩ = some _ := (blk_cell HS.out 5).trans rfl; have hs6_ : w6.cell? ⟨wr.heap.size, 6, none⟩ = some _ := (blk_cell HS.out 6).trans rfl; have hs7_ : w6.cell? ⟨wr.heap.size, 7, none⟩ = some _ := (blk_cell HS.out 7).trans rfl; have hs8_ : w6.cell? ⟨wr.heap.size, 8, none⟩ = some _ := (blk_cell HS.out 8).trans rfl; have hs9_ : w6.cell? ⟨wr.heap.size, 9, none⟩ = some _ := (blk_cell HS.out 9).trans rfl; have hs10_ : w6.cell? ⟨wr.heap.size, 10, none⟩ = some _ := (blk_cell HS.out 10).trans rfl; have hzz := blk_lt HS.out; have hg3_ := blk_frozen HS.out 3; rw [HDG.out]))
     go_meet
     exact ⟨⟨HX.out.set hz1 _ _⟩, ⟨blk_put HS.out 3 _ rfl⟩⟩
    case rest =>
     obtain ⟨HX, HS⟩ := hcut
     have hs00_ : wc.cell? ⟨wr.heap.size, 0, none⟩ = some _ := (blk_cell HS.out 0).trans rfl
     have hs10_ : wc.cell? ⟨wr.heap.size, 1, none⟩ = some _ := (blk_cell HS.out 1).trans rfl
     have hs20_ : wc.cell? ⟨wr.heap.size, 2, none⟩ = some _ := (blk_cell HS.out 2).trans rfl
     have hs30_ : wc.cell? ⟨wr.heap.size, 3, none⟩ = some _ := (blk_cell HS.out 3).trans rfl
     have hs40_ : wc.cell? ⟨wr.heap.size, 4, none⟩ = some _ := (blk_cell HS.out 4).trans rfl
     have hs50_ : wc.cell? ⟨wr.heap.size, 5, none⟩ = some _ := (blk_cell HS.out 5).trans rfl
     have hs60_ : wc.cell? ⟨wr.heap.size, 6, none⟩ = some _ := (blk_cell HS.out 6).trans rfl
     have hs70_ : wc.cell? ⟨wr.heap.size, 7, none⟩ = some _ := (blk_cell HS.out 7).trans rfl
     have hs80_ : wc.cell? ⟨wr.heap.size, 8, none⟩ = some _ := (blk_cell HS.out 8).trans rfl
     have hs90_ : wc.cell? ⟨wr.heap.size, 9, none⟩ = some _ := (blk_cell HS.out 9).trans rfl
     have hs100_ : wc.cell? ⟨wr.heap.size, 10, none⟩ = some _ := (blk_cell HS.out 10).trans rfl
     have HWS : Aside0 (W64 ⟨p0, dst, (l0.length : Int) + 1, dgl, tick, kind, a, b, c, d, 0⟩) := ⟨by obtain ⟨i0, i2, i3, i4, i5, i6, i7, i8⟩ := HI.out; exact ⟨i0, i2, by show I64 ((l0.length : Int) + 1); unfold I64; omega, (by show I64 dgl; have := HDR.out; unfold I64; omega), i3, i4, i5, i6, i7, i8, by show I64 0; unfold I64; omega⟩⟩
     have HSL : Aside0 ((bts ⟨p0, dst, (l0.length : Int) + 1, dgl, tick, kind, a, b, c, d, 0⟩).length ≤ 1000) := ⟨Nat.le_trans (bts_len HWS.out) (by omega)⟩
     by_cases hv : vldS ⟨p0, dst, (l0.length : Int) + 1, dgl, tick, kind, a, b, c, d, 0⟩ = true
     case neg =>
      obtain ⟨rfl, rfl⟩ : z39 = r ∧ 2 = re := by have h := HF.out; unfold fin at h; rw [if_neg hv] at h; exact Prod.mk.inj h
      have HV : Hid (vldB p0 dst ((l0.length : Int) + 1) dgl tick kind a b c d 0 = false) := Lib.hid (by simpa [vldS] using hv)
      clear hv
      go_wp2_with (first | (go_at_call 24; with_reducible refine (valid_x p0 dst ((l0.length : Int) + 1) dgl tick kind a b c d 0 _ ?gl false HV.out).mono ?_; (case gl => exact HG.out.step (by have HB := Aside0.mk HX.out.hb; (repeat (with_reducible first | exact HB.out | exact Below.refl _ _ | apply below_alloc | apply pw_below_drewN | apply below_drew1 | refine below_set ?_ (Nat.le_succ _) | refine below_set ?_ HZ.out)))); rintro e w2 ⟨rfl, hb⟩; have n1_ := Aside0.mk (HX.out.below hb); have n2_ := Aside0.mk (blk_below HS.out hb); clear HX HS; have HX := n1_; have HS := n2_; clear n1_ n2_ hb; have hv1_ : w2.cell? ⟨w.heap.size, 1, none⟩ = some (.int .i64 p1) := (blk_cell HX.out.b10 1).trans rfl; have hq0_ : w2.cell? ⟨w.heap.size + 1, 0, none⟩ = some (.int .i64 0) := (blk_cell HX.out.b18 0).trans rfl; have hf0_ := blk_frozen HX.out.b18 0; have hq1_ : w2.cell? ⟨w.heap.size + 1, 1, none⟩ = some (.int .i64 0) := (blk_cell HX.out.b18 1).trans rfl; have hf1_ := blk_frozen HX.out.b18 1; have hq2_ : w2.cell? ⟨w.heap.size + 1, 2, none⟩ = some (.int .i64 0) := (blk_cell HX.out.b18 2).trans rfl; have hf2_ := blk_frozen HX.out.b18 2; have hq3_ : w2.cell? ⟨w.heap.size + 1, 3, none⟩ = some (.int .i64 0) := (blk_cell HX.out.b18 3).trans rfl; have hf3_ := blk_frozen HX.out.b18 3; have hq4_ : w2.cell? ⟨w.heap.size + 1, 4, none⟩ = some (.int .i64 0) := (blk_cell HX.out.b18 4).trans rfl; have hf4_ := blk_frozen HX.out.b18 4; have hq5_ : w2.cell? ⟨w.heap.size + 1, 5, none⟩ = some (.int .i64 0) := (blk_cell HX.out.b18 5).trans rfl; have hf5_ := blk_frozen HX.out.b18 5; have hq6_ : w2.cell? ⟨w.heap.size + 1, 6, none⟩ = some (.int .i64 0) := (blk_cell HX.out.b18 6).trans rfl; have hf6_ := blk_frozen HX.out.b18 6; have hq7_ : w2.cell? ⟨w.heap.size + 1, 7, none⟩ = some (.int .i64 0) := (blk_cell HX.out.b18 7).trans rfl; have hf7_ := blk_frozen HX.out.b18 7; have hq8_ : w2.cell? ⟨w.heap.size + 1, 8, none⟩ = some (.int .i64 0) := (blk_cell HX.out.b18 8).trans rfl; have hf8_ := blk_frozen HX.out.b18 8; have hq9_ : w2.cell? ⟨w.heap.size + 1, 9, none⟩ = some (.int .i64 0) := (blk_cell HX.out.b18 9).trans rfl; have hf9_ := blk_frozen HX.out.b18 9; have hq10_ : w2.cell? ⟨w.heap.size + 1, 10, none⟩ = some (.int .i64 0) := (blk_cell HX.out.b18 10).trans rfl; have hf10_ := blk_frozen HX.out.b18 10))
      have HB := Aside0.mk HX.out.hb
      refine bodyPost_ret (results_ct rfl _ _ (w.heap.size + 1) 39 #[.int .i64 0, .int .i64 0, .int .i64 0, .int .i64 0, .int .i64 0, .int .i64 0, .int .i64 0, .int .i64 0, .int .i64 0, .int .i64 0, .int .i64 0] (0, 0) _ rfl (by (with_reducible exact put11 _ _ _ _ _ _ _ _ _ _ _ _ _ _ _ _ _ _ _ _ _ _ HX.out.b18)) Tryd.underlying39 rfl (by kernel_rfl)) rfl ?_
      exact ⟨rfl, by (repeat (with_reducible first | exact HB.out | exact Below.refl _ _ | apply below_alloc | apply pw_below_drewN | apply below_drew1 | refine below_set ?_ (Nat.le_succ _) | refine below_set ?_ HZ.out))⟩
     case pos =>
     obtain ⟨hr_, hre_⟩ : (⟨p0, dst, (l0.length : Int) + 1, dgl, tick, kind, a, b, c, d, mk_ p1 (bts ⟨p0, dst, (l0.length : Int) + 1, dgl, tick, kind, a, b, c, d, 0⟩)⟩ : S39) = r ∧ 0 = re := by have h := HF.out; unfold fin at h; rw [if_pos hv] at h; exact Prod.mk.inj h
     subst hr_
     subst hre_
     have HV : Hid (vldB p0 dst ((l0.length : Int) + 1) dgl tick kind a b c d 0 = true) := Lib.hid (by simpa [vldS] using hv)
     clear hv
     go_upto_region 19 with (first | (go_at_call 24; with_reducible refine (valid_x p0 dst ((l0.length : Int) + 1) dgl tick kind a b c d 0 _ ?gl true HV.out).mono ?_; (case gl => exact HG.out.step (by have HB := Aside0.mk HX.out.hb; (repeat (with_reducible first | exact HB.out | exact Below.refl _ _ | apply below_alloc | apply pw_below_drewN | apply below_drew1 | refine below_set ?_ (Nat.le_succ _) | refine below_set ?_ HZ.out)))); rintro e w2 ⟨rfl, hb⟩; have n1_ := Aside0.mk (HX.out.below hb); have n2_ := Aside0.mk (blk_below HS.out hb); clear HX HS; have HX := n1_; have HS := n2_; clear n1_ n2_ hb; have hv1_ : w2.cell? ⟨w.heap.size, 1, none⟩ = some (.int .i64 p1) := (blk_cell HX.out.b10 1).trans rfl; have hs0_ : w2.cell? ⟨wr.heap.size, 0, none⟩ = some _ := (blk_cell HS.out 0).trans rfl; have hs1_ : w2.cell? ⟨wr.heap.size, 1, none⟩ = some _ := (blk_cell HS.out 1).trans rfl; have hs2_ : w2.cell? ⟨wr.heap.size, 2, none⟩ = some _ := (blk_cell HS.out 2).trans rfl; have hs3_ : w2.cell? ⟨wr.heap.size, 3, none⟩ = some _ := (blk_cell HS.out 3).trans rfl; have hs4_ : w2.cell? ⟨wr.heap.size, 4, none⟩ = some _ := (blk_cell HS.out 4).trans rfl; have hs5_ : w2.cell? ⟨wr.heap.size, 5, none⟩ = some _ := (blk_cell HS.out 5).trans rfl; have hs6_ : w2.cell? ⟨wr.heap.size, 6, none⟩ = some _ := (blk_cell HS.out 6).trans rfl; have hs7_ : w2.cell? ⟨wr.heap.size, 7, none⟩ = some _ := (blk_cell HS.out 7).trans rfl; have hs8_ : w2.cell? ⟨wr.heap.size, 8, none⟩ = some _ := (blk_cell HS.out 8).trans rfl; have hs9_ : w2.cell? ⟨wr.heap.size, 9, none⟩ = some _ := (blk_cell HS.out 9).trans rfl; have hs10_ : w2.cell? ⟨wr.heap.size, 10, none⟩ = some _ := (blk_cell HS.out 10).trans rfl))
     go_cut [24, 25] (fun s24 s25 wx => s24 = .int .i64 (mk_ p1 (bts ⟨p0, dst, (l0.length : Int) + 1, dgl, tick, kind, a, b, c, d, 0⟩)) ∧ s25 = .int .i64 0 ∧ Aside0 (NxW w wx p0 p1) ∧ Aside0 (wx.heap[wr.heap.size]? = some (.cells #[.int .i64 p0, .int .i64 dst, .int .i64 ((l0.length : Int) + 1), .int .i64 dgl, .int .i64 tick, .int .i64 kind, .int .i64 a, .int .i64 b, .int .i64 c, .int .i64 d, .int .i64 0] 39 (0, 0))))
     case first =>
      go_region_with (first | (go_at_call 25; with_reducible refine (bytes_x p0 dst ((l0.length : Int) + 1) dgl tick kind a b c d 0 HWS.out _).mono ?_; rintro e w3 ⟨rfl, hb⟩; have hb_ := below_step (show Below w2.heap.size w2 _ from by (repeat (with_reducible first | exact Below.refl _ _ | apply below_alloc | apply pw_below_drewN | apply below_drew1))) hb; clear hb; have hb := hb_; clear hb_; have n1_ := Aside0.mk (HX.out.below hb); have n2_ := Aside0.mk (blk_below HS.out hb); clear HX HS; have HX := n1_; have HS := n2_; clear n1_ n2_ hb; have hv1_ : w3.cell? ⟨w.heap.size, 1, none⟩ = some (.int .i64 p1) := (blk_cell HX.out.b10 1).trans rfl; have hs0_ : w3.cell? ⟨wr.heap.size, 0, none⟩ = some _ := (blk_cell HS.out 0).trans rfl; have hs1_ : w3.cell? ⟨wr.heap.size, 1, none⟩ = some _ := (blk_cell HS.out 1).trans rfl; have hs2_ : w3.cell? ⟨wr.heap.size, 2, none⟩ = some _ := (blk_cell HS.out 2).trans rfl; have hs3_ : w3.cell? ⟨wr.heap.size, 3, none⟩ = some _ := (blk_cell HS.out 3).trans rfl; have hs4_ : w3.cell? ⟨wr.heap.size, 4, none⟩ = some _ := (blk_cell HS.out 4).trans rfl; have hs5_ : w3.cell? ⟨wr.heap.size, 5, none⟩ = some _ := (blk_cell HS.out 5).trans rfl; have hs6_ : w3.cell? ⟨wr.heap.size, 6, none⟩ = some _ := (blk_cell HS.out 6).trans rfl; have hs7_ : w3.cell? ⟨wr.heap.size, 7, none⟩ = some _ := (blk_cell HS.out 7).trans rfl; have hs8_ : w3.cell? ⟨wr.heap.size, 8, none⟩ = some _ := (blk_cell HS.out 8).trans rfl; have hs9_ : w3.cell? ⟨wr.heap.size, 9, none⟩ = some _ := (blk_cell HS.out 9).trans rfl; have hs10_ : w3.cell? ⟨wr.heap.size, 10, none⟩ = some _ := (blk_cell HS.out 10).trans rfl) | (go_at_call 29; with_reducible refine (sign_x p1 _ HP.out.2 HSL.out _).mono ?_; rintro e w4 ⟨rfl, hb⟩; have hb_ := below_step (show Below w3.heap.size w3 _ from by (repeat (with_reducible first | exact Below.refl _ _ | apply below_alloc | apply pw_below_drewN | apply below_drew1))) hb; clear hb; have hb := hb_; clear hb_; have n1_ := Aside0.mk (HX.out.below hb); have n2_ := Aside0.mk (blk_below HS.out hb); clear HX HS; have HX := n1_; have HS := n2_; clear n1_ n2_ hb; have hv1_ : w4.cell? ⟨w.heap.size, 1, none⟩ = some (.int .i64 p1) := (blk_cell HX.out.b10 1).trans rfl; have hs0_ : w4.cell? ⟨wr.heap.size, 0, none⟩ = some _ := (blk_cell HS.out 0).trans rfl; have hs1_ : w4.cell? ⟨wr.heap.size, 1, none⟩ = some _ := (blk_cell HS.out 1).trans rfl; have hs2_ : w4.cell? ⟨wr.heap.size, 2, none⟩ = some _ := (blk_cell HS.out 2).trans rfl; have hs3_ : w4.cell? ⟨wr.heap.size, 3, none⟩ = some _ := (blk_cell HS.out 3).trans rfl; have hs4_ : w4.cell? ⟨wr.heap.size, 4, none⟩ = some _ := (blk_cell HS.out 4).trans rfl; have hs5_ : w4.cell? ⟨wr.heap.size, 5, none⟩ = some _ := (blk_cell HS.out 5).trans rfl; have hs6_ : w4.cell? ⟨wr.heap.size, 6, none⟩ = some _ := (blk_cell HS.out 6).trans rfl; have hs7_ : w4.cell? ⟨wr.heap.size, 7, none⟩ = some _ := (blk_cell HS.out 7).trans rfl; have hs8_ : w4.cell? ⟨wr.heap.size, 8, none⟩ = some _ := (blk_cell HS.out 8).trans rfl; have hs9_ : w4.cell? ⟨wr.heap.size, 9, none⟩ = some _ := (blk_cell HS.out 9).trans rfl; have hs10_ : w4.cell? ⟨wr.heap.size, 10, none⟩ = some _ := (blk_cell HS.out 10).trans rfl))
      all_goals (go_wp2_with fail; go_meet; exact ⟨rfl, rfl, HX, HS⟩)
     case rest =>
      obtain ⟨rfl, rfl, HX, HS⟩ := hcut
      have hq0_ : wc.cell? ⟨w.heap.size + 1, 0, none⟩ = some (.int .i64 0) := (blk_cell HX.out.b18 0).trans rfl
      have hf0_ := blk_frozen HX.out.b18 0
      have hq1_ : wc.cell? ⟨w.heap.size + 1, 1, none⟩ = some (.int .i64 0) := (blk_cell HX.out.b18 1).trans rfl
      have hf1_ := blk_frozen HX.out.b18 1
      have hq2_ : wc.cell? ⟨w.heap.size + 1, 2, none⟩ = some (.int .i64 0) := (blk_cell HX.out.b18 2).trans rfl
      have hf2_ := blk_frozen HX.out.b18 2
      have hq3_ : wc.cell? ⟨w.heap.size + 1, 3, none⟩ = some (.int .i64 0) := (blk_cell HX.out.b18 3).trans rfl
      have hf3_ := blk_frozen HX.out.b18 3
      have hq4_ : wc.cell? ⟨w.heap.size + 1, 4, none⟩ = some (.int .i64 0) := (blk_cell HX.out.b18 4).trans rfl
      have hf4_ := blk_frozen HX.out.b18 4
      have hq5_ : wc.cell? ⟨w.heap.size + 1, 5, none⟩ = some (.int .i64 0) := (blk_cell HX.out.b18 5).trans rfl
      have hf5_ := blk_frozen HX.out.b18 5
      have hq6_ : wc.cell? ⟨w.heap.size + 1, 6, none⟩ = some (.int .i64 0) := (blk_cell HX.out.b18 6).trans rfl
      have hf6_ := blk_frozen HX.out.b18 6
      have hq7_ : wc.cell? ⟨w.heap.size + 1, 7, none⟩ = some (.int .i64 0) := (blk_cell HX.out.b18 7).trans rfl
      have hf7_ := blk_frozen HX.out.b18 7
      have hq8_ : wc.cell? ⟨w.heap.size + 1, 8, none⟩ = some (.int .i64 0) := (blk_cell HX.out.b18 8).trans rfl
      have hf8_ := blk_frozen HX.out.b18 8
      have hq9_ : wc.cell? ⟨w.heap.size + 1, 9, none⟩ = some (.int .i64 0) := (blk_cell HX.out.b18 9).trans rfl
      have hf9_ := blk_frozen HX.out.b18 9
      have hq10_ : wc.cell? ⟨w.heap.size + 1, 10, none⟩ = some (.int .i64 0) := (blk_cell HX.out.b18 10).trans rfl
      have hf10_ := blk_frozen HX.out.b18 10
      have hs0_ : wc.cell? ⟨wr.heap.size, 0, none⟩ = some _ := (blk_cell HS.out 0).trans rfl
      have hs1_ : wc.cell? ⟨wr.heap.size, 1, none⟩ = some _ := (blk_cell HS.out 1).trans rfl
      have hs2_ : wc.cell? ⟨wr.heap.size, 2, none⟩ = some _ := (blk_cell HS.out 2).trans rfl
      have hs3_ : wc.cell? ⟨wr.heap.size, 3, none⟩ = some _ := (blk_cell HS.out 3).trans rfl
      have hs4_ : wc.cell? ⟨wr.heap.size, 4, none⟩ = some _ := (blk_cell HS.out 4).trans rfl
      have hs5_ : wc.cell? ⟨wr.heap.size, 5, none⟩ = some _ := (blk_cell HS.out 5).trans rfl
      have hs6_ : wc.cell? ⟨wr.heap.size, 6, none⟩ = some _ := (blk_cell HS.out 6).trans rfl
      have hs7_ : wc.cell? ⟨wr.heap.size, 7, none⟩ = some _ := (blk_cell HS.out 7).trans rfl
      have hs8_ : wc.cell? ⟨wr.heap.size, 8, none⟩ = some _ := (blk_cell HS.out 8).trans rfl
      have hs9_ : wc.cell? ⟨wr.heap.size, 9, none⟩ = some _ := (blk_cell HS.out 9).trans rfl
      have hs10_ : wc.cell? ⟨wr.heap.size, 10, none⟩ = some _ := (blk_cell HS.out 10).trans rfl
      have hg0_ := blk_frozen HS.out 0
      have hg1_ := blk_frozen HS.out 1
      have hg2_ := blk_frozen HS.out 2
      have hg3_ := blk_frozen HS.out 3
      have hg4_ := blk_frozen HS.out 4
      have hg5_ := blk_frozen HS.out 5
      have hg6_ := blk_frozen HS.out 6
      have hg7_ := blk_frozen HS.out 7
      have hg8_ := blk_frozen HS.out 8
      have hg9_ := blk_frozen HS.out 9
      have hg10_ := blk_frozen HS.out 10
      have hzz := blk_lt HS.out
      have hzy := blk_lt HX.out.b18
      have HZ := Aside0.mk (Nat.le_of_lt hz0)
      go_wp2
      have HB := Aside0.mk HX.out.hb
      refine bodyPost_ret (results_ct rfl _ _ (w.heap.size + 1) 39 #[.int .i64 p0, .int .i64 dst, .int .i64 ((l0.length : Int) + 1), .int .i64 dgl, .int .i64 tick, .int .i64 kind, .int .i64 a, .int .i64 b, .int .i64 c, .int .i64 d, .int .i64 (mk_ p1 (bts ⟨p0, dst, (l0.length : Int) + 1, dgl, tick, kind, a, b, c, d, 0⟩))] (0, 0) _ rfl (by (with_reducible exact put11 _ _ _ _ _ _ _ _ _ _ _ _ _ _ _ _ _ _ _ _ _ _ (blk_far HX.out.b18 (Nat.ne_of_lt hz1) _))) Tryd.underlying39 rfl (by kernel_rfl)) rfl ?_
      exact ⟨rfl, by (repeat (with_reducible first | exact HB.out | exact Below.refl _ _ | apply below_alloc | apply pw_below_drewN | apply below_drew1 | refine below_set ?_ (Nat.le_succ _) | refine below_set ?_ HZ.out))⟩
end Go.Proofs.YtcalkhlchjjalaaDoor.Gnx

namespace Go.Proofs.YtcalkhlchjjalaaDoor.Q
open Go Go.RowKit Go.Proofs Go.Proofs.YtcalkhlchjjalaaDoor.Gsy Go.Proofs.YtcalkhlchjjalaaDoor.Gnx Go.Proofs.YtcalkhlchjjalaaDoorW.PrintWords Go.Proofs.YtcalkhlchjjalaaDoorW.PrintLast Go.Proofs.YtcalkhlchjjalaaDoorW.PrintMore
set_option linter.unusedVariables false
def statement_Valid.f (a0_0 a0_1 a0_2 a0_3 a0_4 a0_5 a0_6 a0_7 a0_8 a0_9 a0_10 : Int) : Option Bool := some (vldB a0_0 a0_1 a0_2 a0_3 a0_4 a0_5 a0_6 a0_7 a0_8 a0_9 a0_10)
theorem statement_Valid.calls (a0_0 a0_1 a0_2 a0_3 a0_4 a0_5 a0_6 a0_7 a0_8 a0_9 a0_10 : Int) (r : Bool) (w : World) (h : statement_Valid.f a0_0 a0_1 a0_2 a0_3 a0_4 a0_5 a0_6 a0_7 a0_8 a0_9 a0_10 = some r) (hGL : GL w := by first | exact hGL | exact Aside0.out HGL | exact GL.step (Aside0.out HGL) (by repeat (first | (with_reducible first | exact HB.out | apply below_alloc | apply pw_below_drewN | apply below_drew1 | refine below_set ?_ (Aside0.out (by assumption))) | exact HB.out))) :
 Calls Tryd.prog 24 #[.agg #[.int .i64 a0_0, .int .i64 a0_1, .int .i64 a0_2, .int .i64 a0_3, .int .i64 a0_4, .int .i64 a0_5, .int .i64 a0_6, .int .i64 a0_7, .int .i64 a0_8, .int .i64 a0_9, .int .i64 a0_10]] w fun e w' => e = .returned (.bool r) ∧ Below w.heap.size w w' :=
 valid_x a0_0 a0_1 a0_2 a0_3 a0_4 a0_5 a0_6 a0_7 a0_8 a0_9 a0_10 w hGL r (Option.some.inj h)
def NextOk (l0 : List S39) (xs : List Int) : Prop := (∀ s ∈ l0, W64 s) ∧ ∀ x ∈ xs, I64 x
open Classical in
noncomputable def statement_Next.f (l0 : List S39) (a1_0 a1_1 a2 a3 a4 a5 a6 a7 a8 : Int) : Option (Int × Int × Int × Int × Int × Int × Int × Int × Int × Int × Int × Int) :=
 if NextOk l0 [a1_0, a2, a3, a4, a5, a6, a7, a8] then (match nxt l0 a1_0 a1_1 a2 a3 a4 a5 a6 a7 a8 with | (s, e) => some (s.f0, s.f1, s.f2, s.f3, s.f4, s.f5, s.f6, s.f7, s.f8, s.f9, s.f10, e)) else none
theorem statement_Next.calls (A0 : Option Addr) (c0 : Nat) (l0 : List (S39)) (a1_0 a1_1 a2 a3 a4 a5 a6 a7 a8 : Int) (r1 r2 r3 r4 r5 r6 r7 r8 r9 r10 r11 r12 : Int) (w : World) (hr0 : Kd.C k39 w A0 l0.length l0) (hc0 : l0.length ≤ c0)
 (h : statement_Next.f l0 a1_0 a1_1 a2 a3 a4 a5 a6 a7 a8 = some (r1, r2, r3, r4, r5, r6, r7, r8, r9, r10, r11, r12)) (hGL : GL w := by first | exact hGL | exact Aside0.out HGL | exact GL.step (Aside0.out HGL) (by repeat (first | (with_reducible first | exact HB.out | apply below_alloc | apply pw_below_drewN | apply below_drew1 | refine below_set ?_ (Aside0.out (by assumption))) | exact HB.out))) :
 Calls Tryd.prog 14 #[.slice A0 l0.length c0, .agg #[.int .i64 a1_0, .int .i64 a1_1], .int .i64 a2, .int .i64 a3, .int .i64 a4, .int .i64 a5, .int .i64 a6, .int .i64 a7, .int .i64 a8] w fun e w' =>
  e = .returned (.tuple #[.agg #[.int .i64 r1, .int .i64 r2, .int .i64 r3, .int .i64 r4, .int .i64 r5, .int .i64 r6, .int .i64 r7, .int .i64 r8, .int .i64 r9, .int .i64 r10, .int .i64 r11], .int .i64 r12]) ∧ Below w.heap.size w w' := by
 unfold statement_Next.f at h
 split at h
 case isFalse => cases h
 case isTrue hok =>
 obtain ⟨h1, h2⟩ := hok
 have g := next_x A0 c0 l0 a1_0 a1_1 a2 a3 a4 a5 a6 a7 a8 w hr0 hc0 hGL h1 (h2 _ (by simp)) (h2 _ (by simp)) (h2 _ (by simp)) (h2 _ (by simp)) (h2 _ (by simp)) (h2 _ (by simp)) (h2 _ (by simp)) (h2 _ (by simp)) _ _ rfl
 obtain ⟨s, e⟩ := nxt l0 a1_0 a1_1 a2 a3 a4 a5 a6 a7 a8
 simp only [Option.some.injEq, Prod.mk.injEq] at h
 obtain ⟨rfl, rfl, rfl, rfl, rfl, rfl, rfl, rfl, rfl, rfl, rfl, rfl⟩ := h
 exact g
end Go.Proofs.YtcalkhlchjjalaaDoor.Q

namespace Go.Proofs.YtcalkhlchjjalaaDoor.Q
open Go Go.RowKit Go.Proofs Go.Proofs.YtcalkhlchjjalaaDoor.Gm Go.Proofs.YtcalkhlchjjalaaDoor.Gdm Go.Proofs.YtcalkhlchjjalaaDoor.Gsy Go.Proofs.YtcalkhlchjjalaaDoor.Gnx Go.Proofs.YtcalkhlchjjalaaDoorW.PrintWords Go.Proofs.YtcalkhlchjjalaaDoorW.PrintLast Go.Proofs.YtcalkhlchjjalaaDoorW.PrintMore
set_option linter.unusedVariables false
def prevD (l : List S39) (i : Nat) : Int := if i = 0 then 0 else dg 1 (bts (rd_T39 l ((i - 1 : Nat) : Int)))
def fol (l : List S39) (i : Nat) : Bool := ((rd_T39 l i).f0 == (rd_T39 l ((0 : Nat) : Int)).f0) && (((rd_T39 l i).f1 == (rd_T39 l ((0 : Nat) : Int)).f1) && (((rd_T39 l i).f2 == (i : Int) + 1) && ((rd_T39 l i).f3 == prevD l i)))
set_option maxRecDepth 100000 in
set_option maxHeartbeats 8000000 in
theorem follows_x (A0 : Option Addr) (c0 : Nat) (l0 : List S39) (i : Nat) (w : World) (hr0 : Kd.C k39 w A0 l0.length l0) (hc0 : l0.length ≤ c0) (hi : i < l0.length) (hlen : l0.length ≤ 1000000)
 (hW : ∀ s ∈ l0, W64 s) (r : Bool) (hr : fol l0 i = r) :
 Calls Tryd.prog 37 #[.slice A0 l0.length c0, .int .i64 (i : Int)] w fun e w' => e = .returned (.bool r) ∧ Below w.heap.size w w' := by
 have hu39 := Tryd.underlying39
 have HR := Aside0.mk hr0
 have HW := Aside0.mk hW
 have HN := Lib.hid hr
 clear hr0 hr hW
 obtain ⟨ad, ead, hx0, hx1, hx2, hx3, hx4, hx5, hx6, hx7, hx8, hx9, hx10⟩ := at_T39 HR.out i (by omega) (by omega)
 obtain ⟨ad2, ead2, hy0, hy1, -⟩ := at_T39 HR.out ((0 : Nat) : Int) (by omega) (by omega)
 cases ead
 cases ead2
 simp only [Int.toNat_natCast, Nat.zero_mul] at hx0 hx1 hx2 hx3 hx4 hx5 hx6 hx7 hx8 hx9 hx10 hy0 hy1
 have ea0 : ad.add 0 = ad := by cases ad; simp [Addr.add]
 rw [ea0] at hy0 hy1
 clear ea0
 unfold fol at HN
 obtain ⟨e, he⟩ : ∃ e, e = rd_T39 l0 i := ⟨_, rfl⟩
 obtain ⟨z, hz⟩ : ∃ z, z = rd_T39 l0 ((0 : Nat) : Int) := ⟨_, rfl⟩
 rw [← he] at hx0 hx1 hx2 hx3 hx4 hx5 hx6 hx7 hx8 hx9 hx10
 rw [← hz] at hy0 hy1
 have HN2 : Hid (((e.f0 == z.f0) && ((e.f1 == z.f1) && ((e.f2 == (i : Int) + 1) && (e.f3 == prevD l0 i)))) = r) := Lib.hid (by have h := HN.out; rw [← he, ← hz] at h; exact h)
 obtain ⟨pd, hpd⟩ : ∃ pd, pd = prevD l0 i := ⟨_, rfl⟩
 rw [← hpd] at HN2
 have HPD := Lib.hid hpd
 clear he hz hpd HN
 obtain ⟨x0, x1, x2, x3, x4, x5, x6, x7, x8, x9, x10⟩ := e
 obtain ⟨y0, y1, y2, y3, y4, y5, y6, y7, y8, y9, y10⟩ := z
 simp only at hx0 hx1 hx2 hx3 hx4 hx5 hx6 hx7 hx8 hx9 hx10 hy0 hy1 HN2
 have hadx := World.block_lt_of_cell? w _ hx0
 have hady := World.block_lt_of_cell? w _ hy0
 have HX0 := Aside0.mk hx0
 have HX1 := Aside0.mk hx1
 have HY0 := Aside0.mk hy0
 have HY1 := Aside0.mk hy1
 have hl1 : (0 : Int) < (l0.length : Int) := by omega
 have hl2 : 0 < l0.length := by omega
 go_enter Tryd.func37, Tryd.ntmps37
 go_upto_if 12 with fail
 go_cut [6] (fun s6 wx => s6 = .int .i64 pd ∧ Aside0 (wx.heap[w.heap.size]? = some (.cells #[.int .i64 x0, .int .i64 x1, .int .i64 x2, .int .i64 x3, .int .i64 x4, .int .i64 x5, .int .i64 x6, .int .i64 x7, .int .i64 x8, .int .i64 x9, .int .i64 x10] 39 (0, 0))) ∧ Aside0 (Below w.heap.size w wx))
 case first =>
  by_cases h0 : i = 0
  case pos =>
   obtain rfl : pd = 0 := by have h := HPD.out; unfold prevD at h; rw [if_pos h0] at h; exact h
   have g1 : decide (0 < i) = false := decide_eq_false (by omega)
   have g2 : decide (0 < (i : Int)) = false := decide_eq_false (by omega)
   have g4 : ¬ 0 < i := by omega
   clear h0
   go_wp2
   go_meet
   exact ⟨rfl, ⟨heap_alloc_new w _⟩, ⟨below_alloc (Below.refl _ _) _⟩⟩
  case neg =>
   have g1 : decide (0 < i) = true := decide_eq_true (by omega)
   have g2 : decide (0 < (i : Int)) = true := decide_eq_true (by omega)
   have g4 : 0 < i := by omega
   have hml : i - 1 < l0.length := by omega
   obtain ⟨ad3, ead3, hv0, hv1, hv2, hv3, hv4, hv5, hv6, hv7, hv8, hv9, hv10⟩ := at_T39 HR.out ((i - 1 : Nat) : Int) (by omega) (by omega)
   cases ead3
   simp only [Int.toNat_natCast] at hv0 hv1 hv2 hv3 hv4 hv5 hv6 hv7 hv8 hv9 hv10
   obtain ⟨f, hf⟩ : ∃ f, f = rd_T39 l0 ((i - 1 : Nat) : Int) := ⟨_, rfl⟩
   rw [← hf] at hv0 hv1 hv2 hv3 hv4 hv5 hv6 hv7 hv8 hv9 hv10
   have hfW : W64 f := by rw [hf, Gnx.rd_get l0 (i - 1) hml]; exact HW.out _ (List.getElem_mem hml)
   have HPE : Hid (dg 1 (bts f) = pd) := Lib.hid (by have h := HPD.out; unfold prevD at h; rw [if_neg h0, ← hf] at h; exact h.symm)
   have HFW := Aside0.mk hfW
   have hadv := World.block_lt_of_cell? w _ hv0
   have g3 : 1 ≤ i := by omega
   clear hf hfW h0 HPD
   obtain ⟨v0, v1, v2, v3, v4, v5, v6, v7, v8, v9, v10⟩ := f
   simp only at hv0 hv1 hv2 hv3 hv4 hv5 hv6 hv7 hv8 hv9 hv10
   have HB := Aside0.mk (below_alloc (Below.refl w.heap.size w) (.cells #[.int .i64 x0, .int .i64 x1, .int .i64 x2, .int .i64 x3, .int .i64 x4, .int .i64 x5, .int .i64 x6, .int .i64 x7, .int .i64 x8, .int .i64 x9, .int .i64 x10] 39))
   have HK := Aside0.mk (heap_alloc_new w (.cells #[.int .i64 x0, .int .i64 x1, .int .i64 x2, .int .i64 x3, .int .i64 x4, .int .i64 x5, .int .i64 x6, .int .i64 x7, .int .i64 x8, .int .i64 x9, .int .i64 x10] 39))
   go_wp2_with (first | (go_at_call 25; with_reducible refine (bytes_x v0 v1 v2 v3 v4 v5 v6 v7 v8 v9 v10 HFW.out _).mono ?_; rintro e w5 ⟨rfl, hb⟩; have n1_ := Aside0.mk (below_step HB.out hb); have n2_ := Aside0.mk (blk_below HK.out hb); clear HB HK hb; have HB := n1_; have HK := n2_; clear n1_ n2_) | (go_at_call 26; with_reducible refine (sum_x _ (Nat.le_trans (bts_len HFW.out) (by omega)) _).mono ?_; rintro e w6 ⟨rfl, hb⟩; have n1_ := Aside0.mk (below_step HB.out hb); have n2_ := Aside0.mk (blk_below HK.out hb); clear HB HK hb; have HB := n1_; have HK := n2_; clear n1_ n2_; rw [HPE.out]))
   go_meet
   exact ⟨rfl, HK, HB⟩
 case rest =>
  obtain ⟨rfl, HK, HB⟩ := hcut
  have hk0 : wc.cell? ⟨w.heap.size, 0, none⟩ = some (.int .i64 x0) := (blk_cell HK.out 0).trans rfl
  have hk1 : wc.cell? ⟨w.heap.size, 1, none⟩ = some (.int .i64 x1) := (blk_cell HK.out 1).trans rfl
  have hk2 : wc.cell? ⟨w.heap.size, 2, none⟩ = some (.int .i64 x2) := (blk_cell HK.out 2).trans rfl
  have hk3 : wc.cell? ⟨w.heap.size, 3, none⟩ = some (.int .i64 x3) := (blk_cell HK.out 3).trans rfl
  have hq0 := (HB.out.cell (World.block_lt_of_cell? w _ HY0.out)).trans HY0.out
  have hq1 := (HB.out.cell (World.block_lt_of_cell? w _ HY1.out)).trans HY1.out
  have hi1 : IntKind.i64.wrap ((i : Int) + 1) = (i : Int) + 1 := IntWalk.i64_in _ (by omega)
  have hi2 : wrap64 ((i : Int) + 1) = (i : Int) + 1 := w64 (by omega)
  clear hx0 hx1 hx2 hx3 hx4 hx5 hx6 hx7 hx8 hx9 hx10 hy0 hy1 HX0 HX1 HY0 HY1 HPD HR HW
  by_cases h0 : x0 = y0
  case neg =>
   have e0 : (x0 == y0) = false := beq_eq_false_iff_ne.2 h0
   clear h0
   obtain rfl : false = r := by have h := HN2.out; simpa [e0] using h
   go_wp2
   go_quiet (fail)
   go_wp2
   go_ret
   exact ⟨rfl, by repeat (with_reducible first | exact HB.out | apply below_alloc | apply pw_below_drewN | apply below_drew1)⟩
  case pos =>
  have e0 : (x0 == y0) = true := beq_iff_eq.2 h0
  clear h0
  by_cases h1 : x1 = y1
  case neg =>
   have e1 : (x1 == y1) = false := beq_eq_false_iff_ne.2 h1
   clear h1
   obtain rfl : false = r := by have h := HN2.out; simpa [e0, e1] using h
   go_wp2
   go_quiet (fail)
   go_wp2
   go_ret
   exact ⟨rfl, by repeat (with_reducible first | exact HB.out | apply below_alloc | apply pw_below_drewN | apply below_drew1)⟩
  case pos =>
  have e1 : (x1 == y1) = true := beq_iff_eq.2 h1
  clear h1
  by_cases h2 : x2 = ((i : Int) + 1)
  case neg =>
   have e2 : (x2 == ((i : Int) + 1)) = false := beq_eq_false_iff_ne.2 h2
   clear h2
   obtain rfl : false = r := by have h := HN2.out; simpa [e0, e1, e2] using h
   go_wp2
   go_quiet (fail)
   go_wp2
   go_ret
   exact ⟨rfl, by repeat (with_reducible first | exact HB.out | apply below_alloc | apply pw_below_drewN | apply below_drew1)⟩
  case pos =>
  have e2 : (x2 == ((i : Int) + 1)) = true := beq_iff_eq.2 h2
  clear h2
  by_cases h3 : x3 = pd
  case neg =>
   have e3 : (x3 == pd) = false := beq_eq_false_iff_ne.2 h3
   clear h3
   obtain rfl : false = r := by have h := HN2.out; simpa [e0, e1, e2, e3] using h
   go_wp2
   go_quiet (fail)
   go_wp2
   go_ret
   exact ⟨rfl, by repeat (with_reducible first | exact HB.out | apply below_alloc | apply pw_below_drewN | apply below_drew1)⟩
  case pos =>
  have e3 : (x3 == pd) = true := beq_iff_eq.2 h3
  clear h3
  obtain rfl : true = r := by have h := HN2.out; simpa [e0, e1, e2, e3] using h
  go_wp2
  go_quiet (fail)
  go_wp2
  go_ret
  exact ⟨rfl, by repeat (with_reducible first | exact HB.out | apply below_alloc | apply pw_below_drewN | apply below_drew1)⟩
open Classical in
noncomputable def statement_follows.f (l0 : List S39) (a1 : Int) : Option Bool := if (0 ≤ a1 ∧ a1 < (l0.length : Int)) ∧ l0.length ≤ 1000000 ∧ ∀ s ∈ l0, W64 s then some (fol l0 a1.toNat) else none
theorem statement_follows.calls (A0 : Option Addr) (c0 : Nat) (l0 : List (S39)) (a1 : Int) (r : Bool) (w : World) (hr0 : Kd.C k39 w A0 l0.length l0) (hc0 : l0.length ≤ c0) (h : statement_follows.f l0 a1 = some r) :
 Calls Tryd.prog 37 #[.slice A0 l0.length c0, .int .i64 a1] w fun e w' => e = .returned (.bool r) ∧ Below w.heap.size w w' := by
 unfold statement_follows.f at h
 split at h
 case isFalse => cases h
 case isTrue hok =>
 obtain ⟨⟨h1, h2⟩, h3, h4⟩ := hok
 obtain ⟨i, rfl⟩ : ∃ i : Nat, a1 = i := ⟨a1.toNat, by omega⟩
 exact follows_x A0 c0 l0 i w hr0 hc0 (by omega) h3 h4 r (Option.some.inj h)
end Go.Proofs.YtcalkhlchjjalaaDoor.Q

namespace Go.Proofs.YtcalkhlchjjalaaDoor.Q
open Go.RowKit Go.Proofs.YtcalkhlchjjalaaDoorW.PrintWords Go.Proofs.YtcalkhlchjjalaaDoorW.PrintLast Go.Proofs.YtcalkhlchjjalaaDoorW.PrintMore Go.Proofs.YtcalkhlchjjalaaDoor.Gput
attribute [local go_sem] max2_int min2_int max_two min_two max_three min_three max_four min_four   -- for this text's walks alone
set_option linter.unusedVariables false
set_option linter.unusedSimpArgs false
def mark_Verify.f (k : Nat) (l0 : List (S25)) (a1 : Int) (a2 : ByteArray) (a3 : Int) : Option (Bool) := (mark_Find.f l0 a1).bind fun bt112 => (if bt112.2.2 = true then ((mark_Sign.f k bt112.2.1 a2).bind fun bt116 => (if bt116.2 = 0 then (some (a3 == bt116.1)) else (some false))) else (some false))
theorem mark_Verify.mono : ∀ a0 a1 a2 a3 k, LeO (mark_Verify.f k a0 a1 a2 a3) (mark_Verify.f (k + 1) a0 a1 a2 a3) := by
 intro a0 a1 a2 a3 k
 unfold mark_Verify.f
 repeat' first
  | (with_reducible exact mark_Sign.mono _ _ _)
  | (with_reducible exact LeO.refl _)
  | (with_reducible exact LeO.none _)
  | (with_reducible refine LeO.ite ?_ ?_)
  | (with_reducible refine LeO.bind ?_ (fun _ => ?_))
  | exact mark_Sign.mono _ _ _
  | exact LeO.none _
  | refine LeO.ite ?_ ?_
  | refine LeO.bind ?_ (fun _ => ?_)
set_option maxHeartbeats 8000000 in
set_option maxRecDepth 100000 in
theorem mark_Verify.calls (k : Nat) (A0 : Option Addr) (c0 : Nat) (l0 : List (S25)) (a1 : Int) (a2 : ByteArray) (a3 : Int) (r : Bool) (w : World) (hr0 : Kd.C k25 w A0 l0.length l0) (hc0 : l0.length ≤ c0) (h : mark_Verify.f k l0 a1 a2 a3 = some r) :
 Calls Tryd.prog 40 #[.slice A0 l0.length c0, .int .i64 a1, .string a2, .int .i64 a3] w fun e w' => e = .returned (.bool r) ∧ Below w.heap.size w w' := by
 have hu25 := Tryd.underlying25
 have HR0 := Aside0.mk hr0
 have HC0 := Aside0.mk hc0
 clear hr0 hc0
 have HB := Aside0.mk (Below.refl w.heap.size w)
 have H : ((mark_Find.f l0 a1).bind fun bt112 => (if bt112.2.2 = true then ((mark_Sign.f k bt112.2.1 a2).bind fun bt116 => (if bt116.2 = 0 then (some (a3 == bt116.1)) else (some false))) else (some false))) = some r := h
 clear h
 replace H := Option.bind_eq_some_iff.mp H
 obtain ⟨⟨t112, t113, t114⟩, A50, H⟩ := H
 replace H : (if t114 = true then ((mark_Sign.f k t113 a2).bind fun bt116 => (if bt116.2 = 0 then (some (a3 == bt116.1)) else (some false))) else (some false)) = some r := H
 have A5 := Aside0.mk A50
 clear A50
 by_cases c6 : t114 = true
 ·subst c6
  have H1 : ((mark_Sign.f k t113 a2).bind fun bt116 => (if bt116.2 = 0 then (some (a3 == bt116.1)) else (some false))) = some r := by rw [if_pos rfl] at H; exact H
  clear H
  have H := H1
  clear H1
  replace H := Option.bind_eq_some_iff.mp H
  obtain ⟨⟨t116, t117⟩, A70, H⟩ := H
  replace H : (if t117 = 0 then (some (a3 == t116)) else (some false)) = some r := H
  have A7 := Aside0.mk A70
  clear A70
  by_cases c8 : t117 = 0
  ·rw [if_pos c8] at H
   have c8b0 : (t117 == 0) = true := beq_iff_eq.mpr c8
   have c8b1 : (t117 != 0) = false := bne_eq_false_iff_eq.mpr c8
   clear c8
   obtain rfl := Option.some.inj H
   go_enter Tryd.func40, Tryd.ntmps40
   go_wp2_with (first | ((with_reducible refine gate_callee (f := 49) rfl ?_); refine goesL_ (some 16) rfl rfl Tryd.func49 (by kernel_rfl) rfl #[.slice A0 l0.length c0, .int .i64 a1] rfl (by (try simp only [List.map_toArray, List.map_cons, List.map_nil]); first | done | rfl | (simp only [List.length_drop, List.length_take]; rfl)) ?_; (with_reducible refine (mark_Find.calls _ _ l0 a1 t112 t113 true _ ?side1 ?side2 A5.out).mono ?_); (case side1 => repeat (first | exact HR0.out | (with_reducible refine Kd.C_alloc ?_ _) | (with_reducible refine Kd.C_drewN ?_ _) | (with_reducible refine Kd.C_drew ?_))); (case side2 => exact HC0.out); rintro e w9 ⟨rfl, hb⟩; refine ⟨_, rfl, ?_⟩; have n0_ := Aside0.mk (below_step (by repeat (first | (with_reducible first | exact HB.out | apply below_alloc | apply pw_below_drewN | apply below_drew1) | exact HB.out)) hb); clear HB; have HB := n0_; clear n0_; (try clear hb); (try clear hb2); (try clear hk); (try clear hi)) | ((with_reducible refine gate_dst (N := 9) rfl ?_); refine box_event ?hg (N := 9) ?hd (cs := #[.int .i64 0, .int .i64 0]) (t := 25) ?hr ?_; (case hd => rfl); (case hg => rfl); (case hr => first | (go_simp; done) | (go_simp; rfl)); intro gb115 hg w10 hbox hb; have n0_ := Aside0.mk (below_step (by repeat (first | (with_reducible first | exact HB.out | apply below_alloc | apply pw_below_drewN | apply below_drew1) | exact HB.out)) hb); have n1_ := Aside0.mk (hbox); have n2_ := Aside0.mk ((by rw [hg]; exact (below_size (by repeat (first | (with_reducible first | exact HB.out | apply below_alloc | apply pw_below_drewN | apply below_drew1) | exact HB.out))) : w.heap.size ≤ gb115)); have n3_ := Aside0.mk ((by rw [hg]; exact (below_size (by repeat (first | (with_reducible first | exact HB.out | apply below_alloc | apply pw_below_drewN | apply below_drew1) | exact HB.out))) : w.heap.size ≤ gb115)); clear HB; have HB := n0_; have BK115 := n1_; have GW115 := n2_; have GE115 := n3_; clear n0_ n1_ n2_ n3_; clear hb hbox hg; have hcz11_0 : w10.cell? ⟨gb115, 0, none⟩ = some (.int .i64 0) := (blk_cell BK115.out 0).trans rfl; have hcz11_1 : w10.cell? ⟨gb115, 1, none⟩ = some (.int .i64 0) := (blk_cell BK115.out 1).trans rfl; have hfz11_0 := blk_frozen BK115.out 0; have hfz11_1 := blk_frozen BK115.out 1) | ((with_reducible refine gate_callee (f := 29) rfl ?_); refine goesL_ (some 25) rfl rfl Tryd.func29 (by kernel_rfl) rfl #[.int .i64 t113, .string a2] rfl (by (try simp only [List.map_toArray, List.map_cons, List.map_nil]); first | done | rfl | (simp only [List.length_drop, List.length_take]; rfl)) ?_; (with_reducible refine (mark_Sign.calls k t113 a2 t116 t117 _ A7.out).mono ?_); rintro e w12 ⟨rfl, hb⟩; refine ⟨_, rfl, ?_⟩; have n0_ := Aside0.mk (blk_below (g := gb115) (o := .cells #[.int .i64 t112, .int .i64 t113] 25 (0, 0)) (by (with_reducible repeat (first | refine blk_drewN ?_ _ | refine blk_drew ?_ | refine blk_alloc ?_ _)); refine blk_put (cs := #[.int .i64 t112, .int .i64 0]) ?_ 1 _ rfl; (with_reducible repeat (first | refine blk_drewN ?_ _ | refine blk_drew ?_ | refine blk_alloc ?_ _)); refine blk_put (cs := #[.int .i64 0, .int .i64 0]) ?_ 0 _ rfl; (with_reducible repeat (first | refine blk_drewN ?_ _ | refine blk_drew ?_ | refine blk_alloc ?_ _)); exact BK115.out) hb); have n1_ := Aside0.mk (below_step (by repeat (first | (with_reducible first | exact HB.out | apply below_alloc | apply pw_below_drewN | apply below_drew1 | refine below_set ?_ GE115.out) | exact HB.out)) hb); clear BK115; clear HB; have BK115 := n0_; have HB := n1_; clear n0_ n1_; (try clear hb); (try clear hb2); (try clear hk); (try clear hi)))
   go_ret
   exact ⟨by first | rfl | (simp [errW_none, errW_some] <;> rfl) | (simp [*, errW_none, errW_some] <;> rfl), by repeat (first | (with_reducible first | exact HB.out | apply below_alloc | apply pw_below_drewN | apply below_drew1 | refine below_set ?_ GE115.out) | exact HB.out)⟩
  ·rw [if_neg c8] at H
   have c8b0 : (t117 == 0) = false := beq_eq_false_iff_ne.mpr c8
   have c8b1 : (t117 != 0) = true := bne_iff_ne.mpr c8
   obtain rfl := Option.some.inj H
   go_enter Tryd.func40, Tryd.ntmps40
   go_wp2_with (first | ((with_reducible refine gate_callee (f := 49) rfl ?_); refine goesL_ (some 16) rfl rfl Tryd.func49 (by kernel_rfl) rfl #[.slice A0 l0.length c0, .int .i64 a1] rfl (by (try simp only [List.map_toArray, List.map_cons, List.map_nil]); first | done | rfl | (simp only [List.length_drop, List.length_take]; rfl)) ?_; (with_reducible refine (mark_Find.calls _ _ l0 a1 t112 t113 true _ ?side1 ?side2 A5.out).mono ?_); (case side1 => repeat (first | exact HR0.out | (with_reducible refine Kd.C_alloc ?_ _) | (with_reducible refine Kd.C_drewN ?_ _) | (with_reducible refine Kd.C_drew ?_))); (case side2 => exact HC0.out); rintro e w13 ⟨rfl, hb⟩; refine ⟨_, rfl, ?_⟩; have n0_ := Aside0.mk (below_step (by repeat (first | (with_reducible first | exact HB.out | apply below_alloc | apply pw_below_drewN | apply below_drew1) | exact HB.out)) hb); clear HB; have HB := n0_; clear n0_; (try clear hb); (try clear hb2); (try clear hk); (try clear hi)) | ((with_reducible refine gate_dst (N := 9) rfl ?_); refine box_event ?hg (N := 9) ?hd (cs := #[.int .i64 0, .int .i64 0]) (t := 25) ?hr ?_; (case hd => rfl); (case hg => rfl); (case hr => first | (go_simp; done) | (go_simp; rfl)); intro gb115 hg w14 hbox hb; have n0_ := Aside0.mk (below_step (by repeat (first | (with_reducible first | exact HB.out | apply below_alloc | apply pw_below_drewN | apply below_drew1) | exact HB.out)) hb); have n1_ := Aside0.mk (hbox); have n2_ := Aside0.mk ((by rw [hg]; exact (below_size (by repeat (first | (with_reducible first | exact HB.out | apply below_alloc | apply pw_below_drewN | apply below_drew1) | exact HB.out))) : w.heap.size ≤ gb115)); have n3_ := Aside0.mk ((by rw [hg]; exact (below_size (by repeat (first | (with_reducible first | exact HB.out | apply below_alloc | apply pw_below_drewN | apply below_drew1) | exact HB.out))) : w.heap.size ≤ gb115)); clear HB; have HB := n0_; have BK115 := n1_; have GW115 := n2_; have GE115 := n3_; clear n0_ n1_ n2_ n3_; clear hb hbox hg; have hcz15_0 : w14.cell? ⟨gb115, 0, none⟩ = some (.int .i64 0) := (blk_cell BK115.out 0).trans rfl; have hcz15_1 : w14.cell? ⟨gb115, 1, none⟩ = some (.int .i64 0) := (blk_cell BK115.out 1).trans rfl; have hfz15_0 := blk_frozen BK115.out 0; have hfz15_1 := blk_frozen BK115.out 1) | ((with_reducible refine gate_callee (f := 29) rfl ?_); refine goesL_ (some 25) rfl rfl Tryd.func29 (by kernel_rfl) rfl #[.int .i64 t113, .string a2] rfl (by (try simp only [List.map_toArray, List.map_cons, List.map_nil]); first | done | rfl | (simp only [List.length_drop, List.length_take]; rfl)) ?_; (with_reducible refine (mark_Sign.calls k t113 a2 t116 t117 _ A7.out).mono ?_); rintro e w16 ⟨rfl, hb⟩; refine ⟨_, rfl, ?_⟩; have n0_ := Aside0.mk (blk_below (g := gb115) (o := .cells #[.int .i64 t112, .int .i64 t113] 25 (0, 0)) (by (with_reducible repeat (first | refine blk_drewN ?_ _ | refine blk_drew ?_ | refine blk_alloc ?_ _)); refine blk_put (cs := #[.int .i64 t112, .int .i64 0]) ?_ 1 _ rfl; (with_reducible repeat (first | refine blk_drewN ?_ _ | refine blk_drew ?_ | refine blk_alloc ?_ _)); refine blk_put (cs := #[.int .i64 0, .int .i64 0]) ?_ 0 _ rfl; (with_reducible repeat (first | refine blk_drewN ?_ _ | refine blk_drew ?_ | refine blk_alloc ?_ _)); exact BK115.out) hb); have n1_ := Aside0.mk (below_step (by repeat (first | (with_reducible first | exact HB.out | apply below_alloc | apply pw_below_drewN | apply below_drew1 | refine below_set ?_ GE115.out) | exact HB.out)) hb); clear BK115; clear HB; have BK115 := n0_; have HB := n1_; clear n0_ n1_; (try clear hb); (try clear hb2); (try clear hk); (try clear hi)))
   go_ret
   exact ⟨by first | rfl | (simp [errW_none, errW_some] <;> rfl) | (simp [*, errW_none, errW_some] <;> rfl), by repeat (first | (with_reducible first | exact HB.out | apply below_alloc | apply pw_below_drewN | apply below_drew1 | refine below_set ?_ GE115.out) | exact HB.out)⟩
 ·replace c6 := Bool.eq_false_iff.mpr c6
  subst c6
  have H1 : (some false) = some r := by rw [if_neg (show ¬ (false = true) by decide)] at H; exact H
  clear H
  have H := H1
  clear H1
  obtain rfl := Option.some.inj H
  go_enter Tryd.func40, Tryd.ntmps40
  go_wp2_with (first | ((with_reducible refine gate_callee (f := 49) rfl ?_); refine goesL_ (some 16) rfl rfl Tryd.func49 (by kernel_rfl) rfl #[.slice A0 l0.length c0, .int .i64 a1] rfl (by (try simp only [List.map_toArray, List.map_cons, List.map_nil]); first | done | rfl | (simp only [List.length_drop, List.length_take]; rfl)) ?_; (with_reducible refine (mark_Find.calls _ _ l0 a1 t112 t113 false _ ?side1 ?side2 A5.out).mono ?_); (case side1 => repeat (first | exact HR0.out | (with_reducible refine Kd.C_alloc ?_ _) | (with_reducible refine Kd.C_drewN ?_ _) | (with_reducible refine Kd.C_drew ?_))); (case side2 => exact HC0.out); rintro e w17 ⟨rfl, hb⟩; refine ⟨_, rfl, ?_⟩; have n0_ := Aside0.mk (below_step (by repeat (first | (with_reducible first | exact HB.out | apply below_alloc | apply pw_below_drewN | apply below_drew1) | exact HB.out)) hb); clear HB; have HB := n0_; clear n0_; (try clear hb); (try clear hb2); (try clear hk); (try clear hi)) | ((with_reducible refine gate_dst (N := 9) rfl ?_); refine box_event ?hg (N := 9) ?hd (cs := #[.int .i64 0, .int .i64 0]) (t := 25) ?hr ?_; (case hd => rfl); (case hg => rfl); (case hr => first | (go_simp; done) | (go_simp; rfl)); intro gb115 hg w18 hbox hb; have n0_ := Aside0.mk (below_step (by repeat (first | (with_reducible first | exact HB.out | apply below_alloc | apply pw_below_drewN | apply below_drew1) | exact HB.out)) hb); have n1_ := Aside0.mk (hbox); have n2_ := Aside0.mk ((by rw [hg]; exact (below_size (by repeat (first | (with_reducible first | exact HB.out | apply below_alloc | apply pw_below_drewN | apply below_drew1) | exact HB.out))) : w.heap.size ≤ gb115)); have n3_ := Aside0.mk ((by rw [hg]; exact (below_size (by repeat (first | (with_reducible first | exact HB.out | apply below_alloc | apply pw_below_drewN | apply below_drew1) | exact HB.out))) : w.heap.size ≤ gb115)); clear HB; have HB := n0_; have BK115 := n1_; have GW115 := n2_; have GE115 := n3_; clear n0_ n1_ n2_ n3_; clear hb hbox hg; have hcz19_0 : w18.cell? ⟨gb115, 0, none⟩ = some (.int .i64 0) := (blk_cell BK115.out 0).trans rfl; have hcz19_1 : w18.cell? ⟨gb115, 1, none⟩ = some (.int .i64 0) := (blk_cell BK115.out 1).trans rfl; have hfz19_0 := blk_frozen BK115.out 0; have hfz19_1 := blk_frozen BK115.out 1))
  go_ret
  exact ⟨by first | rfl | (simp [errW_none, errW_some] <;> rfl) | (simp [*, errW_none, errW_some] <;> rfl), by repeat (first | (with_reducible first | exact HB.out | apply below_alloc | apply pw_below_drewN | apply below_drew1 | refine below_set ?_ GE115.out) | exact HB.out)⟩
end Go.Proofs.YtcalkhlchjjalaaDoor.Q

namespace Go.Proofs.YtcalkhlchjjalaaDoor.Q
open Go.RowKit Go.Proofs.YtcalkhlchjjalaaDoorW.PrintWords Go.Proofs.YtcalkhlchjjalaaDoorW.PrintLast Go.Proofs.YtcalkhlchjjalaaDoorW.PrintMore Go.Proofs.YtcalkhlchjjalaaDoor.Gput
attribute [local go_sem] max2_int min2_int max_two min_two max_three min_three max_four min_four   -- for this text's walks alone
set_option linter.unusedVariables false
set_option linter.unusedSimpArgs false
def storagebarterref02_Sum.l0 : Nat → ByteArray → Int → Int → Option (Int)
 | 0, _, _, _ => none
 | k + 1, x0, x3, x4 => if x4 < (x0.size : Int) then (if 0 ≤ x4 then (storagebarterref02_Sum.l0 k x0 (Int.tmod (wrap64 ((wrap64 ((wrap64 (x3 * 1000003)) + (wrap64 (bt x0 x4)))) + 1)) 2147483647) (wrap64 (x4 + 1))) else (none)) else (some x3)
def storagebarterref02_Sum.f (k : Nat) (a0 : ByteArray) : Option (Int) := storagebarterref02_Sum.l0 k a0 1 0
theorem storagebarterref02_Sum.mono_l : ∀ k, (∀ y0 y1 y2, LeO (storagebarterref02_Sum.l0 k y0 y1 y2) (storagebarterref02_Sum.l0 (k + 1) y0 y1 y2))
 | 0 => fun _ _ _ r h => by simp [storagebarterref02_Sum.l0] at h
 | k + 1 => by
  have ih0 := storagebarterref02_Sum.mono_l k
  ·intro y0 y1 y2
   unfold storagebarterref02_Sum.l0
   repeat' first
   | (with_reducible exact ih0 _ _ _)
   | (with_reducible exact LeO.refl _)
   | (with_reducible exact LeO.none _)
   | (with_reducible refine LeO.ite ?_ ?_)
   | (with_reducible refine LeO.bind ?_ (fun _ => ?_))
   | exact ih0 _ _ _
   | exact LeO.none _
   | refine LeO.ite ?_ ?_
   | refine LeO.bind ?_ (fun _ => ?_)
theorem storagebarterref02_Sum.mono : ∀ a0 k, LeO (storagebarterref02_Sum.f k a0) (storagebarterref02_Sum.f (k + 1) a0) := by
 intro a0 k
 have ih0 := storagebarterref02_Sum.mono_l k
 unfold storagebarterref02_Sum.f
 repeat' first
  | (with_reducible exact ih0 _ _ _)
  | (with_reducible exact LeO.refl _)
  | (with_reducible exact LeO.none _)
  | (with_reducible refine LeO.ite ?_ ?_)
  | (with_reducible refine LeO.bind ?_ (fun _ => ?_))
  | exact ih0 _ _ _
  | exact LeO.none _
  | refine LeO.ite ?_ ?_
  | refine LeO.bind ?_ (fun _ => ?_)
set_option maxHeartbeats 8000000 in
set_option maxRecDepth 100000 in
theorem storagebarterref02_Sum.calls (k : Nat) (a0 : ByteArray) (r : Int) (w : World) (h : storagebarterref02_Sum.f k a0 = some r) :
 Calls Tryd.prog 31 #[.string a0] w fun e w' => e = .returned (.int .i64 r) ∧ Drawn0 w w' := by
 have H : (storagebarterref02_Sum.l0 k a0 1 0) = some r := h
 clear h
 have H' := Aside0.mk H
 clear H
 go_enter Tryd.func31, Tryd.ntmps31
 go_wp2
 go_loopg [3, 4] k (fun kq v3 v4 w' => ∃ (x3_1 : Int) (x4_1 : Int), v3 = .int .i64 x3_1 ∧ v4 = .int .i64 x4_1 ∧ Aside0 (storagebarterref02_Sum.l0 kq a0 x3_1 x4_1 = some r) ∧ Aside0 (kq ≤ k) ∧ Drawn0 w w')
 case atStart => exact ⟨(1), (0), (by first | rfl | (simp; done) | (simp [*]; done)), (by first | rfl | (simp; done) | (simp [*]; done)), H', ⟨Nat.le_refl _⟩, by repeat (first | exact Drawn0.refl _ | apply Drawn0.step)⟩
 case round =>
  clear H'
  obtain ⟨x3_1, x4_1, rfl, rfl, HA, HK1, ⟨m1, rfl⟩⟩ := hrel
  cases gk with
  | zero => exact absurd HA.out (by simp [storagebarterref02_Sum.l0])
  | succ k1 =>
   have H := HA.out
   clear HA
   simp only [storagebarterref02_Sum.l0] at H
   by_cases c2 : x4_1 < (a0.size : Int)
   ·rw [if_pos c2] at H
    have c2b0 : decide (x4_1 < (a0.size : Int)) = true := decide_eq_true c2
    clear c2
    by_cases c3 : 0 ≤ x4_1
    ·rw [if_pos c3] at H
     have c3b0 : decide (0 ≤ x4_1) = true := decide_eq_true c3
     clear c3
     have H' := Aside0.mk H
     clear H
     have p4 : 0 ≤ (x4_1 : Int) := of_decide_eq_true (by first | (with_reducible assumption) | assumption)
     have q4 : x4_1 < (a0.size : Int) := of_decide_eq_true (by first | (with_reducible assumption) | assumption)
     have hx4 := bt_at a0 x4_1
     replace p4 := eq_true p4
     replace q4 := eq_true q4
     go_wp2
     go_roundg k1
     case measure => have := HK1.out; omega
     case rel => exact ⟨(Int.tmod (wrap64 ((wrap64 ((wrap64 (x3_1 * 1000003)) + (wrap64 (bt a0 x4_1)))) + 1)) 2147483647), (wrap64 (x4_1 + 1)), (by first | rfl | (simp; done) | (simp [*]; done)), (by first | rfl | (simp; done) | (simp [*]; done)), H', ⟨by have := HK1.out; omega⟩, by repeat (first | exact Drawn0.refl _ | apply Drawn0.step)⟩
    ·rw [if_neg c3] at H
     exact absurd H (by simp)
   ·rw [if_neg c2] at H
    have c2b0 : decide (x4_1 < (a0.size : Int)) = false := decide_eq_false c2
    clear c2
    obtain rfl := Option.some.inj H
    go_wp2
    go_ret
    exact ⟨by first | rfl | (simp; done) | (simp [*]; done), by repeat (first | exact Drawn0.refl _ | apply Drawn0.step)⟩
end Go.Proofs.YtcalkhlchjjalaaDoor.Q

namespace Go.Proofs.YtcalkhlchjjalaaDoor.Q
open Go.RowKit Go.Proofs.YtcalkhlchjjalaaDoorW.PrintWords Go.Proofs.YtcalkhlchjjalaaDoorW.PrintLast Go.Proofs.YtcalkhlchjjalaaDoorW.PrintMore Go.Proofs.YtcalkhlchjjalaaDoor.Gput
attribute [local go_sem] max2_int min2_int max_two min_two max_three min_three max_four min_four   -- for this text's walks alone
set_option linter.unusedVariables false
set_option linter.unusedSimpArgs false
def storagebarterref01_PutInt.l0 : Nat → ByteArray → Int → Option (ByteArray)
 | 0, _, _ => none
 | k + 1, x0, x5 => if x5 > 127 then ((some (([Go.bits .or .u8 ((x5) % 256) 128] : List Int) : List Int)).bind fun y137 => (if x0.size + (strOfNums y137).size ≤ 9223372036854775807 then (storagebarterref01_PutInt.l0 k (x0 ++ (strOfNums y137)) (x5 / 128)) else (none))) else ((some (([(x5) % 256] : List Int) : List Int)).bind fun y140 => (if x0.size + (strOfNums y140).size ≤ 9223372036854775807 then (some (x0 ++ (strOfNums y140))) else (none)))
def storagebarterref01_PutInt.f (k : Nat) (a0 : ByteArray) (a1 : Int) : Option (ByteArray) := storagebarterref01_PutInt.l0 k a0 (Go.bits .xor .u64 (IntKind.u64.wrap ((IntKind.u64.wrap (a1)) * 2)) (IntKind.u64.wrap (a1 / 9223372036854775808)))
theorem storagebarterref01_PutInt.mono_l : ∀ k, (∀ y0 y1, LeO (storagebarterref01_PutInt.l0 k y0 y1) (storagebarterref01_PutInt.l0 (k + 1) y0 y1))
 | 0 => fun _ _ r h => by simp [storagebarterref01_PutInt.l0] at h
 | k + 1 => by
  have ih0 := storagebarterref01_PutInt.mono_l k
  ·intro y0 y1
   unfold storagebarterref01_PutInt.l0
   repeat' first
   | (with_reducible exact ih0 _ _)
   | (with_reducible exact LeO.refl _)
   | (with_reducible exact LeO.none _)
   | (with_reducible refine LeO.ite ?_ ?_)
   | (with_reducible refine LeO.bind ?_ (fun _ => ?_))
   | exact ih0 _ _
   | exact LeO.none _
   | refine LeO.ite ?_ ?_
   | refine LeO.bind ?_ (fun _ => ?_)
theorem storagebarterref01_PutInt.mono : ∀ a0 a1 k, LeO (storagebarterref01_PutInt.f k a0 a1) (storagebarterref01_PutInt.f (k + 1) a0 a1) := by
 intro a0 a1 k
 have ih0 := storagebarterref01_PutInt.mono_l k
 unfold storagebarterref01_PutInt.f
 repeat' first
  | (with_reducible exact ih0 _ _)
  | (with_reducible exact LeO.refl _)
  | (with_reducible exact LeO.none _)
  | (with_reducible refine LeO.ite ?_ ?_)
  | (with_reducible refine LeO.bind ?_ (fun _ => ?_))
  | exact ih0 _ _
  | exact LeO.none _
  | refine LeO.ite ?_ ?_
  | refine LeO.bind ?_ (fun _ => ?_)
set_option maxHeartbeats 8000000 in
set_option maxRecDepth 100000 in
theorem storagebarterref01_PutInt.calls (k : Nat) (a0 : ByteArray) (a1 : Int) (r : ByteArray) (w : World) (h : storagebarterref01_PutInt.f k a0 a1 = some r) :
 Calls Tryd.prog 45 #[.string a0, .int .i64 a1] w fun e w' => e = .returned (.string r) ∧ Below w.heap.size w w' := by
 have HB := Aside0.mk (Below.refl w.heap.size w)
 have H : (storagebarterref01_PutInt.l0 k a0 (Go.bits .xor .u64 (IntKind.u64.wrap ((IntKind.u64.wrap (a1)) * 2)) (IntKind.u64.wrap (a1 / 9223372036854775808)))) = some r := h
 clear h
 have H' := Aside0.mk H
 clear H
 go_enter Tryd.func45, Tryd.ntmps45
 go_wp2
 go_loopg [0, 5] k (fun kq v0 v5 w' => ∃ (x0_1 : ByteArray) (x5_1 : Int), v0 = .string x0_1 ∧ v5 = .int .u64 x5_1 ∧ Aside0 (storagebarterref01_PutInt.l0 kq x0_1 x5_1 = some r) ∧ Aside0 (kq ≤ k) ∧ Aside0 (Below w.heap.size w w'))
 case atStart => exact ⟨(a0), (Go.bits .xor .u64 (IntKind.u64.wrap ((IntKind.u64.wrap (a1)) * 2)) (IntKind.u64.wrap (a1 / 9223372036854775808))), (by first | rfl | (simp; done) | (simp [*]; done)), (by first | rfl | (simp; done) | (simp [*]; done)), H', ⟨Nat.le_refl _⟩, ⟨by repeat (first | (with_reducible first | exact HB.out | apply below_alloc | apply pw_below_drewN | apply below_drew1) | exact HB.out)⟩⟩
 case round =>
  clear H'
  try clear p2
  obtain ⟨x0_1, x5_1, rfl, rfl, HA, HK1, HB⟩ := hrel
  cases gk with
  | zero => exact absurd HA.out (by simp [storagebarterref01_PutInt.l0])
  | succ k1 =>
   have H := HA.out
   clear HA
   simp only [storagebarterref01_PutInt.l0] at H
   by_cases c3 : x5_1 > 127
   ·rw [if_pos c3] at H
    have c3b0 : decide (127 < x5_1) = true := decide_eq_true c3
    clear c3
    obtain ⟨y137, hy137⟩ : ∃ y_ : List Int, y_ = (([Go.bits .or .u8 ((x5_1) % 256) 128] : List Int)) := ⟨_, rfl⟩
    replace H : (if x0_1.size + (strOfNums y137).size ≤ 9223372036854775807 then (storagebarterref01_PutInt.l0 k1 (x0_1 ++ (strOfNums y137)) (x5_1 / 128)) else (none)) = some r := by first | (rw [hy137]; with_reducible exact H) | (have H2_ := (Option.bind_some _ _).symm.trans H; rw [hy137]; with_reducible exact H2_) | (have H2_ := (Option.bind_some _ _).symm.trans H; with_reducible exact H2_) | with_reducible exact H | (rw [hy137]; exact H) | exact H
    have Ny137 := Aside0.mk hy137
    clear hy137
    by_cases c4 : x0_1.size + (strOfNums y137).size ≤ 9223372036854775807
    ·rw [if_pos c4] at H
     have c4b0 := eq_true c4
     have c4b1 : decide (x0_1.size + (strOfNums y137).size ≤ 9223372036854775807) = true := decide_eq_true c4
     try have c4b2 : (9223372036854775807 < x0_1.size + (strOfNums y137).size) = False := eq_false (Nat.not_lt.2 c4)
     have H' := Aside0.mk H
     clear H
     go_wp2_with (first | ((with_reducible refine gate_dst (N := 19) rfl ?_); refine Kd.R_lit (Kd.int .u8) _ 5 ?hg (N := 19) ?hd (xs := ([Go.bits .or .u8 ((x5_1) % 256) 128] : List Int)) (inner := [.int .u8 (Go.bits .or .u8 ((x5_1) % 256) 128)]) (ok := fun _ => True) (okp := fun _ => True) ?hr ?hp (fun _ hk => hk) trivial (Below.refl _ _) (Nat.le_refl _) (by simp) ?_; (case hd => rfl); (case hg => rfl); (case hr => first | (go_simp; done) | (go_simp; rfl)); (case hp => exact (Reps.one (show Kd.M (Kd.int .u8) _ _ _ (Go.bits .or .u8 ((x5_1) % 256) 128) [.int .u8 (Go.bits .or .u8 ((x5_1) % 256) 128)] from rfl) (Reps.none _ _))); intro v138 w5 ho6 hb hg_ hnew_; clear hg_ hnew_; (first | rw [← Ny137.out] at ho6 | (simp only [Int.reduceToNat] at ho6; rw [← Ny137.out] at ho6)); have n0_ := Aside0.mk (Kd.R_lower ho6 (below_size (by repeat (first | (with_reducible first | exact HB.out | apply below_alloc | apply pw_below_drewN | apply below_drew1) | exact HB.out)))); have n1_ := Aside0.mk (below_step (by repeat (first | (with_reducible first | exact HB.out | apply below_alloc | apply pw_below_drewN | apply below_drew1) | exact HB.out)) hb); clear HB; have HO139 := n0_; have HB := n1_; clear n0_ n1_; clear hb ho6; have hcv7 := own_string (P := Tryd.prog) Tryd.underlying79 Tryd.underlying5 Tryd.underlying9 (Kd.own_of_R HO139.out)))
     go_roundg k1
     case measure => have := HK1.out; omega
     case rel => exact ⟨(x0_1 ++ (strOfNums y137)), (x5_1 / 128), (by first | rfl | (simp; done) | (simp [*]; done)), (by first | rfl | (simp; done) | (simp [*]; done)), H', ⟨by have := HK1.out; omega⟩, ⟨by repeat (first | (with_reducible first | exact HB.out | apply below_alloc | apply pw_below_drewN | apply below_drew1) | exact HB.out)⟩⟩
    ·rw [if_neg c4] at H
     exact absurd H (by simp)
   ·rw [if_neg c3] at H
    have c3b0 : decide (127 < x5_1) = false := decide_eq_false c3
    clear c3
    obtain ⟨y140, hy140⟩ : ∃ y_ : List Int, y_ = (([(x5_1) % 256] : List Int)) := ⟨_, rfl⟩
    replace H : (if x0_1.size + (strOfNums y140).size ≤ 9223372036854775807 then (some (x0_1 ++ (strOfNums y140))) else (none)) = some r := by first | (rw [hy140]; with_reducible exact H) | (have H2_ := (Option.bind_some _ _).symm.trans H; rw [hy140]; with_reducible exact H2_) | (have H2_ := (Option.bind_some _ _).symm.trans H; with_reducible exact H2_) | with_reducible exact H | (rw [hy140]; exact H) | exact H
    have Ny140 := Aside0.mk hy140
    clear hy140
    by_cases c8 : x0_1.size + (strOfNums y140).size ≤ 9223372036854775807
    ·rw [if_pos c8] at H
     have c8b0 := eq_true c8
     have c8b1 : decide (x0_1.size + (strOfNums y140).size ≤ 9223372036854775807) = true := decide_eq_true c8
     try have c8b2 : (9223372036854775807 < x0_1.size + (strOfNums y140).size) = False := eq_false (Nat.not_lt.2 c8)
     obtain rfl := Option.some.inj H
     go_wp2_with (first | ((with_reducible refine gate_dst (N := 27) rfl ?_); refine Kd.R_lit (Kd.int .u8) _ 5 ?hg (N := 27) ?hd (xs := ([(x5_1) % 256] : List Int)) (inner := [.int .u8 ((x5_1) % 256)]) (ok := fun _ => True) (okp := fun _ => True) ?hr ?hp (fun _ hk => hk) trivial (Below.refl _ _) (Nat.le_refl _) (by simp) ?_; (case hd => rfl); (case hg => rfl); (case hr => first | (go_simp; done) | (go_simp; rfl)); (case hp => exact (Reps.one (show Kd.M (Kd.int .u8) _ _ _ ((x5_1) % 256) [.int .u8 ((x5_1) % 256)] from rfl) (Reps.none _ _))); intro v141 w9 ho10 hb hg_ hnew_; clear hg_ hnew_; (first | rw [← Ny140.out] at ho10 | (simp only [Int.reduceToNat] at ho10; rw [← Ny140.out] at ho10)); have n0_ := Aside0.mk (Kd.R_lower ho10 (below_size (by repeat (first | (with_reducible first | exact HB.out | apply below_alloc | apply pw_below_drewN | apply below_drew1) | exact HB.out)))); have n1_ := Aside0.mk (below_step (by repeat (first | (with_reducible first | exact HB.out | apply below_alloc | apply pw_below_drewN | apply below_drew1) | exact HB.out)) hb); clear HB; have HO142 := n0_; have HB := n1_; clear n0_ n1_; clear hb ho10; have hcv11 := own_string (P := Tryd.prog) Tryd.underlying79 Tryd.underlying5 Tryd.underlying9 (Kd.own_of_R HO142.out)))
     go_ret
     exact ⟨by first | rfl | (simp [errW_none, errW_some] <;> rfl) | (simp [*, errW_none, errW_some] <;> rfl), by repeat (first | (with_reducible first | exact HB.out | apply below_alloc | apply pw_below_drewN | apply below_drew1) | exact HB.out)⟩
    ·rw [if_neg c8] at H
     exact absurd H (by simp)
end Go.Proofs.YtcalkhlchjjalaaDoor.Q

namespace Go.Proofs.YtcalkhlchjjalaaDoor.Q
open Go.RowKit Go.Proofs.YtcalkhlchjjalaaDoorW.PrintWords Go.Proofs.YtcalkhlchjjalaaDoorW.PrintLast Go.Proofs.YtcalkhlchjjalaaDoorW.PrintMore Go.Proofs.YtcalkhlchjjalaaDoor.Gput
attribute [local go_sem] max2_int min2_int max_two min_two max_three min_three max_four min_four   -- for this text's walks alone
set_option linter.unusedVariables false
set_option linter.unusedSimpArgs false
def storagebarterref14_number.f (a0 : Int) : Option (Bool) := if a0 ≥ 1 then (some (decide (a0 < 2147483647))) else (some false)
set_option maxHeartbeats 8000000 in
set_option maxRecDepth 100000 in
theorem storagebarterref14_number.calls (a0 : Int) (r : Bool) (w : World) (h : storagebarterref14_number.f a0 = some r) :
 Calls Tryd.prog 46 #[.int .i64 a0] w fun e w' => e = .returned (.bool r) ∧ Drawn0 w w' := by
 have H : (if a0 ≥ 1 then (some (decide (a0 < 2147483647))) else (some false)) = some r := h
 clear h
 by_cases c2 : a0 ≥ 1
 ·rw [if_pos c2] at H
  have c2b0 : decide (1 ≤ a0) = true := decide_eq_true c2
  clear c2
  obtain rfl := Option.some.inj H
  go_enter Tryd.func46, Tryd.ntmps46
  go_wp2
  go_ret
  exact ⟨by first | rfl | (simp; done) | (simp [*]; done), by repeat (first | exact Drawn0.refl _ | apply Drawn0.step)⟩
 ·rw [if_neg c2] at H
  have c2b0 : decide (1 ≤ a0) = false := decide_eq_false c2
  clear c2
  obtain rfl := Option.some.inj H
  go_enter Tryd.func46, Tryd.ntmps46
  go_wp2
  go_ret
  exact ⟨by first | rfl | (simp; done) | (simp [*]; done), by repeat (first | exact Drawn0.refl _ | apply Drawn0.step)⟩
end Go.Proofs.YtcalkhlchjjalaaDoor.Q
