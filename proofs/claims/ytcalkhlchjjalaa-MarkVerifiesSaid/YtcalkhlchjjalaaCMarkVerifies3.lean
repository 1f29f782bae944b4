/- MarkVerifiesSaid -/
import Derived.Test.YtcalkhlchjjalaaCMarkVerifies2
import Derived.Test.YtcalkhlchjjalaaCMarkVerifies1
import Derived.Test.YtcalkhlchjjalaaProg
import Derived.OpenShut
import Derived.Laws.BitsLemmas
import Derived.Below
import Derived.Deep.Draws
import Derived.Deep.AppendLies
import Derived.Maps.AppendAt
import Derived.OwnWalk
import Derived.Laws.BytesArg
import Derived.Laws.MakeOwn
import Derived.Laws.OwnMore
import Derived.Deep.OwnRows
import Derived.Tactics
import Derived.Lib.ConvBytes
import Derived.Laws.Slices
import Derived.WalkKit
import Derived.KernelRfl
import Derived.RowKit3
import Derived.Deep.LoopGhost
import Derived.Deep.QuietTactic
import Derived.BigQuiet
import Derived.WideLaws
import Derived.Deep.DeepCutAuto
import Derived.Deep.CutBlock
import Derived.Deep.RegionHeld3
import Derived.Laws.Rows
import Derived.Lib.AppendStr
import Derived.ArgAppend
import Derived.Laws.IdiomCopy
import Derived.OrdersHeld
import Derived.RowKit
import Derived.Test.YtcalkhlchjjalaaWWords
import Derived.Test.YtcalkhlchjjalaaWLast
import Derived.Test.YtcalkhlchjjalaaWTab
import Derived.Test.YtcalkhlchjjalaaWFour
import Derived.Test.YtcalkhlchjjalaaWQPut
import Derived.Test.YtcalkhlchjjalaaWApart
import Derived.Test.YtcalkhlchjjalaaWArr
import Derived.Test.YtcalkhlchjjalaaWZeros
import Derived.Test.YtcalkhlchjjalaaWFoot
import Derived.Test.YtcalkhlchjjalaaWKept
import Derived.Test.YtcalkhlchjjalaaWShare
import Derived.Test.YtcalkhlchjjalaaWN
import Derived.Test.YtcalkhlchjjalaaWFootNe
import Derived.Test.YtcalkhlchjjalaaWAt
import Derived.Test.YtcalkhlchjjalaaWEqStruct
import Derived.Test.YtcalkhlchjjalaaWRepsOne
import Derived.Test.YtcalkhlchjjalaaWInv
import Derived.Test.YtcalkhlchjjalaaWInvWords
import Derived.Test.YtcalkhlchjjalaaWGuard
import Derived.Test.YtcalkhlchjjalaaWNEv
import Derived.Test.YtcalkhlchjjalaaWMore
import Derived.Maps.OwnOps
import Derived.Carry
import Derived.Maps.Views
import Derived.WalkArith
import Derived.Lib.Hide
import Derived.Shelf.Abstract
import Derived.Test.YtcalkhlchjjalaaRows
import Derived.ProofKit
import Derived.ShutString
import Derived.ChangeOld
import Derived.SizedLaws
import Derived.Test.YtcalkhlchjjalaaWSized
/- The bytes of numbers: 'wire.put', whose loop ranges over the function value that 'groups' hands back; 'PutInt', 'PutList'. -/
namespace Go.Proofs.Ytcalkhlchjjalaa.Gput
open Go Go.RowKit Go.Shelf Go.Proofs.Ytcalkhlchjjalaa.Gb Go.Proofs.Ytcalkhlchjjalaa.Gm
attribute [local go_sem] Oper.semAt_some
set_option linter.unusedVariables false

theorem groups_in (F : Fence) (n : Nat) (hF : F.fn 30) (hro : F.round = none) (u : Int) (w : World) :
    CallsIn F n Try.prog 30 #[.int .u64 u] w fun e w' => e = .returned (.func (.func 31) #[] #[.pointer (some ⟨w.heap.size, 0, none⟩)]) ∧ w' = w.alloc (.cells #[.int .u64 u] 59) := by
  refine callsIn_of_wp Try.func30 rfl hF ?_ hro
  simp only [Try.ntmps30, List.size_toArray, List.length_cons, List.length_nil, Nat.reduceAdd, Nat.reduceSub, Array.replicate_succ, Array.replicate_zero, List.push_toArray, List.append_toArray, List.nil_append, List.cons_append]
  gi_wp2
  go_ret
  exact ⟨rfl, rfl⟩

theorem or128_all : ∀ n : Nat, n < 256 → n ||| 128 = n % 128 + 128 := by decide +kernel

theorem or128 (u : Nat) : bits .or .u8 ((u : Int) % 256) 128 = ((u % 128 + 128 : Nat) : Int) := by
  have h := (bits_nat .u8 8 (by decide) wraps_u8 (u % 256) 128 (by omega) (by decide)).2
  rw [or128_all _ (by omega)] at h
  have e : ((u : Int) % 256) = ((u % 256 : Nat) : Int) := by omega
  rw [e]
  refine h.trans ?_
  omega

theorem enc8_ofNat (n : Nat) (h : n < 256) : enc8 (UInt8.ofNat n) = .int .u8 (n : Int) := by
  unfold enc8
  rw [UInt8.toNat_ofNat_of_lt' (by simpa using h)]

/-- What is left, read off the cell. -/
def left8 (B : Nat) (w : World) : Nat := match w.cell? ⟨B, 0, none⟩ with
  | some (.int _ n) => n.toNat
  | _ => 0

set_option maxRecDepth 100000 in
set_option maxHeartbeats 1000000 in
theorem groups1_seq (F : Fence) (n : Nat) (hF : F.fn 31) (hro : F.round = none) (hn : 1 ≤ n) (Bu u : Nat) (hu : u < 18446744073709551616) :
    SeqCell F n Try.prog 31 #[.pointer (some ⟨Bu, 0, none⟩)] (fun x => #[enc8 x]) Bu 59 (.int .u64 u) (grp u) := by
  intro l J W hB hA hset hY h0
  refine callsIn_of_wp Try.func31 rfl hF ?_ hro
  simp only [Try.ntmps31, List.size_toArray, List.length_cons, List.length_nil, Nat.reduceAdd, Nat.reduceSub, Array.replicate_succ, Array.replicate_zero, List.push_toArray, List.append_toArray, List.nil_append, List.cons_append]
  gi_wp2
  gi_loopw [] (fun wr => ∃ (pre : List UInt8) (u' : Nat), grp u = pre ++ grp u' ∧ u' < 18446744073709551616 ∧ Boxed wr Bu 59 (.int .u64 u') ∧ J pre wr)
    (fun wr => left8 Bu wr)
  case atStart =>
    exact ⟨[], u, rfl, hu, hB, h0⟩
  case round =>
    obtain ⟨pre, u', hg, hu', hb, hj⟩ := hrel
    have hc := hb.cell
    have hf := hb.frozen
    have hlen : pre.length < (grp u).length := by
      rw [hg]; have : 0 < (grp u').length := by rw [grp]; split <;> simp
      simp; omega
    by_cases h127 : 127 < u'
    · obtain ⟨fn, tmps, assign, body, hy, hR⟩ := hY pre (UInt8.ofNat (u' % 128 + 128)) wr hj hlen
      rw [enc8_ofNat _ (by omega), ← or128] at hy
      gi_wp2
      refine hR.mono ?_
      rintro e W3 ⟨rfl, hJ3, hk3⟩
      have hb3 := hk3 _ hb
      have hc3 := hb3.cell
      have hf3 := hb3.frozen
      gi_wp2
      go_roundw
      case rel =>
        refine ⟨pre ++ [UInt8.ofNat (u' % 128 + 128)], u' / 128, by rw [hg, grp_more h127]; simp, by omega, hb3.set _, hset _ _ _ _ hb3 hJ3⟩
      case measure =>
        have e1 : left8 Bu wr = u' := by unfold left8; rw [hc]; simp
        have e2 : ∀ v, left8 Bu (W3.setCell ⟨Bu, 0, none⟩ (.int .u64 v)) = v.toNat := fun v => by unfold left8; rw [(hb3.set _).cell]
        rw [e1, e2]
        omega
    · obtain ⟨fn, tmps, assign, body, hy, hR⟩ := hY pre (UInt8.ofNat u') wr hj hlen
      rw [enc8_ofNat _ (by omega)] at hy
      have h256 : ((u' : Int) % 256) = u' := by omega
      gi_wp2
      refine hR.mono ?_
      rintro e W3 ⟨rfl, hJ3, hk3⟩
      gi_wp2
      go_end0
      exact ⟨⟨_, rfl⟩, by rw [hg, grp_last h127]; exact hJ3⟩

theorem zig_lt (n : Int) (h : (Lit.int .i64 n).wf = true) : zig n < 18446744073709551616 := by
  have := bounds_i64 h
  unfold zig
  split <;> omega

theorem bits_xor64 (a b : Nat) : bits .xor .u64 (a : Int) (b : Int) = IntKind.u64.wrap ((BitVec.ofNat 64 a ^^^ BitVec.ofNat 64 b).toNat : Int) := by
  unfold bits
  simp only [BitVec.ofInt_natCast]
  rfl

theorem zig_bits (m : Int) (h : (Lit.int .i64 m).wf = true) : bits .xor .u64 (IntKind.u64.wrap (IntKind.u64.wrap m * 2)) (IntKind.u64.wrap (m / 9223372036854775808)) = (zig m : Int) := by
  have hb := bounds_i64 h
  have wr : ∀ x : Int, IntKind.u64.wrap x = x % 18446744073709551616 := fun x => by simp [IntKind.wrap, IntKind.bits, IntKind.signed]
  unfold zig
  by_cases h0 : 0 ≤ m
  · have e1 : IntKind.u64.wrap (IntKind.u64.wrap m * 2) = ((2 * m).toNat : Int) := by rw [wr, wr]; omega
    have e2 : IntKind.u64.wrap (m / 9223372036854775808) = ((0 : Nat) : Int) := by rw [wr]; omega
    rw [e1, e2, if_pos h0]
    have hlt : (2 * m).toNat < 2 ^ 64 := by simp; omega
    rw [bits_xor64, BitVec.toNat_xor, BitVec.toNat_ofNat, BitVec.toNat_ofNat, Nat.mod_eq_of_lt hlt, Nat.zero_mod, Nat.xor_zero, wr]
    omega
  · have e1 : IntKind.u64.wrap (IntKind.u64.wrap m * 2) = ((2 * m + 18446744073709551616).toNat : Int) := by rw [wr, wr]; omega
    have e2 : IntKind.u64.wrap (m / 9223372036854775808) = ((18446744073709551615 : Nat) : Int) := by rw [wr]; omega
    rw [e1, e2, if_neg h0]
    have hlt : (2 * m + 18446744073709551616).toNat < 2 ^ 64 := by simp; omega
    have hn : (BitVec.ofNat 64 18446744073709551615) = BitVec.allOnes 64 := by decide
    rw [bits_xor64, hn, BitVec.xor_allOnes, BitVec.toNat_not, BitVec.toNat_ofNat, Nat.mod_eq_of_lt hlt, wr]
    omega

theorem info_byte : (Try.prog.info? 5).map (fun i => (i.zero, i.size, i.bytes)) = some (some (.int .u8 0), 1, 1) := by kernel_rfl

set_option maxRecDepth 100000 in
set_option maxHeartbeats 2000000 in
theorem put_in (F : Fence) (n : Nat) (h46 : F.fn 29) (h54 : F.fn 30) (h57 : F.fn 31) (hro : F.round = none) (hn : 3 ≤ n)
    (base : Nat) (v : Value) (xs : List UInt8) (m : Int) (hm : (Lit.int .i64 m).wf = true) (w : World) (hrow : Own8 w base 5 v xs) (hb : base ≤ w.heap.size) (hlen : xs.length + 10 ≤ 140737488355328) (u : Nat) (hu : zig m = u) :
    CallsIn F n Try.prog 29 #[v, .int .i64 m] w fun e W' => ∃ v', e = .returned v' ∧ Own8 W' base 5 v' (xs ++ grp u) ∧ Below base w W' := by
  have h1 : 1 ≤ n := by omega
  obtain ⟨i0, hi, hz0, hz1, hz2⟩ := info_parts info_byte
  refine callsIn_of_wp_marks Try.func29 rfl h46 ?_ hro
  simp only [Try.ntmps29, List.size_toArray, List.length_cons, List.length_nil, Nat.reduceAdd, Nat.reduceSub, Array.replicate_succ, Array.replicate_zero, List.push_toArray, List.append_toArray, List.nil_append, List.cons_append]
  obtain ⟨g, cap, cur, fz, rfl, hrest⟩ := id hrow
  gi_wp2_with (gi_at_call 30; refine (groups_in F (n - 1) h54 hro _ _).mono ?_; rintro e w' ⟨rfl, rfl⟩)
  have hz := zig_bits m hm
  have hzl := zig_lt m hm
  rw [hu] at hz hzl
  rw [hz]
  clear hz hu
  have hrow' : Own8 w base 5 (.slice (some ⟨g, 0, none⟩) xs.length cap) xs := hrow
  have bB := Boxed.new w 43 (.slice (some ⟨g, 0, none⟩) xs.length cap)
  have bU := Boxed.new (w.alloc (.cells #[.slice (some ⟨g, 0, none⟩) xs.length cap] 43)) 59 (.int .u64 u)
  rw [World.size_alloc] at bU
  have hB0 : Below base w ((w.alloc (.cells #[.slice (some ⟨g, 0, none⟩) xs.length cap] 43)).alloc (.cells #[.int .u64 u] 59)) := ((Below.refl _ w).alloc hb _).alloc (by simp; omega) _
  have hgl := grp_len10 u hzl
  refine rangeFunc_cell hro h1 (gf := 31) (lb := #[.pointer (some ⟨w.heap.size + 1, 0, none⟩)]) rfl h57 (enters_of Try.func31 (by kernel_rfl) rfl)
    (groups1_seq F (n - 1) h57 hro (by omega) (w.heap.size + 1) u hzl) bU (fun _ => rfl)
    (fun pre W => (∃ v, Boxed W w.heap.size 43 v ∧ Own8 W base 5 v (xs ++ pre)) ∧ Below base w W)
    (OwnFrom.and (Own.from (holds8_own base w.heap.size 43 5 (fun pre => xs ++ pre)) _) (ownFrom_below hb (by simp; omega)))
    (fun s W v v' hbu hs => ⟨by
      obtain ⟨⟨q, hq, hr⟩, _⟩ := hs
      exact ⟨q, hq.kept (grownBy_setCell' W _ v') (by simp), hr.setCell hbu (by decide) v'⟩, hs.2.setCell (p := ⟨w.heap.size + 1, 0, none⟩) (show base ≤ w.heap.size + 1 by omega) _⟩)
    ⟨⟨_, bB.alloc _, by rw [List.append_nil]; exact (hrow'.alloc _).alloc _⟩, hB0⟩
    (fun x => { tmps := #[.slice (some ⟨g, 0, none⟩) xs.length cap, .int .i64 m, .pointer (some ⟨w.heap.size, 0, none⟩), undef, .slice none 0 0, .int .u8 (x.toNat : Int), .int .i64 m, .int .u64 (IntKind.u64.wrap m), .int .u64 (IntKind.u64.wrap (IntKind.u64.wrap m * 2)), .int .i64 m, .int .i64 (m / 9223372036854775808), .int .u64 (IntKind.u64.wrap (m / 9223372036854775808)), .int .u64 u, .func (.func 31) #[] #[.pointer (some ⟨w.heap.size + 1, 0, none⟩)], .int .u8 (x.toNat : Int), undef, undef, undef, undef, undef], defers := [] }) ?assign ?body ?done
  case assign =>
    intro l x W K hK
    gi_wp2
    exact hK
  case body =>
    rintro l pre x W ⟨⟨v, hv, hrow⟩, hB⟩ hlt
    have hc := hv.cell
    have hpl : (xs ++ pre).length < xs.length + 10 := by rw [List.length_append]; omega
    gi_wp2_with (gi_at_builtin; refine wpListIn_append8 _ rfl _ _ 43 rfl base 5 i0 Try.underlying43 hi hz0 hz1 hz2 _ _ rfl (hrow.alloc _) ⟨W.heap.size, 0, none⟩ 1 x rfl (by rw [show (⟨W.heap.size, 0, none⟩ : Addr).add 0 = ⟨W.heap.size, 0, none⟩ from rfl]; exact (Boxed.new W 5 (enc8 x)).cell) (by omega) (by have := hB.size; simp; omega) ?_; intro v' w1 hown' hgrow; obtain ⟨hv1, hv2, hr2, hk2, hb2⟩ := Boxed.appended8 hv (by decide) hrow (Nat.le_trans hb hB.size) hb hown' hgrow; have hq2 := fun u2 (hu2 : Boxed W (w.heap.size + 1) 59 u2) => Boxed.beside8 (v' := v') hu2 (by decide) (by omega) hrow hgrow hv1; obtain ⟨g', cap', cur', fz', rfl, hrest'⟩ := id hown'; have hc1 := hv1.cell; have hf1 := hv1.frozen)
    have el : (xs ++ pre ++ [x]).length = xs.length + (pre.length + 1) := by simp
    rw [el] at hk2 hv2 hr2 hb2
    simp only [el] at hq2
    exact ⟨hk2, hq2, ⟨_, hv2, by rw [← List.append_assoc]; exact hr2⟩, hB.trans hb2⟩
  case done =>
    rintro D W hD ⟨⟨v, hv, hrow⟩, hB⟩ hK
    have hc := hv.cell
    gi_wp2
    refine ⟨by simp, .inl ⟨_, _, rfl, run_takeDeferred hK, ?_⟩⟩
    exact ⟨_, results_tmp rfl _ _ _, v, rfl, hrow.putObj _ hK rfl, hB.trans (belowK_b (w := w) hb W D _ _ (by simp at hD; omega) hK rfl rfl)⟩

theorem put_any (base : Nat) (v : Value) (xs : List UInt8) (m : Int) (hm : (Lit.int .i64 m).wf = true) (w : World) (hrow : Own8 w base 5 v xs) (hb : base ≤ w.heap.size) (hlen : xs.length + 10 ≤ 140737488355328) :
    Calls Try.prog 29 #[v, .int .i64 m] w fun e W' => ∃ v', e = .returned v' ∧ Own8 W' base 5 v' (xs ++ putI m) ∧ Below base w W' :=
  callsIn_wide.1 (put_in _ 3 trivial trivial trivial rfl (by omega) base v xs m hm w hrow hb hlen (zig m) rfl)

def wire_PutInt.f (a0 : ByteArray) (a1 : Int) : Option ByteArray :=
  if a0.size + 10 ≤ 140737488355328 ∧ (Lit.int .i64 a1).wf = true then some ⟨(a0.data.toList ++ putI a1).toArray⟩ else none

set_option maxHeartbeats 2000000 in
theorem wire_PutInt.calls (a0 : ByteArray) (a1 : Int) (r : ByteArray) (w : World) (h : wire_PutInt.f a0 a1 = some r) :
    Calls Try.prog 28 #[.string a0, .int .i64 a1] w fun e w' => e = .returned (.string r) ∧ Below w.heap.size w w' := by
  unfold wire_PutInt.f at h
  split at h
  case isFalse => cases h
  case isTrue hc =>
  obtain ⟨hs, hm⟩ := hc
  obtain rfl := Option.some.inj h
  clear h
  have hsm : a0.size ≤ maxLen := by unfold maxLen; omega
  have hcv := Lib.run_convert_string_bytes (P := Try.prog) w 9 43 5 a0 Try.underlying9 Try.underlying43 Try.underlying5
  have hown := own8_bytes w w.heap.size 5 a0 (Nat.le_refl _) hsm
  have hbw : Below w.heap.size w (Lib.bytesWorld w 5 a0) := (Below.refl _ w).grown (bytesWorld_grown w 5 a0) (Nat.le_refl _) (fun k e => by cases e)
  have hl : a0.data.toList.length + 10 ≤ 140737488355328 := by rw [Array.length_toList]; exact hs
  go_enter Try.func28, Try.ntmps28
  go_wp2_with (go_at_call 29; refine (put_any w.heap.size _ _ a1 hm _ hown (by rw [Lib.bytesWorld_size]; omega) hl).mono ?_; rintro e W1 ⟨v1, rfl, ho1, hb1⟩; have hst := run_string8 (P := Try.prog) W1 w.heap.size 43 9 5 Try.underlying43 Try.underlying5 Try.underlying9 v1 _ ho1)
  go_ret
  exact ⟨rfl, hbw.trans hb1⟩

end Go.Proofs.Ytcalkhlchjjalaa.Gput

namespace Go.Proofs.Ytcalkhlchjjalaa.Q
open Go.RowKit Go.Proofs.YtcalkhlchjjalaaW.PrintWords Go.Proofs.YtcalkhlchjjalaaW.PrintLast Go.Proofs.YtcalkhlchjjalaaW.PrintMore Go.Proofs.Ytcalkhlchjjalaa.Gput
attribute [local go_sem] max2_int min2_int max_two min_two max_three min_three max_four min_four   -- for this text's walks alone
set_option linter.unusedVariables false
set_option linter.unusedSimpArgs false



def errW : Option Int → Value
  | none => .nilIface
  | some c => .iface 0 (.int .i64 c)
theorem errW_none : errW none = .nilIface := rfl
theorem errW_some (c : Int) : errW (some c) = .iface 0 (.int .i64 c) := rfl

theorem info5 : (Try.prog.info? 5).map (fun i => (i.zero, i.size, i.bytes)) = some (some (.int .u8 0), 1, 1) := by kernel_rfl
theorem info31 : (Try.prog.info? 31).map (fun i => (i.zero, i.size, i.bytes)) = some (some (.agg #[(.int .i64 0), (.int .i64 0)]), 2, 16) := by kernel_rfl
-- the values' own types
/-! #### struct type 31 -/
structure S31 where
  f0 : Int
  f1 : Int
def z31 : S31 := ⟨(0 : Int), (0 : Int)⟩
def k31 : Kd S31 := Kd.iso (Kd.pair (Kd.int .i64) (Kd.int .i64)) (fun x : S31 => (x.f0, x.f1))
theorem k31_open {w : World} {x : S31} {cs : List Value} (h : k31.K w x cs) : cs = [.int .i64 x.f0, .int .i64 x.f1] := by
  obtain ⟨_, _, rfl, rfl, rfl⟩ := h
  exact rfl
theorem k31_openM {w : World} {base : Nat} {ok : Nat → Prop} {x : S31} {cs : List Value} (h : k31.M w base ok x cs) : cs = [.int .i64 x.f0, .int .i64 x.f1] := by
  obtain ⟨_, _, rfl, rfl, rfl⟩ := h
  exact rfl
theorem k31_mk (w : World) (x : S31)  : k31.K w x [.int .i64 x.f0, .int .i64 x.f1] := ⟨[.int .i64 x.f0], [.int .i64 x.f1], rfl, rfl, rfl⟩
theorem k31_mkM (w : World) (base : Nat) (ok : Nat → Prop) (x : S31)  : k31.M w base ok x [.int .i64 x.f0, .int .i64 x.f1] := ⟨[.int .i64 x.f0], [.int .i64 x.f1], rfl, rfl, rfl⟩
def rd_T31 (xs : List S31) (i : Int) : S31 := xs.getD i.toNat z31
theorem at_T31 {w : World} {A : Option Addr} {n : Nat} {xs : List S31} (h : Kd.C k31 w A n xs) (i : Int) (h0 : 0 ≤ i) (h1 : i < n) : ∃ ad , A = some ad ∧ w.cell? (ad.add (i.toNat * 2)) = some (.int .i64 (rd_T31 xs i).f0) ∧ w.cell? ⟨(ad.add (i.toNat * 2)).block, (ad.add (i.toNat * 2)).off + 1, none⟩ = some (.int .i64 (rd_T31 xs i).f1) := by
  obtain ⟨ad, c, e, _, hK, hc0⟩ := Kd.C_get h z31 i h0 h1
  have hc : ∀ j u, c[j]? = some u → w.cell? (ad.add (i.toNat * 2 + j)) = some u := hc0
  obtain rfl := k31_open hK
  exact ⟨ad, e, hc 0 _ rfl, by rw [← add_field _ _ 1 (by omega)]; exact hc 1 _ rfl⟩

end Go.Proofs.Ytcalkhlchjjalaa.Q

namespace Go.Proofs.Ytcalkhlchjjalaa.Q
open Go.RowKit Go.Proofs.YtcalkhlchjjalaaW.PrintWords Go.Proofs.YtcalkhlchjjalaaW.PrintLast Go.Proofs.YtcalkhlchjjalaaW.PrintMore Go.Proofs.Ytcalkhlchjjalaa.Gput
attribute [local go_sem] max2_int min2_int max_two min_two max_three min_three max_four min_four   -- for this text's walks alone
set_option linter.unusedVariables false
set_option linter.unusedSimpArgs false

/-! ### digest_Sum: function 27 -/
def digest_Sum.l0 : Nat → ByteArray → Int → Int → Int → Option (Int)
  | 0, _, _, _, _ => none
  | k + 1, x0, x3, x6, x7 => if x7 < x6 then (if 0 ≤ x7 then (if x7 < (x0.size : Int) then (digest_Sum.l0 k x0 (Int.tmod (wrap64 ((wrap64 ((wrap64 (x3 * 1000003)) + (wrap64 (bt x0 x7)))) + 1)) 2147483647) x6 (wrap64 (x7 + 1))) else (none)) else (none)) else (some x3)
def digest_Sum.f (k : Nat) (a0 : ByteArray) : Option (Int) := digest_Sum.l0 k a0 1 (a0.size : Int) 0
theorem digest_Sum.mono_l : ∀ k, (∀ y0 y1 y2 y3, LeO (digest_Sum.l0 k y0 y1 y2 y3) (digest_Sum.l0 (k + 1) y0 y1 y2 y3))
  | 0 => fun _ _ _ _ r h => by simp [digest_Sum.l0] at h
  | k + 1 => by
    have ih0 := digest_Sum.mono_l k
    · intro y0 y1 y2 y3
      unfold digest_Sum.l0
      repeat' first
      | (with_reducible exact ih0 _ _ _ _)
      | (with_reducible exact LeO.refl _)
      | (with_reducible exact LeO.none _)
      | (with_reducible refine LeO.ite ?_ ?_)
      | (with_reducible refine LeO.bind ?_ (fun _ => ?_))
      | exact ih0 _ _ _ _
      | exact LeO.none _
      | refine LeO.ite ?_ ?_
      | refine LeO.bind ?_ (fun _ => ?_)
theorem digest_Sum.mono : ∀ a0 k, LeO (digest_Sum.f k a0) (digest_Sum.f (k + 1) a0) := by
  intro a0 k
  have ih0 := digest_Sum.mono_l k
  unfold digest_Sum.f
  repeat' first
      | (with_reducible exact ih0 _ _ _ _)
      | (with_reducible exact LeO.refl _)
      | (with_reducible exact LeO.none _)
      | (with_reducible refine LeO.ite ?_ ?_)
      | (with_reducible refine LeO.bind ?_ (fun _ => ?_))
      | exact ih0 _ _ _ _
      | exact LeO.none _
      | refine LeO.ite ?_ ?_
      | refine LeO.bind ?_ (fun _ => ?_)
set_option maxHeartbeats 8000000 in
set_option maxRecDepth 100000 in
theorem digest_Sum.calls (k : Nat) (a0 : ByteArray) (r : Int) (w : World) (h : digest_Sum.f k a0 = some r) :
    Calls Try.prog 27 #[.string a0] w fun e w' => e = .returned (.int .i64 r) ∧ Drawn0 w w' := by
  have H : (digest_Sum.l0 k a0 1 (a0.size : Int) 0) = some r := h
  clear h
  have H' := Aside0.mk H
  clear H
  go_enter Try.func27, Try.ntmps27
  go_wp2
  go_loopg [3, 7] k (fun kq v3 v7 w' => ∃ (x3_1 : Int) (x7_1 : Int), v3 = .int .i64 x3_1 ∧ v7 = .int .i64 x7_1 ∧ Aside0 (digest_Sum.l0 kq a0 x3_1 (a0.size : Int) x7_1 = some r) ∧ Aside0 (kq ≤ k) ∧ Drawn0 w w')
  case atStart => exact ⟨(1), (0), (by first | rfl | (simp; done) | (simp [*]; done)), (by first | rfl | (simp; done) | (simp [*]; done)), H', ⟨Nat.le_refl _⟩, by repeat (first | exact Drawn0.refl _ | apply Drawn0.step)⟩
  case round =>
    clear H'
    obtain ⟨x3_1, x7_1, rfl, rfl, HA, HK1, ⟨m1, rfl⟩⟩ := hrel
    cases gk with
    | zero => exact absurd HA.out (by simp [digest_Sum.l0])
    | succ k1 =>
      have H := HA.out
      clear HA
      simp only [digest_Sum.l0] at H
      by_cases c2 : x7_1 < (a0.size : Int)
      · rw [if_pos c2] at H
        have c2b0 : decide (x7_1 < (a0.size : Int)) = true := decide_eq_true c2
        clear c2
        by_cases c3 : 0 ≤ x7_1
        · rw [if_pos c3] at H
          have c3b0 : decide (0 ≤ x7_1) = true := decide_eq_true c3
          clear c3
          by_cases c4 : x7_1 < (a0.size : Int)
          · rw [if_pos c4] at H
            have c4b0 : decide (x7_1 < (a0.size : Int)) = true := decide_eq_true c4
            clear c4
            have H' := Aside0.mk H
            clear H
            have p5 : 0 ≤ (x7_1 : Int) := of_decide_eq_true (by first | (with_reducible assumption) | assumption)
            have q5 : x7_1 < (a0.size : Int) := of_decide_eq_true (by first | (with_reducible assumption) | assumption)
            have hx5 := bt_at a0 x7_1
            replace p5 := eq_true p5
            replace q5 := eq_true q5
            go_wp2
            go_roundg k1
            case measure => have := HK1.out; omega
            case rel => exact ⟨(Int.tmod (wrap64 ((wrap64 ((wrap64 (x3_1 * 1000003)) + (wrap64 (bt a0 x7_1)))) + 1)) 2147483647), (wrap64 (x7_1 + 1)), (by first | rfl | (simp; done) | (simp [*]; done)), (by first | rfl | (simp; done) | (simp [*]; done)), H', ⟨by have := HK1.out; omega⟩, by repeat (first | exact Drawn0.refl _ | apply Drawn0.step)⟩
          · rw [if_neg c4] at H
            exact absurd H (by simp)
        · rw [if_neg c3] at H
          exact absurd H (by simp)
      · rw [if_neg c2] at H
        have c2b0 : decide (x7_1 < (a0.size : Int)) = false := decide_eq_false c2
        clear c2
        obtain rfl := Option.some.inj H
        go_wp2
        go_ret
        exact ⟨by first | rfl | (simp; done) | (simp [*]; done), by repeat (first | exact Drawn0.refl _ | apply Drawn0.step)⟩

end Go.Proofs.Ytcalkhlchjjalaa.Q

namespace Go.Proofs.Ytcalkhlchjjalaa.Q
open Go.RowKit Go.Proofs.YtcalkhlchjjalaaW.PrintWords Go.Proofs.YtcalkhlchjjalaaW.PrintLast Go.Proofs.YtcalkhlchjjalaaW.PrintMore Go.Proofs.Ytcalkhlchjjalaa.Gput
attribute [local go_sem] max2_int min2_int max_two min_two max_three min_three max_four min_four   -- for this text's walks alone
set_option linter.unusedVariables false
set_option linter.unusedSimpArgs false

/-- A state of type 47 at block g of W; what its slices lead to came in by w0. -/
def IsS47 (w0 W : World) (g : Nat) (f0 : List Int) (f1 : Int) : Prop := ∃ A0 c0, W.heap[g]? = some (.cells #[.slice A0 f0.length c0, .int .i64 f1] 47 (0, 0)) ∧ w0.heap.size ≤ g ∧ Kd.C (Kd.int .i64) w0 A0 f0.length f0
theorem IsS47.grown {w0 W : World} {g : Nat} {f0 : List Int} {f1 : Int} {W1 : World} {row : Option Nat} (h : IsS47 w0 W g f0 f1) (hw : W.grownBy W1 row) (hne : some g ≠ row) : IsS47 w0 W1 g f0 f1 := by
  obtain ⟨A0, c0, hb, hg, hr0⟩ := h
  exact ⟨A0, c0, blk_grown hb hw hne, hg, hr0⟩
theorem IsS47.own_neN {w0 W : World} {g : Nat} {f0 : List Int} {f1 : Int} {α : Type} {d : Kd α} {e : Nat} {base : Nat} {ok : Nat → Prop} {v : Value} {xs : List α} (h : IsS47 w0 W g f0 f1) (ho : Kd.N d e W base ok v xs) (ht : e ≠ 47) : some g ≠ v.ownBlock := by
  obtain ⟨A0, c0, hb, hg, hr0⟩ := h
  exact Kd.N_ne ho hb ht
theorem IsS47.fresh {w0 W : World} {g : Nat} {f0 : List Int} {f1 : Int} (h : IsS47 w0 W g f0 f1) : ∀ k, W.heap.size ≤ k → k ≠ g := by
  obtain ⟨A0, c0, hb, hg, hr0⟩ := h
  exact Kd.freshB hb
theorem IsS47.kept {w0 W : World} {g : Nat} {f0 : List Int} {f1 : Int} {W1 : World} {S : Nat → Prop} (h : IsS47 w0 W g f0 f1) (hk : Kept W W1 S) (hne : ¬ S g) : IsS47 w0 W1 g f0 f1 := by
  obtain ⟨A0, c0, hb, hg, hr0⟩ := h
  exact ⟨A0, c0, blk_kept hb hk hne, hg, hr0⟩
theorem IsS47.below {w0 W : World} {g : Nat} {f0 : List Int} {f1 : Int} {W1 : World} (h : IsS47 w0 W g f0 f1) (hw : Below W.heap.size W W1) : IsS47 w0 W1 g f0 f1 := h.grown (grown_of_below hw none) (by simp)
theorem IsS47.alloc {w0 W : World} {g : Nat} {f0 : List Int} {f1 : Int} (h : IsS47 w0 W g f0 f1) (o : Obj) : IsS47 w0 (W.alloc o) g f0 f1 := h.below (below_alloc (Below.refl _ _) o)
theorem IsS47.drewN {w0 W : World} {g : Nat} {f0 : List Int} {f1 : Int} (h : IsS47 w0 W g f0 f1) (m : Nat) : IsS47 w0 (W.drewN m) g f0 f1 := h
theorem IsS47.drew {w0 W : World} {g : Nat} {f0 : List Int} {f1 : Int} (h : IsS47 w0 W g f0 f1) : IsS47 w0 W.drew g f0 f1 := h
theorem IsS47.at_ {w0 W : World} {g : Nat} {f0 : List Int} {f1 : Int} {w' : World} {m : Nat} (hq : W.drewN m = w') (h : IsS47 w0 W g f0 f1) : IsS47 w0 w' g f0 f1 := by subst hq; exact IsS47.drewN h m
theorem IsS47.apart {w0 W : World} {g : Nat} {f0 : List Int} {f1 : Int} {α : Type} {d : Kd α} {e : Nat} {base : Nat} {ok : Nat → Prop} {v : Value} {xs : List α} (h : IsS47 w0 W g f0 f1) (ho : d.R e W base ok v xs) (ht : ∀ q, q ∈ e :: d.E → q ≠ 47) : d.R e W base (fun k => ok k ∧ k ≠ g) v xs := by
  obtain ⟨A0, c0, hb, hg, hr0⟩ := h
  exact Kd.R_types ho hb ht
theorem IsS47.own_ne {w0 W : World} {g : Nat} {f0 : List Int} {f1 : Int} {α : Type} {d : Kd α} {e : Nat} {base : Nat} {ok : Nat → Prop} {v : Value} {xs : List α} (h : IsS47 w0 W g f0 f1) (ho : d.R e W base ok v xs) (ht : e ≠ 47) : some g ≠ v.ownBlock := by
  obtain ⟨A0, c0, hb, hg, hr0⟩ := h
  exact Kd.R_ne ho hb ht
theorem IsS47.apartQ {w0 W : World} {g : Nat} {f0 : List Int} {f1 : Int} {α : Type} {d : Kd α} {e : Nat} {base : Nat} {ok : Nat → Prop} {v : Value} {xs : List α} (h : IsS47 w0 W g f0 f1) (ho : d.Q e W base ok v xs) (ht : ∀ q, q ∈ e :: d.E → q ≠ 47) : d.Q e W base (fun k => ok k ∧ k ≠ g) v xs := by
  obtain ⟨A0, c0, hb, hg, hr0⟩ := h
  exact Kd.Q_types ho hb ht
theorem IsS47.own_neQ {w0 W : World} {g : Nat} {f0 : List Int} {f1 : Int} {α : Type} {d : Kd α} {e : Nat} {base : Nat} {ok : Nat → Prop} {v : Value} {xs : List α} (h : IsS47 w0 W g f0 f1) (ho : d.Q e W base ok v xs) (ht : e ≠ 47) : some g ≠ v.ownBlock := by
  obtain ⟨A0, c0, hb, hg, hr0⟩ := h
  exact Kd.Q_ne ho hb ht
theorem IsS47.apartS {w0 W : World} {g : Nat} {f0 : List Int} {f1 : Int} {α : Type} {d : Kd α} {e : Nat} {base : Nat} {ok : Nat → Prop} {v : Value} {xs : List α} (h : IsS47 w0 W g f0 f1) (ho : d.S e W base ok v xs) (ht : ∀ q, q ∈ e :: d.E → q ≠ 47) : d.S e W base (fun k => ok k ∧ k ≠ g) v xs := by
  obtain ⟨A0, c0, hb, hg, hr0⟩ := h
  exact Kd.S_types ho hb ht
theorem IsS47.own_neS {w0 W : World} {g : Nat} {f0 : List Int} {f1 : Int} {α : Type} {d : Kd α} {e : Nat} {base : Nat} {ok : Nat → Prop} {v : Value} {xs : List α} (h : IsS47 w0 W g f0 f1) (ho : d.S e W base ok v xs) (ht : e ≠ 47) : some g ≠ v.ownBlock := by
  obtain ⟨A0, c0, hb, hg, hr0⟩ := h
  exact Kd.S_ne ho hb ht
theorem IsS47.lt {w0 W : World} {g : Nat} {f0 : List Int} {f1 : Int} (h : IsS47 w0 W g f0 f1) : g < W.heap.size := by
  obtain ⟨A0, c0, hb, hg, hr0⟩ := h
  exact blk_lt hb
theorem IsS47.ge {w0 W : World} {g : Nat} {f0 : List Int} {f1 : Int} (h : IsS47 w0 W g f0 f1) : w0.heap.size ≤ g := by
  obtain ⟨A0, c0, hb, hg, hr0⟩ := h
  exact hg
theorem IsS47.ne_blk {w0 W : World} {g : Nat} {f0 : List Int} {f1 : Int} {a : Nat} {cs : Array Value} {t : TypeId} {fr : Nat × Nat} (h : IsS47 w0 W g f0 f1) (hb2 : W.heap[a]? = some (.cells cs t fr)) (ht : t ≠ 47) : g ≠ a := by
  obtain ⟨A0, c0, hb, hg, hr0⟩ := h
  rintro rfl
  rw [hb] at hb2
  injection hb2 with hb2
  injection hb2 with _ ht2
  exact ht ht2.symm
theorem IsS47.far {w0 W : World} {g : Nat} {f0 : List Int} {f1 : Int} {p : Addr} (h : IsS47 w0 W g f0 f1) (hne : g ≠ p.block) (u : Value) : IsS47 w0 (W.setCell p u) g f0 f1 := by
  obtain ⟨A0, c0, hb, hg, hr0⟩ := h
  exact ⟨A0, c0, blk_far hb hne u, hg, hr0⟩
theorem cellS47_0 {W : World} {g : Nat} {A0 : Option Addr} {c0 : Nat} {f0 : List Int} {f1 : Int} (h : W.heap[g]? = some (.cells #[.slice A0 f0.length c0, .int .i64 f1] 47 (0, 0))) : W.cell? ⟨g, 0, none⟩ = some (.slice A0 f0.length c0) := (blk_cell h 0).trans rfl
theorem cellS47_1 {W : World} {g : Nat} {A0 : Option Addr} {c0 : Nat} {f0 : List Int} {f1 : Int} (h : W.heap[g]? = some (.cells #[.slice A0 f0.length c0, .int .i64 f1] 47 (0, 0))) : W.cell? ⟨g, 1, none⟩ = some (.int .i64 f1) := (blk_cell h 1).trans rfl
theorem IsS47.set_1 {w0 W : World} {g : Nat} {f0 : List Int} {f1 : Int} (h : IsS47 w0 W g f0 f1) (x : Int) : IsS47 w0 (W.setCell ⟨g, 1, none⟩ (.int .i64 x)) g f0 x := by
  obtain ⟨A0, c0, hb, hg, hr0⟩ := h
  exact ⟨A0, c0, by simpa using blk_set hb 1 (.int .i64 x), hg, hr0⟩
theorem IsS47.new (w0 W : World) (A0 : Option Addr) (c0 : Nat) (f0 : List Int) (f1 : Int) (hB : Below w0.heap.size w0 W) (hr0 : Kd.C (Kd.int .i64) w0 A0 f0.length f0) : IsS47 w0 (W.alloc (.cells #[.slice A0 f0.length c0, .int .i64 f1] 47)) W.heap.size f0 f1 := ⟨A0, c0, by simpa using heap_alloc_new W _, hB.size, hr0⟩

/-! ### storagebartermake_New: function 8 -/
def storagebartermake_New.f (l0 : List Int) : Option (List Int × Int) := some (l0, 0)
set_option maxHeartbeats 8000000 in
set_option maxRecDepth 100000 in
theorem storagebartermake_New.calls (A0 : Option Addr) (c0 : Nat) (l0 : List Int) (r1 : List Int) (r2 : Int) (w0 w : World) (hB : Below w0.heap.size w0 w) (hr0 : Kd.C (Kd.int .i64) w0 A0 l0.length l0) (hc0 : l0.length ≤ c0) (h : storagebartermake_New.f l0 = some (r1, r2)) :
    Calls Try.prog 8 #[.slice A0 l0.length c0] w fun e w' => ∃ g_ : Nat, e = .returned (.pointer (some ⟨g_, 0, none⟩)) ∧ IsS47 w0 w' g_ r1 r2 ∧ Below w0.heap.size w0 w' ∧ Below w.heap.size w w' := by
  have hu47 := Try.underlying47
  have HR0 := Aside0.mk hr0
  have HC0 := Aside0.mk hc0
  clear hr0 hc0
  have HBW := Aside0.mk (Below.refl w.heap.size w)
  have HW0 := Aside0.mk hB.size
  have HB := Aside0.mk hB
  clear hB
  have H : (some (l0, 0)) = some (r1, r2) := h
  clear h
  simp only [Option.some.injEq, Prod.mk.injEq] at H
  obtain ⟨rfl, rfl⟩ := H
  go_enter Try.func8, Try.ntmps8
  go_wp2_with (first | ((with_reducible refine gate_dst (N := 5) rfl ?_); refine box_event ?hg (N := 5) ?hd (cs := #[.slice A0 l0.length c0, .int .i64 0]) (t := 47) ?hr ?_; (case hd => rfl); (case hg => rfl); (case hr => first | (go_simp; done) | (go_simp; rfl)); intro gb119 hg w2 hbox hb; have n0_ := Aside0.mk (below_step HBW.out hb); have n1_ := Aside0.mk (below_step (by repeat (first | (with_reducible first | exact HB.out | apply below_alloc | apply pw_below_drewN | apply below_drew1) | exact HB.out)) hb); have n2_ := Aside0.mk (hbox); have n3_ := Aside0.mk ((by rw [hg]; exact (below_size (by repeat (first | (with_reducible first | exact HBW.out | apply below_alloc | apply pw_below_drewN | apply below_drew1) | exact HBW.out))) : w.heap.size ≤ gb119)); have n4_ := Aside0.mk ((Nat.le_trans HW0.out (by rw [hg]; exact (below_size (by repeat (first | (with_reducible first | exact HBW.out | apply below_alloc | apply pw_below_drewN | apply below_drew1) | exact HBW.out))) : w.heap.size ≤ gb119) : w0.heap.size ≤ gb119)); clear HBW; clear HB; have HBW := n0_; have HB := n1_; have BK119 := n2_; have GW119 := n3_; have GE119 := n4_; clear n0_ n1_ n2_ n3_ n4_; clear hb hbox hg))
  go_ret
  exact ⟨_, rfl, (show IsS47 w0 _ gb119 l0 0 from ⟨_, _, by (with_reducible repeat (first | refine blk_drewN ?_ _ | refine blk_drew ?_ | refine blk_alloc ?_ _)); exact BK119.out, GE119.out, HR0.out⟩), by repeat (first | (with_reducible first | exact HB.out | apply below_alloc | apply pw_below_drewN | apply below_drew1 | refine below_set ?_ GE119.out) | exact HB.out), by repeat (first | (with_reducible first | exact HBW.out | apply below_alloc | apply pw_below_drewN | apply below_drew1 | refine below_set ?_ GW119.out) | exact HBW.out)⟩

end Go.Proofs.Ytcalkhlchjjalaa.Q

namespace Go.Proofs.Ytcalkhlchjjalaa.Q
open Go.RowKit Go.Proofs.YtcalkhlchjjalaaW.PrintWords Go.Proofs.YtcalkhlchjjalaaW.PrintLast Go.Proofs.YtcalkhlchjjalaaW.PrintMore Go.Proofs.Ytcalkhlchjjalaa.Gput
attribute [local go_sem] max2_int min2_int max_two min_two max_three min_three max_four min_four   -- for this text's walks alone
set_option linter.unusedVariables false
set_option linter.unusedSimpArgs false

/-! ### storagebartermake_Mod: function 13 -/
def storagebartermake_Mod.f (a0 : Int) (a1 : Int) : Option (Int) := if a1 = 0 then (none) else (some (Int.tmod (wrap64 ((Int.tmod a0 a1) + a1)) a1))
set_option maxHeartbeats 8000000 in
set_option maxRecDepth 100000 in
theorem storagebartermake_Mod.calls (a0 : Int) (a1 : Int) (r : Int) (w : World) (h : storagebartermake_Mod.f a0 a1 = some r) :
    Calls Try.prog 13 #[.int .i64 a0, .int .i64 a1] w fun e w' => e = .returned (.int .i64 r) ∧ Drawn0 w w' := by
  have H : (if a1 = 0 then (none) else (some (Int.tmod (wrap64 ((Int.tmod a0 a1) + a1)) a1))) = some r := h
  clear h
  by_cases c3 : a1 = 0
  · rw [if_pos c3] at H
    exact absurd H (by simp)
  · rw [if_neg c3] at H
    have c3b0 : (a1 == 0) = false := beq_eq_false_iff_ne.mpr c3
    have c3b1 : (a1 != 0) = true := bne_iff_ne.mpr c3
    obtain rfl := Option.some.inj H
    go_enter Try.func13, Try.ntmps13
    go_wp2
    go_ret
    exact ⟨by first | rfl | (simp; done) | (simp [*]; done), by repeat (first | exact Drawn0.refl _ | apply Drawn0.step)⟩

end Go.Proofs.Ytcalkhlchjjalaa.Q

namespace Go.Proofs.Ytcalkhlchjjalaa.Q
open Go.RowKit Go.Proofs.YtcalkhlchjjalaaW.PrintWords Go.Proofs.YtcalkhlchjjalaaW.PrintLast Go.Proofs.YtcalkhlchjjalaaW.PrintMore Go.Proofs.Ytcalkhlchjjalaa.Gput
attribute [local go_sem] max2_int min2_int max_two min_two max_three min_three max_four min_four   -- for this text's walks alone
set_option linter.unusedVariables false
set_option linter.unusedSimpArgs false

/-! ### storagebartermake_Deck_Next: function 10 -/
def storagebartermake_Deck_Next.f (s0_0 : List Int) (s0_1 : Int) (a1 : Int) : Option (Int × Int) := if a1 < 1 then (some (0, s0_1)) else (if s0_1 ≥ (s0_0.length : Int) then (some (0, s0_1)) else (if 0 ≤ s0_1 then (if s0_1 < (s0_0.length : Int) then ((storagebartermake_Mod.f (rd s0_0 s0_1) a1).bind fun t121 => (some (t121, wrap64 (s0_1 + 1)))) else (none)) else (none)))
set_option maxHeartbeats 8000000 in
set_option maxRecDepth 100000 in
theorem storagebartermake_Deck_Next.calls (g : Nat) (s0_0 : List Int) (s0_1 : Int) (a1 : Int) (r1 : Int) (r2 : Int) (w0 w : World) (hI : IsS47 w0 w g s0_0 s0_1) (hB : Below w0.heap.size w0 w) (h : storagebartermake_Deck_Next.f s0_0 s0_1 a1 = some (r1, r2)) :
    Calls Try.prog 10 #[.pointer (some ⟨g, 0, none⟩), .int .i64 a1] w fun e w' => e = .returned (.int .i64 r1) ∧ IsS47 w0 w' g s0_0 r2 ∧ Below w0.heap.size w0 w' ∧ KeepBut w w' g none := by
  have HI0 := Aside0.mk hI
  have HK := Aside0.mk (KeepBut.refl w g none)
  have HL := Aside0.mk hB.size
  clear hI
  have HW0 := Aside0.mk hB.size
  have HB := Aside0.mk hB
  clear hB
  have H : (if a1 < 1 then (some (0, s0_1)) else (if s0_1 ≥ (s0_0.length : Int) then (some (0, s0_1)) else (if 0 ≤ s0_1 then (if s0_1 < (s0_0.length : Int) then ((storagebartermake_Mod.f (rd s0_0 s0_1) a1).bind fun t121 => (some (t121, wrap64 (s0_1 + 1)))) else (none)) else (none)))) = some (r1, r2) := h
  clear h
  by_cases c3 : a1 < 1
  · rw [if_pos c3] at H
    have c3b0 : decide (a1 < 1) = true := decide_eq_true c3
    clear c3
    simp only [Option.some.injEq, Prod.mk.injEq] at H
    obtain ⟨rfl, rfl⟩ := H
    go_enter Try.func10, Try.ntmps10
    go_wp2
    repeat (go_quiet (fail); try go_wp2)
    go_ret
    exact ⟨by first | rfl | (simp [errW_none, errW_some] <;> rfl) | (simp [*, errW_none, errW_some] <;> rfl), by repeat (first | (with_reducible first | exact HI0.out | apply IsS47.alloc | apply IsS47.drewN | apply IsS47.drew | apply IsS47.set_1) | exact HI0.out), by repeat (first | (with_reducible first | exact HB.out | apply below_alloc | apply pw_below_drewN | apply below_drew1 | refine below_set ?_ (IsS47.ge HI0.out)) | exact HB.out), by repeat (first | (with_reducible first | exact HK.out | apply KeepBut.set_ | apply keep_drewN | apply keep_drew | apply keep_alloc) | exact HK.out)⟩
  · rw [if_neg c3] at H
    have c3b0 : decide (a1 < 1) = false := decide_eq_false c3
    clear c3
    by_cases c4 : s0_1 ≥ (s0_0.length : Int)
    · rw [if_pos c4] at H
      have c4b0 : decide ((s0_0.length : Int) ≤ s0_1) = true := decide_eq_true c4
      clear c4
      simp only [Option.some.injEq, Prod.mk.injEq] at H
      obtain ⟨rfl, rfl⟩ := H
      obtain ⟨ASz5_0, cSz5_0, HGz5, hgz5, HSz5_0⟩ := HI0.out
      have hcz5_0 := cellS47_0 HGz5
      have hcz5_1 := cellS47_1 HGz5
      have hfz5_1 := blk_frozen HGz5 1
      clear HGz5 hgz5
      go_enter Try.func10, Try.ntmps10
      go_wp2
      repeat (go_quiet (fail); try go_wp2)
      go_ret
      exact ⟨by first | rfl | (simp [errW_none, errW_some] <;> rfl) | (simp [*, errW_none, errW_some] <;> rfl), by repeat (first | (with_reducible first | exact HI0.out | apply IsS47.alloc | apply IsS47.drewN | apply IsS47.drew | apply IsS47.set_1) | exact HI0.out), by repeat (first | (with_reducible first | exact HB.out | apply below_alloc | apply pw_below_drewN | apply below_drew1 | refine below_set ?_ (IsS47.ge HI0.out)) | exact HB.out), by repeat (first | (with_reducible first | exact HK.out | apply KeepBut.set_ | apply keep_drewN | apply keep_drew | apply keep_alloc) | exact HK.out)⟩
    · rw [if_neg c4] at H
      have c4b0 : decide ((s0_0.length : Int) ≤ s0_1) = false := decide_eq_false c4
      clear c4
      by_cases c6 : 0 ≤ s0_1
      · rw [if_pos c6] at H
        have c6b0 : decide (0 ≤ s0_1) = true := decide_eq_true c6
        clear c6
        by_cases c7 : s0_1 < (s0_0.length : Int)
        · rw [if_pos c7] at H
          have c7b0 : decide (s0_1 < (s0_0.length : Int)) = true := decide_eq_true c7
          clear c7
          replace H := Option.bind_eq_some_iff.mp H
          obtain ⟨t121, A80, H⟩ := H
          replace H : (some (t121, wrap64 (s0_1 + 1))) = some (r1, r2) := H
          have A8 := Aside0.mk A80
          clear A80
          simp only [Option.some.injEq, Prod.mk.injEq] at H
          obtain ⟨rfl, rfl⟩ := H
          obtain ⟨ASz9_0, cSz9_0, HGz9, hgz9, HSz9_0⟩ := HI0.out
          have hcz9_0 := cellS47_0 HGz9
          have hcz9_1 := cellS47_1 HGz9
          have hfz9_1 := blk_frozen HGz9 1
          clear HGz9 hgz9
          have p120 : 0 ≤ (s0_1 : Int) := of_decide_eq_true (by first | (with_reducible assumption) | assumption)
          have q120 : s0_1 < (s0_0.length : Int) := of_decide_eq_true (by first | (with_reducible assumption) | assumption)
          obtain ⟨ad120, e120, hx120_0⟩ := Kd.at_int HSz9_0 s0_1 p120 q120
          cases e120
          replace hx120_0 := pw_cell_below HB.out hx120_0
          replace p120 := eq_true p120
          replace q120 := eq_true q120
          go_enter Try.func10, Try.ntmps10
          go_wp2_with (first | (go_at_call 13; (with_reducible refine (storagebartermake_Mod.calls (rd s0_0 s0_1) a1 t121 _ A8.out).mono ?_); rintro e w' ⟨rfl, ⟨nd, rfl⟩⟩; (try first | exact ⟨rfl, _, World.drewN_drewN _ _ _⟩ | exact ⟨rfl, _, Eq.trans (World.drewN_drewN _ _ _) (congrArg (World.drewN _) (Nat.add_assoc _ _ _))⟩)))
          repeat (go_quiet (first | (go_at_call 13; (with_reducible refine (storagebartermake_Mod.calls (rd s0_0 s0_1) a1 t121 _ A8.out).mono ?_); rintro e w' ⟨rfl, ⟨nd, rfl⟩⟩; (try first | exact ⟨rfl, _, World.drewN_drewN _ _ _⟩ | exact ⟨rfl, _, Eq.trans (World.drewN_drewN _ _ _) (congrArg (World.drewN _) (Nat.add_assoc _ _ _))⟩))); try go_wp2_with (first | (go_at_call 13; (with_reducible refine (storagebartermake_Mod.calls (rd s0_0 s0_1) a1 t121 _ A8.out).mono ?_); rintro e w' ⟨rfl, ⟨nd, rfl⟩⟩; (try first | exact ⟨rfl, _, World.drewN_drewN _ _ _⟩ | exact ⟨rfl, _, Eq.trans (World.drewN_drewN _ _ _) (congrArg (World.drewN _) (Nat.add_assoc _ _ _))⟩))))
          go_ret
          exact ⟨by first | rfl | (simp [errW_none, errW_some] <;> rfl) | (simp [*, errW_none, errW_some] <;> rfl), by repeat (first | (with_reducible first | exact HI0.out | apply IsS47.alloc | apply IsS47.drewN | apply IsS47.drew | apply IsS47.set_1) | exact HI0.out), by repeat (first | (with_reducible first | exact HB.out | apply below_alloc | apply pw_below_drewN | apply below_drew1 | refine below_set ?_ (IsS47.ge HI0.out)) | exact HB.out), by repeat (first | (with_reducible first | exact HK.out | apply KeepBut.set_ | apply keep_drewN | apply keep_drew | apply keep_alloc) | exact HK.out)⟩
        · rw [if_neg c7] at H
          exact absurd H (by simp)
      · rw [if_neg c6] at H
        exact absurd H (by simp)

end Go.Proofs.Ytcalkhlchjjalaa.Q

/- The digest, a number's bytes, and choices out of a deck, in plain words. -/
namespace Go.Proofs.Ytcalkhlchjjalaa.Gdm
open Go Go.RowKit Go.Proofs.Ytcalkhlchjjalaa.Gm Go.Proofs.Ytcalkhlchjjalaa.Q Go.Proofs.Ytcalkhlchjjalaa.Gput Go.Proofs.YtcalkhlchjjalaaW.PrintWords Go.Proofs.YtcalkhlchjjalaaW.PrintLast Go.Proofs.YtcalkhlchjjalaaW.PrintMore
set_option linter.unusedVariables false

theorem w64 {x : Int} (h : -9223372036854775808 ≤ x ∧ x ≤ 9223372036854775807) : wrap64 x = x := by unfold wrap64; omega


theorem bt_at (s : ByteArray) (a : Nat) (h : a < s.size) : bt s (a : Int) = ((s.data.toList.drop a).headD 0).toNat := by
  have h' : a < s.data.size := h
  unfold bt
  rw [dif_pos (by simpa using h)]
  simp only [Int.toNat_natCast]
  rw [List.drop_eq_getElem_cons (by simpa using h')]
  rfl

theorem bt_lt (s : ByteArray) (i : Int) : 0 ≤ bt s i ∧ bt s i < 256 := by
  unfold bt
  split
  · have := (s[i.toNat]).toNat_lt; omega
  · omega

theorem wf64 {n : Int} (h : -9223372036854775808 ≤ n ∧ n ≤ 9223372036854775807) : (Lit.int .i64 n).wf = true := Go.WalkArith.wf_i64 h

theorem wire_PutInt_eq (l : List UInt8) (n : Int) (hl : l.length + 10 ≤ 140737488355328) (hn : -9223372036854775808 ≤ n ∧ n ≤ 9223372036854775807) : wire_PutInt.f (B l) n = some (B (l ++ putI n)) := by
  unfold wire_PutInt.f
  rw [if_pos ⟨by rw [B_size]; exact hl, wf64 hn⟩]
  rfl

theorem tmod_mod (a m : Int) (hm : 0 < m) : (Int.tmod a m + m) % m = a % m := by
  have h := Int.mul_tdiv_add_tmod a m
  have e : Int.tmod a m + m = a + m * (1 - Int.tdiv a m) := by rw [Int.mul_sub]; omega
  rw [e, Int.add_mul_emod_self_left]

theorem tmod_range (a m : Int) (hm : 0 < m) : -m < Int.tmod a m ∧ Int.tmod a m < m := by
  refine ⟨?_, Int.tmod_lt_of_pos a hm⟩
  rcases Int.le_total 0 a with h | h
  · have := Int.tmod_nonneg m h; omega
  · have h1 := Int.tmod_nonneg m (show 0 ≤ -a by omega)
    have h2 := Int.tmod_lt_of_pos (-a) hm
    rw [Int.neg_tmod] at h1 h2
    omega

theorem mod_eq (a m : Int) (hm : 0 < m) (hb : m ≤ 4294967296) : storagebartermake_Mod.f a m = some (a % m) := by
  unfold storagebartermake_Mod.f
  have hr := tmod_range a m hm
  rw [if_neg (by omega), w64 (by omega), Int.tmod_eq_emod_of_nonneg (by omega), tmod_mod a m hm]

/-- The digest of bytes, from a value on. -/
def dg : Int → List UInt8 → Int
  | d, [] => d
  | d, b :: l => dg ((d * 1000003 + b.toNat + 1) % 2147483647) l

theorem dg_range : ∀ (l : List UInt8) (d : Int), 0 ≤ d ∧ d < 2147483647 → 0 ≤ dg d l ∧ dg d l < 2147483647
  | [], d, h => h
  | b :: l, d, h => dg_range l _ (by omega)

theorem dg_append (d : Int) (l m : List UInt8) : dg d (l ++ m) = dg (dg d l) m := by
  induction l generalizing d with
  | nil => rfl
  | cons b l ih => simp only [List.cons_append, dg]; exact ih _

theorem sum_step (s : ByteArray) (d : Int) (i : Nat) (hd : 0 ≤ d ∧ d < 2147483647) (hi : i < s.size) : Int.tmod (wrap64 ((wrap64 ((wrap64 (d * 1000003)) + (wrap64 (bt s i)))) + 1)) 2147483647 = (d * 1000003 + (s.data.toList[i]'(by simpa using hi)).toNat + 1) % 2147483647 := by
  have hb := bt_lt s i
  have hbt : bt s i = (s.data.toList[i]'(by simpa using hi)).toNat := by
    have h := bt_at s i hi
    rw [List.drop_eq_getElem_cons (by simpa using hi)] at h
    exact h
  rw [w64 (x := d * 1000003) (by omega), w64 (x := bt s i) (by omega), w64 (x := d * 1000003 + bt s i) (by omega), w64 (by omega), Int.tmod_eq_emod_of_nonneg (by omega), hbt]

theorem Sum_l0 (s : ByteArray) (hs : s.size ≤ 9223372036854775000) : ∀ (n i k : Nat) (d : Int), s.size - i = n → i ≤ s.size → 0 ≤ d ∧ d < 2147483647 → n < k → digest_Sum.l0 k s d s.size i = some (dg d (s.data.toList.drop i)) := by
  intro n
  induction n with
  | zero =>
    intro i k d hn hi hd hk
    obtain ⟨k, rfl⟩ : ∃ m, k = m + 1 := ⟨k - 1, by omega⟩
    simp only [digest_Sum.l0]
    rw [if_neg (by omega), List.drop_of_length_le (by rw [Array.length_toList]; show s.size ≤ i; omega)]
    rfl
  | succ n ih =>
    intro i k d hn hi hd hk
    obtain ⟨k, rfl⟩ : ∃ m, k = m + 1 := ⟨k - 1, by omega⟩
    have hlt : i < s.size := by omega
    simp only [digest_Sum.l0]
    rw [if_pos (by omega), if_pos (by omega), if_pos (by omega), sum_step s d i hd hlt, w64 (by omega), show ((i : Int) + 1) = ((i + 1 : Nat) : Int) by omega, ih (i + 1) k _ (by omega) (by omega) (by omega) (by omega), List.drop_eq_getElem_cons (show i < s.data.toList.length by simpa using hlt)]
    rfl

theorem Sum_eq (l : List UInt8) (k : Nat) (hl : l.length ≤ 9223372036854775000) (hk : l.length < k) : digest_Sum.f k (B l) = some (dg 1 l) := by
  unfold digest_Sum.f
  exact Sum_l0 (B l) (by rw [B_size]; exact hl) l.length 0 k 1 (by rw [B_size]; omega) (by omega) (by omega) hk

/-- A choice out of a deck is in its range; the deck's place stays within its list. -/
theorem next_ok (L : List Int) (at_ n : Int) (hn : 1 ≤ n) (hb : n ≤ 4294967296) (h0 : 0 ≤ at_) (hl : L.length ≤ 1000000) : ∃ t at', storagebartermake_Deck_Next.f L at_ n = some (t, at') ∧ 0 ≤ t ∧ t < n ∧ 0 ≤ at' := by
  unfold storagebartermake_Deck_Next.f
  rw [if_neg (by omega)]
  by_cases h : at_ ≥ (L.length : Int)
  · rw [if_pos h]
    exact ⟨0, at_, rfl, by omega, by omega, h0⟩
  · rw [if_neg h, if_pos h0, if_pos (by omega), mod_eq _ _ (by omega) hb, Option.bind_some]
    exact ⟨_, _, rfl, Int.emod_nonneg _ (by omega), Int.emod_lt_of_pos _ (by omega), by rw [w64 (by omega)]; omega⟩

end Go.Proofs.Ytcalkhlchjjalaa.Gdm

/- Texts that differ in one byte have different digests. -/
namespace Go.Proofs.Ytcalkhlchjjalaa.Gdi
open Go Go.RowKit Go.Proofs.Ytcalkhlchjjalaa.Gm Go.Proofs.Ytcalkhlchjjalaa.Gdm
set_option linter.unusedVariables false

theorem dg_step {c d : Int} (b : Int) (hc : 0 ≤ c ∧ c < 2147483647) (hd : 0 ≤ d ∧ d < 2147483647) (h : (c * 1000003 + b + 1) % 2147483647 = (d * 1000003 + b + 1) % 2147483647) : c = d := by
  rw [Int.emod_eq_emod_iff_emod_sub_eq_zero] at h
  obtain ⟨z, hz⟩ := Int.dvd_of_emod_eq_zero h
  clear h
  have e : (c - d) * 1000003 = 2147483647 * z := by rw [← hz, Int.sub_mul]; omega
  have e2 : (c - d) * (1000003 * 1523789695) = 2147483647 * (z * 1523789695) := by rw [← Int.mul_assoc, e, Int.mul_assoc]
  rw [show (1000003 * 1523789695 : Int) = 1 + 2147483647 * 709572 by decide, Int.mul_add, Int.mul_one, Int.mul_left_comm] at e2
  generalize z * 1523789695 = x at e2
  generalize (c - d) * 709572 = y at e2
  clear e hz
  omega

theorem dg_inj : ∀ (l : List UInt8) {c d : Int}, 0 ≤ c ∧ c < 2147483647 → 0 ≤ d ∧ d < 2147483647 → dg c l = dg d l → c = d
  | [], _, _, _, _, h => h
  | b :: l, c, d, hc, hd, h => dg_step _ hc hd (dg_inj l (by omega) (by omega) h)

theorem dg_one (p l : List UInt8) (x y : UInt8) (d : Int) (hd : 0 ≤ d ∧ d < 2147483647) (h : dg d (p ++ x :: l) = dg d (p ++ y :: l)) : x = y := by
  rw [dg_append, dg_append] at h
  have hp := dg_range p d hd
  generalize dg d p = e at h hp
  simp only [dg] at h
  have hx := x.toNat_lt
  have hy := y.toNat_lt
  have := dg_inj l (by omega) (by omega) h
  exact UInt8.toNat_inj.1 (by omega)

theorem set_split (l : List UInt8) (k : Nat) (h : k < l.length) (y : UInt8) : l = l.take k ++ l[k] :: l.drop (k + 1) ∧ l.set k y = l.take k ++ y :: l.drop (k + 1) := by
  refine ⟨?_, ?_⟩
  · rw [← List.drop_eq_getElem_cons h, List.take_append_drop]
  · rw [List.set_eq_take_append_cons_drop, if_pos h]

/-- A byte was changed: the digest stays just where the byte did. -/
theorem dg_set (q l : List UInt8) (k : Nat) (h : k < l.length) (y : UInt8) : (dg 1 (q ++ l) == dg 1 (q ++ l.set k y)) = (l[k] == y) := by
  obtain ⟨e1, e2⟩ := set_split l k h y
  by_cases he : l[k] = y
  · subst he
    rw [List.set_getElem_self]
    simp
  · have : dg 1 (q ++ l) ≠ dg 1 (q ++ l.set k y) := by
      intro z
      rw [e2] at z
      have z1 : dg 1 (q ++ (l.take k ++ l[k] :: l.drop (k + 1))) = dg 1 (q ++ (l.take k ++ y :: l.drop (k + 1))) := by
        rw [← z]
        congr 2
        exact e1.symm
      rw [← List.append_assoc, ← List.append_assoc] at z1
      exact he (dg_one _ _ _ _ 1 (by omega) z1)
    rw [beq_eq_false_iff_ne.2 this, beq_eq_false_iff_ne.2 he]

end Go.Proofs.Ytcalkhlchjjalaa.Gdi

namespace Go.Proofs.Ytcalkhlchjjalaa.Q
open Go.RowKit Go.Proofs.YtcalkhlchjjalaaW.PrintWords Go.Proofs.YtcalkhlchjjalaaW.PrintLast Go.Proofs.YtcalkhlchjjalaaW.PrintMore Go.Proofs.Ytcalkhlchjjalaa.Gput
attribute [local go_sem] max2_int min2_int max_two min_two max_three min_three max_four min_four   -- for this text's walks alone
set_option linter.unusedVariables false
set_option linter.unusedSimpArgs false

/-! ### mark_within: function 20 -/
def mark_within.f (a0 : Int) : Option (Bool) := if a0 ≥ 1 then (some (decide (a0 < 2147483647))) else (some false)
set_option maxHeartbeats 8000000 in
set_option maxRecDepth 100000 in
theorem mark_within.calls (a0 : Int) (r : Bool) (w : World) (h : mark_within.f a0 = some r) :
    Calls Try.prog 20 #[.int .i64 a0] w fun e w' => e = .returned (.bool r) ∧ Drawn0 w w' := by
  have H : (if a0 ≥ 1 then (some (decide (a0 < 2147483647))) else (some false)) = some r := h
  clear h
  by_cases c2 : a0 ≥ 1
  · rw [if_pos c2] at H
    have c2b0 : decide (1 ≤ a0) = true := decide_eq_true c2
    clear c2
    obtain rfl := Option.some.inj H
    go_enter Try.func20, Try.ntmps20
    go_wp2
    go_ret
    exact ⟨by first | rfl | (simp; done) | (simp [*]; done), by repeat (first | exact Drawn0.refl _ | apply Drawn0.step)⟩
  · rw [if_neg c2] at H
    have c2b0 : decide (1 ≤ a0) = false := decide_eq_false c2
    clear c2
    obtain rfl := Option.some.inj H
    go_enter Try.func20, Try.ntmps20
    go_wp2
    go_ret
    exact ⟨by first | rfl | (simp; done) | (simp [*]; done), by repeat (first | exact Drawn0.refl _ | apply Drawn0.step)⟩

end Go.Proofs.Ytcalkhlchjjalaa.Q

/- 'mark.Check': a directory's first error; its secrets lie in a map. -/
namespace Go.Proofs.Ytcalkhlchjjalaa.Q
open Go Go.RowKit Go.Maps Go.Proofs.YtcalkhlchjjalaaW.PrintWords Go.Proofs.YtcalkhlchjjalaaW.PrintLast Go.Proofs.YtcalkhlchjjalaaW.PrintMore
set_option linter.unusedVariables false

def within (n : Int) : Prop := 1 ≤ n ∧ n < 2147483647
instance (n : Int) : Decidable (within n) := by unfold within; exact inferInstance

/-- The first error of what is left of a directory, behind a number and behind secrets. -/
def ckGo (prev : Option Int) (seen : List Int) : List S31 → Int
  | [] => 0
  | p :: r => if ¬ (within p.f0 ∧ within p.f1) then 1 else if (∃ q, prev = some q ∧ p.f0 ≤ q) then 5 else if p.f1 ∈ seen then 7 else ckGo (some p.f0) (p.f1 :: seen) r

def ck (l : List S31) : Int := if 16 < l.length then 4 else ckGo none [] l

def mark_Check.f (l0 : List S31) : Option Int := if l0.all (fun p => (Lit.int .i64 p.f1).wf) then some (ck l0) else none

theorem within_yes (n : Int) (w : World) (h : within n) : Calls Try.prog 20 #[.int .i64 n] w fun e w' => e = .returned (.bool true) ∧ w' = w := by
  obtain ⟨h1, h2⟩ := h
  go_enter Try.func20, Try.ntmps20
  go_wp2
  go_ret
  exact ⟨by first | rfl | simp [h1, h2], rfl⟩
theorem within_no (n : Int) (w : World) (h : ¬ within n) : Calls Try.prog 20 #[.int .i64 n] w fun e w' => e = .returned (.bool false) ∧ w' = w := by
  by_cases h1 : 1 ≤ n
  · have h2 : ¬ n < 2147483647 := fun z => h ⟨h1, z⟩
    go_enter Try.func20, Try.ntmps20
    go_wp2
    go_ret
    exact ⟨by first | rfl | simp [h1, h2], rfl⟩
  · go_enter Try.func20, Try.ntmps20
    go_wp2
    go_ret
    exact ⟨by first | rfl | simp [h1], rfl⟩

/-- The secrets as a map reads. -/
def secs : List Int → DataW Unit
  | [] => .map []
  | s :: r => (secs r).put (.int .i64 s) (.lit (.bool true))

theorem secs_map : ∀ l, IsMap (secs l)
  | [] => ⟨[], rfl⟩
  | s :: r => by obtain ⟨es, he⟩ := secs_map r; exact ⟨_, by rw [secs, he]; rfl⟩

theorem secs_at (z : Int) : ∀ l, (secs l).atKey (.int .i64 z) (.lit (.bool false)) = .lit (.bool (decide (z ∈ l)))
  | [] => rfl
  | s :: r => by
    rw [secs]
    by_cases h : z = s
    · subst h
      rw [atKey_put_same (secs_map r) (by trivial)]
      simp
    · rw [atKey_put_other (by simpa using h), secs_at z r]
      simp [h]

theorem bool_inv {v : Value} {b : Bool} {ps : List MemPlace} (h : plainElem (H := Unit) Try.prog 4 v = some (.lit (.bool b), ps)) : v = .bool b := by
  unfold plainElem at h
  rw [Try.underlying4] at h
  cases v <;> simp at h
  obtain ⟨rfl, _⟩ := h
  rfl

theorem owns_drewN {w : World} {b n : Nat} {D : DataW Unit} (m : Nat) (h : w.ownsMap Try.prog 3 (plainElem (H := Unit) Try.prog 4) b n D) : (w.drewN m).ownsMap Try.prog 3 (plainElem (H := Unit) Try.prog 4) b n D := by
  induction m generalizing w with
  | zero => exact h
  | succ m ih => exact ih h.drew

theorem look {w : World} {b n : Nat} {l : List Int} (h : w.ownsMap Try.prog 3 (plainElem (H := Unit) Try.prog 4) b n (secs l)) (z : Int) (hz : (Lit.int .i64 z).wf = true) :
    (Instr.lookup 48 (.map (some b)) (.int .i64 z) false).run Try.prog w = .ok (.bool (decide (z ∈ l))) w := by
  obtain ⟨v, ps, hrun, hv⟩ := h.lookup (int_keyed Try.underlying3) Try.underlying48 (z := .bool false) (Try.zeroValue4 w) (zd := .lit (.bool false)) (zp := []) (plainElem_bool Try.underlying4 false) (key := .int .i64 z) (kl := .int .i64 z) (keyOf_int_mk Try.underlying3 hz)
  rw [secs_at] at hv
  rw [hrun, bool_inv hv]

/-- The secrets of the first ones, the last one first; the number before. -/
def seenAt (l : List S31) (k : Nat) : List Int := ((l.take k).map (·.f1)).reverse
def prevAt (l : List S31) (k : Nat) : Option Int := if k = 0 then none else some (rd_T31 l ((k : Int) - 1)).f0

theorem seenAt_succ (l : List S31) (k : Nat) (h : k < l.length) : seenAt l (k + 1) = (rd_T31 l k).f1 :: seenAt l k := by
  unfold seenAt rd_T31
  rw [List.take_succ_eq_append_getElem h, List.map_append, List.reverse_append]
  simp [List.getD, h]

theorem drop_rd (l : List S31) (k : Nat) (h : k < l.length) : l.drop k = rd_T31 l k :: l.drop (k + 1) := by
  unfold rd_T31
  rw [List.drop_eq_getElem_cons h]
  simp [List.getD, h]

set_option maxRecDepth 100000 in
set_option maxHeartbeats 4000000 in
theorem mark_Check.calls (A0 : Option Addr) (c0 : Nat) (l0 : List S31) (r : Int) (w : World) (hr0 : Kd.C k31 w A0 l0.length l0) (hc0 : l0.length ≤ c0) (h : mark_Check.f l0 = some r) :
    Calls Try.prog 11 #[.slice A0 l0.length c0] w fun e w' => e = .returned (.int .i64 r) ∧ Below w.heap.size w w' := by
  unfold mark_Check.f at h
  split at h
  case isFalse => cases h
  case isTrue hall =>
  obtain rfl := Option.some.inj h
  clear h
  unfold ck
  have HR := Aside0.mk hr0
  have HALL := Aside0.mk hall
  clear hr0 hall
  by_cases hlen : 16 < l0.length
  · have hb0 : decide ((16 : Int) < (l0.length : Int)) = true := decide_eq_true (by omega)
    rw [if_pos hlen]
    go_enter Try.func11, Try.ntmps11
    go_wp2
    go_ret
    exact ⟨rfl, Below.refl _ _⟩
  · have hb0 : decide ((16 : Int) < (l0.length : Int)) = false := decide_eq_false (by omega)
    rw [if_neg hlen]
    have hmm := @run_makeMap Try.prog
    go_enter Try.func11, Try.ntmps11
    go_wp2
    go_loopw [12] (fun v12 wr => ∃ (k : Nat), k ≤ l0.length ∧ v12 = .int .i64 k ∧ wr.ownsMap Try.prog 3 (plainElem (H := Unit) Try.prog 4) w.heap.size k (secs (seenAt l0 k)) ∧ Below w.heap.size w wr ∧ Hid (ckGo none [] l0 = ckGo (prevAt l0 k) (seenAt l0 k) (l0.drop k)))
      (fun v12 _ => l0.length - (intOf v12).toNat)
    case atStart => exact ⟨0, Nat.zero_le _, rfl, World.ownsMap_made w _ _ _, (Below.refl _ _).alloc (Nat.le_refl _) _, Lib.hid rfl⟩
    case round =>
      obtain ⟨k, hk, rfl, hown, hbel, hck⟩ := hrel
      by_cases hlt : k < l0.length
      · obtain ⟨ad, ead, hx0, hx1⟩ := at_T31 HR.out k (by omega) (by omega)
        cases ead
        replace hx0 := (hbel.cell (World.block_lt_of_cell? w _ hx0)).trans hx0
        replace hx1 := (hbel.cell (World.block_lt_of_cell? w _ hx1)).trans hx1
        simp only [Int.toNat_natCast] at hx0 hx1
        have hw := List.all_eq_true.1 HALL.out (l0[k]) (List.getElem_mem hlt)
        have er : l0[k] = rd_T31 l0 k := by simp [rd_T31, List.getD, hlt]
        rw [er] at hw
        have hseen := seenAt_succ l0 k hlt
        have hck1 := hck.out
        rw [drop_rd l0 k hlt, ckGo] at hck1
        have hprev : prevAt l0 (k + 1) = some (rd_T31 l0 k).f0 := by
          unfold prevAt
          rw [if_neg (by omega)]
          congr 3
          omega
        obtain ⟨x, hx⟩ : ∃ x, x = (rd_T31 l0 k).f0 := ⟨_, rfl⟩
        obtain ⟨y, hy⟩ : ∃ y, y = (rd_T31 l0 k).f1 := ⟨_, rfl⟩
        rw [← hx] at hx0 hprev hck1
        rw [← hy] at hx1 hck1 hw hseen
        have HE := Lib.hid hck1
        have HS := Lib.hid hseen
        have HP := Lib.hid hprev
        clear hck1 hseen hprev hx hy er hck
        by_cases h1 : within x
        · by_cases h2 : within y
          · have hres := HE.out
            rw [if_neg (fun z => z ⟨h1, h2⟩)] at hres
            clear HE
            have hlook : ∀ n, (Instr.lookup 48 (.map (some w.heap.size)) (.int .i64 y) false).run Try.prog ((wr.alloc (.cells #[.int .i64 x, .int .i64 y] 31)).drewN n) = .ok (.bool (decide (y ∈ seenAt l0 k))) ((wr.alloc (.cells #[.int .i64 x, .int .i64 y] 31)).drewN n) :=
              fun n => look (owns_drewN n (hown.alloc (.cells #[.int .i64 x, .int .i64 y] 31))) y hw
            by_cases h3 : 0 < k
            · have hk0 : decide ((0 : Int) < (k : Int)) = true := decide_eq_true (by omega)
              obtain ⟨j, hj⟩ : ∃ j : Int, (k : Int) - 1 = j := ⟨_, rfl⟩
              have hi1 : 0 ≤ j := by omega
              have hi2 : j < (l0.length : Int) := by omega
              have hw1 : IntKind.i64.wrap ((k : Int) - 1) = j := by rw [i64_w]; unfold wrap64; omega
              obtain ⟨ad3, ead3, hz0, hz1⟩ := at_T31 HR.out j hi1 hi2
              cases ead3
              replace hz0 := (hbel.cell (World.block_lt_of_cell? w _ hz0)).trans hz0
              have hpv : prevAt l0 k = some (rd_T31 l0 j).f0 := by unfold prevAt; rw [if_neg (by omega), hj]
              rw [hpv] at hres
              obtain ⟨q, hq⟩ : ∃ q, q = (rd_T31 l0 j).f0 := ⟨_, rfl⟩
              rw [← hq] at hz0 hres
              clear hq hpv hz1 hj
              replace hz0 := (((Below.refl wr.heap.size wr).alloc (Nat.le_refl _) (.cells #[.int .i64 x, .int .i64 y] 31)).cell (World.block_lt_of_cell? wr _ hz0)).trans hz0
              by_cases h5 : x ≤ q
              · rw [if_pos ⟨q, rfl, h5⟩] at hres
                have hk5 : decide (x ≤ q) = true := decide_eq_true h5
                clear hlook
                go_wp2_with (first | (go_at_call 20; with_reducible refine (within_yes x _ h1).mono ?_; rintro e w' ⟨rfl, rfl⟩) | (go_at_call 20; with_reducible refine (within_yes y _ h2).mono ?_; rintro e w' ⟨rfl, rfl⟩))
                go_quiet (skip)
                go_wp2
                go_ret
                exact ⟨by rw [hres]; rfl, pw_below_drewN (hbel.alloc hbel.size _) _⟩
              · rw [if_neg (by rintro ⟨q', hq, h6⟩; cases hq; exact h5 h6)] at hres
                have hk5 : decide (x ≤ q) = false := decide_eq_false h5
                by_cases h4 : y ∈ seenAt l0 k
                · rw [if_pos h4] at hres
                  simp only [decide_eq_true h4] at hlook
                  go_wp2_with (first | (go_at_call 20; with_reducible refine (within_yes x _ h1).mono ?_; rintro e w' ⟨rfl, rfl⟩) | (go_at_call 20; with_reducible refine (within_yes y _ h2).mono ?_; rintro e w' ⟨rfl, rfl⟩))
                  go_quiet (skip)
                  have hlk := hlook nq
                  clear hlook
                  go_wp2
                  go_ret
                  exact ⟨by rw [hres]; rfl, pw_below_drewN (hbel.alloc hbel.size _) _⟩
                · rw [if_neg h4, ← HP.out, ← HS.out] at hres
                  simp only [decide_eq_false h4] at hlook
                  go_wp2_with (first | (go_at_call 20; with_reducible refine (within_yes x _ h1).mono ?_; rintro e w' ⟨rfl, rfl⟩) | (go_at_call 20; with_reducible refine (within_yes y _ h2).mono ?_; rintro e w' ⟨rfl, rfl⟩))
                  go_quiet (skip)
                  have hlk := hlook nq
                  clear hlook
                  go_wp2_with (first | (at_mapUpdate; refine wpList_mapUpdate_own _ rfl _ _ _ 48 rfl 3 4 (int_keyed Try.underlying3) Try.underlying48 (plainElem (H := Unit) Try.prog 4) w.heap.size k (secs (seenAt l0 k)) rfl (owns_drewN nq (hown.alloc (.cells #[.int .i64 x, .int .i64 y] 31))) (by unfold maxLen; omega) _ _ (.int .i64 y) rfl rfl (keyOf_int_mk Try.underlying3 hw) (.lit (.bool true)) [] (plainElem_bool Try.underlying4 true) ?_; intro w1 hown1 hgrow1))
                  have hb9 := pw_below_drewN (hbel.alloc hbel.size (.cells #[.int .i64 x, .int .i64 y] 31)) nq
                  exact ⟨⟨k + 1, by omega, by simp, by rw [HS.out]; exact hown1, hb9.grown hgrow1 hb9.size (by rintro z hz; cases hz; exact Nat.le_refl _), Lib.hid hres⟩, by simp only [intOf]; omega⟩
            · have hk0 : decide ((0 : Int) < (k : Int)) = false := decide_eq_false (by omega)
              have hpv : prevAt l0 k = none := by unfold prevAt; rw [if_pos (by omega)]
              rw [hpv, if_neg (by rintro ⟨q, hq, _⟩; cases hq)] at hres
              by_cases h4 : y ∈ seenAt l0 k
              · rw [if_pos h4] at hres
                simp only [decide_eq_true h4] at hlook
                go_wp2_with (first | (go_at_call 20; with_reducible refine (within_yes x _ h1).mono ?_; rintro e w' ⟨rfl, rfl⟩) | (go_at_call 20; with_reducible refine (within_yes y _ h2).mono ?_; rintro e w' ⟨rfl, rfl⟩))
                go_quiet (skip)
                have hlk := hlook nq
                clear hlook
                go_wp2
                go_ret
                exact ⟨by rw [hres]; rfl, pw_below_drewN (hbel.alloc hbel.size _) _⟩
              · rw [if_neg h4, ← HP.out, ← HS.out] at hres
                simp only [decide_eq_false h4] at hlook
                go_wp2_with (first | (go_at_call 20; with_reducible refine (within_yes x _ h1).mono ?_; rintro e w' ⟨rfl, rfl⟩) | (go_at_call 20; with_reducible refine (within_yes y _ h2).mono ?_; rintro e w' ⟨rfl, rfl⟩))
                go_quiet (skip)
                have hlk := hlook nq
                clear hlook
                go_wp2_with (first | (at_mapUpdate; refine wpList_mapUpdate_own _ rfl _ _ _ 48 rfl 3 4 (int_keyed Try.underlying3) Try.underlying48 (plainElem (H := Unit) Try.prog 4) w.heap.size k (secs (seenAt l0 k)) rfl (owns_drewN nq (hown.alloc (.cells #[.int .i64 x, .int .i64 y] 31))) (by unfold maxLen; omega) _ _ (.int .i64 y) rfl rfl (keyOf_int_mk Try.underlying3 hw) (.lit (.bool true)) [] (plainElem_bool Try.underlying4 true) ?_; intro w1 hown1 hgrow1))
                have hb9 := pw_below_drewN (hbel.alloc hbel.size (.cells #[.int .i64 x, .int .i64 y] 31)) nq
                exact ⟨⟨k + 1, by omega, by simp, by rw [HS.out]; exact hown1, hb9.grown hgrow1 hb9.size (by rintro z hz; cases hz; exact Nat.le_refl _), Lib.hid hres⟩, by simp only [intOf]; omega⟩
          · have hres := HE.out
            rw [if_pos (fun z => h2 z.2)] at hres
            clear HE
            go_wp2_with (first | (go_at_call 20; with_reducible refine (within_yes x _ h1).mono ?_; rintro e w' ⟨rfl, rfl⟩) | (go_at_call 20; with_reducible refine (within_no y _ h2).mono ?_; rintro e w' ⟨rfl, rfl⟩))
            go_ret
            exact ⟨by rw [hres]; rfl, hbel.alloc hbel.size _⟩
        · have hres := HE.out
          rw [if_pos (fun z => h1 z.1)] at hres
          clear HE
          go_wp2_with (first | (go_at_call 20; with_reducible refine (within_no x _ h1).mono ?_; rintro e w' ⟨rfl, rfl⟩))
          go_ret
          exact ⟨by rw [hres]; rfl, hbel.alloc hbel.size _⟩
      · obtain rfl : k = l0.length := by omega
        have he := hck.out
        rw [List.drop_length, ckGo] at he
        clear hck
        go_wp2
        go_ret
        exact ⟨by rw [he]; rfl, hbel⟩

end Go.Proofs.Ytcalkhlchjjalaa.Q

/- 'mark.Find': a binary search over a valid directory, by a closure over a function value. -/
namespace Go.Proofs.Ytcalkhlchjjalaa.Q
open Go Go.RowKit Go.Maps Go.Proofs Go.Proofs.YtcalkhlchjjalaaW.PrintWords Go.Proofs.YtcalkhlchjjalaaW.PrintLast Go.Proofs.YtcalkhlchjjalaaW.PrintMore
set_option linter.unusedVariables false

theorem compare_calls (n x y : Int) (w : World) : Calls Try.prog 22 #[.int .i64 n, .agg #[.int .i64 x, .int .i64 y]] w fun e w' => e = .returned (.int .i64 (wrap64 (x - n))) ∧ Below w.heap.size w w' := by
  go_enter Try.func22, Try.ntmps22
  go_wp2
  go_ret
  exact ⟨rfl, (Below.refl _ _).alloc (Nat.le_refl _) _⟩

theorem closure_calls (n x y : Int) (c : Nat) (w : World) (hc : w.cell? ⟨c, 0, none⟩ = some (.func (.func 22) #[] #[])) :
    Calls Try.prog 24 #[.agg #[.int .i64 x, .int .i64 y], .int .i64 n, .pointer (some ⟨c, 0, none⟩)] w fun e w' => e = .returned (.int .i64 (wrap64 (x - n))) ∧ Below w.heap.size w w' := by
  have hc1 := (((Below.refl w.heap.size w).alloc (Nat.le_refl _) (.cells #[.int .i64 x, .int .i64 y] 31)).cell (World.block_lt_of_cell? w _ hc)).trans hc
  go_enter Try.func24, Try.ntmps24
  go_wp2_with (go_at_call 22; with_reducible refine (compare_calls n x y _).mono ?_; rintro e w' ⟨rfl, hb⟩)
  go_ret
  exact ⟨rfl, ((Below.refl _ _).alloc (Nat.le_refl _) _).trans (hb.mono (by simp))⟩

set_option maxRecDepth 100000 in
set_option maxHeartbeats 4000000 in
theorem search_calls (A0 : Option Addr) (c0 : Nat) (l0 : List S31) (n : Int) (c : Nat) (w : World) (hr0 : Kd.C k31 w A0 l0.length l0) (hc0 : l0.length ≤ c0) (hc : w.cell? ⟨c, 0, none⟩ = some (.func (.func 22) #[] #[]))
    (hlen : l0.length ≤ 16) (hn : within n) (hw : ∀ t : Nat, t < l0.length → within (rd_T31 l0 t).f0) (hs : ∀ t u : Nat, t < u → u < l0.length → (rd_T31 l0 t).f0 < (rd_T31 l0 u).f0) :
    Calls Try.prog 23 #[.slice A0 l0.length c0, .int .i64 n, .func (.func 24) #[] #[.pointer (some ⟨c, 0, none⟩)]] w fun e w' =>
      ∃ (i : Nat) (b : Bool), e = .returned (.tuple #[.int .i64 i, .bool b]) ∧ b = decide (i < l0.length ∧ (rd_T31 l0 i).f0 = n) ∧ i ≤ l0.length ∧ (∀ t : Nat, t < i → (rd_T31 l0 t).f0 < n) ∧ (∀ t : Nat, i ≤ t → t < l0.length → n ≤ (rd_T31 l0 t).f0) ∧ Below w.heap.size w w' := by
  have HR := Aside0.mk hr0
  have HW := Aside0.mk hw
  have HS := Aside0.mk hs
  have HN := Aside0.mk hn
  clear hr0 hw hs hn
  go_enter Try.func23, Try.ntmps23
  go_wp2
  go_loopg [9, 10] l0.length (fun kx s9 s10 wr => ∃ lo hi : Nat, s9 = .int .i64 lo ∧ s10 = .int .i64 hi ∧ lo ≤ hi ∧ hi ≤ l0.length ∧ hi - lo ≤ kx ∧ Aside0 (Below w.heap.size w wr) ∧
    Aside0 ((∀ t : Nat, t < lo → (rd_T31 l0 t).f0 < n) ∧ (∀ t : Nat, hi ≤ t → t < l0.length → n ≤ (rd_T31 l0 t).f0)))
  case atStart => exact ⟨0, l0.length, rfl, rfl, Nat.zero_le _, Nat.le_refl _, by omega, ⟨Below.refl _ _⟩, ⟨fun t ht => absurd ht (Nat.not_lt_zero _), fun t h1 h2 => by omega⟩⟩
  case round =>
    obtain ⟨lo, hi, rfl, rfl, hlh, hin, hg, HB, I⟩ := hrel
    by_cases hlt : lo < hi
    · obtain ⟨h, hh⟩ : ∃ h : Nat, h = (lo + hi) / 2 := ⟨_, rfl⟩
      have hh1 : lo ≤ h ∧ h < hi := by omega
      have hhi : ((lo : Int) + (hi : Int)) / 2 = (h : Int) := by omega
      clear hh
      obtain ⟨ad, ead, hx0, hx1⟩ := at_T31 HR.out h (by omega) (by omega)
      cases ead
      replace hx0 := (HB.out.cell (World.block_lt_of_cell? w _ hx0)).trans hx0
      replace hx1 := (HB.out.cell (World.block_lt_of_cell? w _ hx1)).trans hx1
      simp only [Int.toNat_natCast] at hx0 hx1
      have hc1 := (HB.out.cell (World.block_lt_of_cell? w _ hc)).trans hc
      obtain ⟨x, hx⟩ : ∃ x, x = (rd_T31 l0 h).f0 := ⟨_, rfl⟩
      obtain ⟨y, hy⟩ : ∃ y, y = (rd_T31 l0 h).f1 := ⟨_, rfl⟩
      rw [← hx] at hx0
      rw [← hy] at hx1
      clear hy
      have HX := Lib.hid hx
      clear hx
      have HWX := Lib.hid (HX.out ▸ HW.out h (by omega) : within x)
      have hsub : wrap64 (x - n) = x - n := by have := HWX.out; have := HN.out; unfold within at *; unfold wrap64; omega
      by_cases hyx : x - n < 0
      · go_wp2_with (go_at_call 24; with_reducible refine (closure_calls n x y c _ hc1).mono ?_; rintro e w' ⟨rfl, hb⟩)
        go_roundg (hi - (h + 1))
        case measure => omega
        case rel =>
          exact ⟨h + 1, hi, by rw [show ((h : Int) + 1) = ((h + 1 : Nat) : Int) by omega], rfl, by omega, hin, Nat.le_refl _, ⟨HB.out.trans (hb.mono HB.out.size)⟩,
            ⟨fun t ht => by
              have hx := HX.out
              by_cases hth : t = h
              · subst hth; omega
              · have := HS.out t h (by omega) (by omega); omega, I.out.2⟩⟩
      · go_wp2_with (go_at_call 24; with_reducible refine (closure_calls n x y c _ hc1).mono ?_; rintro e w' ⟨rfl, hb⟩)
        go_roundg (h - lo)
        case measure => omega
        case rel =>
          exact ⟨lo, h, rfl, rfl, by omega, by omega, Nat.le_refl _, ⟨HB.out.trans (hb.mono HB.out.size)⟩,
            ⟨I.out.1, fun t ht htl => by
              have hx := HX.out
              by_cases hth : t = h
              · subst hth; omega
              · have := HS.out h t (by omega) (by omega); omega⟩⟩
    · obtain rfl : hi = lo := by omega
      by_cases hn : hi < l0.length
      · obtain ⟨ad, ead, hx0, hx1⟩ := at_T31 HR.out hi (by omega) (by omega)
        cases ead
        replace hx0 := (HB.out.cell (World.block_lt_of_cell? w _ hx0)).trans hx0
        replace hx1 := (HB.out.cell (World.block_lt_of_cell? w _ hx1)).trans hx1
        simp only [Int.toNat_natCast] at hx0 hx1
        have hc1 := (HB.out.cell (World.block_lt_of_cell? w _ hc)).trans hc
        obtain ⟨x, hx⟩ : ∃ x, x = (rd_T31 l0 hi).f0 := ⟨_, rfl⟩
        obtain ⟨y, hy⟩ : ∃ y, y = (rd_T31 l0 hi).f1 := ⟨_, rfl⟩
        rw [← hx] at hx0
        rw [← hy] at hx1
        clear hy
        have HX := Lib.hid hx
        clear hx
        have HWX := Lib.hid (HX.out ▸ HW.out hi (by omega) : within x)
        obtain ⟨z, hz⟩ : ∃ z, z = x - n := ⟨_, rfl⟩
        have hsub : wrap64 (x - n) = z := by have := HWX.out; have := HN.out; unfold within at *; unfold wrap64; omega
        have HZ := Lib.hid hz
        clear hz
        by_cases hyz : z = 0
        · have HY := Lib.hid hyz
          have hzb : (z == 0) = true := beq_iff_eq.mpr hyz
          clear hyz
          go_wp2_with (go_at_call 24; with_reducible refine (closure_calls n x y c _ hc1).mono ?_; rintro e w' ⟨rfl, hb⟩)
          go_ret2
          refine ⟨hi, _, ?_, rfl, hin, I.out.1, I.out.2, HB.out.trans (hb.mono HB.out.size)⟩
          rw [decide_eq_true (⟨hn, by have := HX.out; have := HY.out; have := HZ.out; omega⟩ : hi < l0.length ∧ (rd_T31 l0 hi).f0 = n)]
          rfl
        · have hzb : (z == 0) = false := beq_eq_false_iff_ne.mpr hyz
          go_wp2_with (go_at_call 24; with_reducible refine (closure_calls n x y c _ hc1).mono ?_; rintro e w' ⟨rfl, hb⟩)
          go_ret2
          refine ⟨hi, _, ?_, rfl, hin, I.out.1, I.out.2, HB.out.trans (hb.mono HB.out.size)⟩
          rw [decide_eq_false (show ¬ (hi < l0.length ∧ (rd_T31 l0 hi).f0 = n) from fun z_ => hyz (by have := HX.out; have := HZ.out; omega))]
          rfl
      · go_wp2
        go_ret2
        refine ⟨hi, _, ?_, rfl, hin, I.out.1, I.out.2, HB.out⟩
        rw [decide_eq_false (show ¬ (hi < l0.length ∧ (rd_T31 l0 hi).f0 = n) from fun z => hn z.1)]
        rfl

theorem ckGo_ok : ∀ (l : List S31) (prev : Option Int) (seen : List Int), ckGo prev seen l = 0 → (∀ p ∈ l, within p.f0 ∧ within p.f1) ∧ (∀ q, prev = some q → ∀ p ∈ l, q < p.f0) ∧ l.Pairwise (fun p q => p.f0 < q.f0) ∧ (∀ p ∈ l, p.f1 ∉ seen) ∧ l.Pairwise (fun p q => p.f1 ≠ q.f1) := by
  intro l
  induction l with
  | nil => intro prev seen _; simp
  | cons p r ih =>
    intro prev seen h
    simp only [ckGo] at h
    split at h
    · cases h
    rename_i h1
    split at h
    · cases h
    rename_i h2
    split at h
    · cases h
    rename_i h3
    obtain ⟨a, b, c, d, e⟩ := ih _ _ h
    have h1' : within p.f0 ∧ within p.f1 := Decidable.not_not.1 h1
    refine ⟨fun x hx => ?_, fun q hq x hx => ?_, ?_, fun x hx => ?_, ?_⟩
    · rcases List.mem_cons.1 hx with rfl | hx
      · exact h1'
      · exact a x hx
    · have hqp : q < p.f0 := Int.not_le.1 fun z => h2 ⟨q, hq, z⟩
      rcases List.mem_cons.1 hx with rfl | hx
      · exact hqp
      · have := b p.f0 rfl x hx; omega
    · exact List.pairwise_cons.2 ⟨fun x hx => b p.f0 rfl x hx, c⟩
    · rcases List.mem_cons.1 hx with rfl | hx
      · exact h3
      · exact fun z => d x hx (List.mem_cons_of_mem _ z)
    · exact List.pairwise_cons.2 ⟨fun x hx z => d x hx (by rw [← z]; exact List.mem_cons_self), e⟩

theorem ck_ok {l : List S31} (h : ck l = 0) : l.length ≤ 16 ∧ (∀ p ∈ l, within p.f0 ∧ within p.f1) ∧ l.Pairwise (fun p q => p.f0 < q.f0) ∧ l.Pairwise (fun p q => p.f1 ≠ q.f1) := by
  unfold ck at h
  split at h
  · cases h
  · obtain ⟨a, -, c, -, e⟩ := ckGo_ok l none [] h
    exact ⟨by omega, a, c, e⟩

/-- Who is found in a directory by a number. -/
def fd (l : List S31) (id : Int) : Int × Int × Bool :=
  if ck l = 0 ∧ within id then (match l.find? (fun p => p.f0 == id) with | some p => (p.f0, p.f1, true) | none => (0, 0, false)) else (0, 0, false)

def mark_Find.f (l0 : List S31) (a1 : Int) : Option (Int × Int × Bool) := if l0.all (fun p => (Lit.int .i64 p.f1).wf) then some (fd l0 a1) else none

theorem store_fn (w : World) : (store ⟨w.heap.size, 0, none⟩ (.func (.func 22) #[] #[])).run Try.prog (w.alloc (.cells #[.nilFunc] 50)) = .ok () ((w.alloc (.cells #[.nilFunc] 50)).setCell ⟨w.heap.size, 0, none⟩ (.func (.func 22) #[] #[])) := by
  have hb : (w.alloc (.cells #[.nilFunc] 50)).heap[w.heap.size]? = some (.cells #[.nilFunc] 50 (0, 0)) := heap_alloc_new w _
  rw [run_store Try.prog _ _ (.func (.func 22) #[] #[]) _ rfl, blk_cell hb 0]
  simp [blk_frozen hb 0]
theorem fn_below (w : World) : Below w.heap.size w (w.alloc (.cells #[.func (.func 22) #[] #[]] 50)) :=
  (Below.refl _ w).alloc (Nat.le_refl _) _
theorem rd_get (l : List S31) (t : Nat) (h : t < l.length) : rd_T31 l t = l[t] := by simp [rd_T31, List.getD, h]

set_option maxRecDepth 100000 in
set_option maxHeartbeats 4000000 in
theorem mark_Find.calls (A0 : Option Addr) (c0 : Nat) (l0 : List S31) (a1 : Int) (r1 : Int) (r2 : Int) (r3 : Bool) (w : World) (hr0 : Kd.C k31 w A0 l0.length l0) (hc0 : l0.length ≤ c0) (h : mark_Find.f l0 a1 = some (r1, r2, r3)) :
    Calls Try.prog 14 #[.slice A0 l0.length c0, .int .i64 a1] w fun e w' => e = .returned (.tuple #[.agg #[.int .i64 r1, .int .i64 r2], .bool r3]) ∧ Below w.heap.size w w' := by
  unfold mark_Find.f at h
  split at h
  case isFalse => cases h
  case isTrue hall =>
  replace h := Option.some.inj h
  have HR := Aside0.mk hr0
  have HF := Aside0.mk (show mark_Check.f l0 = some (ck l0) from if_pos hall)
  clear hr0 hall
  have HB := Aside0.mk (Below.refl w.heap.size w)
  by_cases hck : ck l0 = 0
  · by_cases hid : within a1
    · obtain ⟨hlen, hall, hpw, -⟩ := ck_ok hck
      have HW : Aside0 (∀ t : Nat, t < l0.length → within (rd_T31 l0 t).f0) := ⟨fun t ht => by rw [rd_get l0 t ht]; exact (hall _ (List.getElem_mem ht)).1⟩
      have HS : Aside0 (∀ t u : Nat, t < u → u < l0.length → (rd_T31 l0 t).f0 < (rd_T31 l0 u).f0) := ⟨fun t u htu hu => by rw [rd_get l0 t (by omega), rd_get l0 u hu]; exact List.pairwise_iff_getElem.1 hpw t u _ _ htu⟩
      clear hall hpw
      have hsf := store_fn
      by_cases hfd : ∃ t : Nat, t < l0.length ∧ (rd_T31 l0 t).f0 = a1
      · obtain ⟨t, ht, hta⟩ := hfd
        have he : ((rd_T31 l0 t).f0, (rd_T31 l0 t).f1, true) = (r1, r2, r3) := by
          rw [← h]
          unfold fd
          have : l0.find? (fun p => p.f0 == a1) = some (rd_T31 l0 t) := by
            rw [List.find?_eq_some_iff_getElem]
            refine ⟨by simpa using hta, t, ht, (rd_get l0 t ht).symm, fun j hj => ?_⟩
            have := HS.out j t hj ht
            rw [rd_get l0 j (by omega)] at this
            simp only [Bool.not_eq_true', beq_eq_false_iff_ne]
            omega
          rw [if_pos ⟨hck, hid⟩, this]
        clear h
        generalize ck l0 = ckv at HF hck
        subst hck
        obtain ⟨ad, ead, hx0, hx1⟩ := at_T31 HR.out t (by omega) (by omega)
        cases ead
        simp only [Int.toNat_natCast] at hx0 hx1
        have HT := Lib.hid hta
        generalize (rd_T31 l0 t).f0 = x at hx0 he
        generalize (rd_T31 l0 t).f1 = y at hx1 he
        obtain ⟨rfl, rfl, rfl⟩ : x = r1 ∧ y = r2 ∧ true = r3 := by simpa using he
        clear he hta
        have HX0 := Aside0.mk hx0
        have HX1 := Aside0.mk hx1
        clear hx0 hx1
        go_enter Try.func14, Try.ntmps14
        go_wp2_with (first | ((with_reducible refine gate_dst (N := 4) rfl ?_); refine box_event ?hg (N := 4) ?hd (cs := #[.int .i64 0, .int .i64 0]) (t := 31) ?hr ?_; (case hd => rfl); (case hg => rfl); (case hr => first | (go_simp; done) | (go_simp; rfl)); intro gb hgb w1 hbox hb; have BK := Aside0.mk hbox; have GB := Aside0.mk (by rw [hgb]; exact Nat.le_refl _ : w.heap.size ≤ gb); have n1_ := Aside0.mk (below_step HB.out hb); clear HB; have HB := n1_; clear n1_ hb hbox hgb) | (go_at_call 11; with_reducible refine (mark_Check.calls _ c0 l0 _ _ (Kd.C_below HR.out HB.out) hc0 HF.out).mono ?_; rintro e w2 ⟨rfl, hb⟩; have n0_ := Aside0.mk (blk_below (g := gb) (o := .cells #[.int .i64 0, .int .i64 0] 31 (0, 0)) BK.out hb); have n1_ := Aside0.mk (below_step HB.out hb); clear HB BK; have BK := n0_; have HB := n1_; clear n0_ n1_ hb; have hcl0 : w2.cell? ⟨gb, 0, none⟩ = some (.int .i64 0) := ((blk_cell BK.out _).trans rfl); have hcl1 : w2.cell? ⟨gb, 1, none⟩ = some (.int .i64 0) := ((blk_cell BK.out _).trans rfl); have hf0 := blk_frozen BK.out 0; have hf1 := blk_frozen BK.out 1) | (go_at_call 20; with_reducible refine (within_yes a1 _ hid).mono ?_; rintro e w' ⟨rfl, rfl⟩) | (go_at_call 23; (with_reducible refine (search_calls _ c0 l0 a1 _ _ (Kd.C_below HR.out (below_step HB.out (fn_below _))) hc0 ?hcell hlen hid HW.out HS.out).mono ?_; (case hcell => first | (go_simp; done) | (go_simp; rfl)); rintro e w3 ⟨i, b, rfl, hbd, hi1, hi2, hi3, hb⟩; have n0_ := Aside0.mk (blk_below (g := gb) (o := .cells #[.int .i64 0, .int .i64 0] 31 (0, 0)) (blk_below BK.out (fn_below _)) hb); have n1_ := Aside0.mk (below_step (below_step HB.out (fn_below _)) hb); clear HB BK hcl0 hcl1 hf0 hf1; have BK := n0_; have HB := n1_; clear n0_ n1_ hb; have hcl0 : w3.cell? ⟨gb, 0, none⟩ = some (.int .i64 0) := ((blk_cell BK.out _).trans rfl); have hcl1 : w3.cell? ⟨gb, 1, none⟩ = some (.int .i64 0) := ((blk_cell BK.out _).trans rfl); have hf0 := blk_frozen BK.out 0; have hf1 := blk_frozen BK.out 1; obtain rfl : i = t := (by have hT := HT.out; have s1 := HS.out; exact Nat.le_antisymm (Nat.not_lt.1 fun z => by have := hi2 t z; omega) (Nat.not_lt.1 fun z => by have := s1 i t z ht; have := hi3 i (Nat.le_refl _) (by omega); omega)); obtain rfl : b = true := hbd.trans (decide_eq_true ⟨ht, HT.out⟩); have hx0 := (HB.out.cell (World.block_lt_of_cell? w _ HX0.out)).trans HX0.out; have hx1 := (HB.out.cell (World.block_lt_of_cell? w _ HX1.out)).trans HX1.out; clear hi2 hi3 hbd)))
        refine bodyPost_ret (results_ct rfl _ _ gb 31 #[.int .i64 x, .int .i64 y] (0, 0) _ rfl (by refine blk_put (cs := #[.int .i64 x, .int .i64 0]) ?_ 1 _ rfl; refine blk_put (cs := #[.int .i64 0, .int .i64 0]) ?_ 0 _ rfl; exact BK.out) Try.underlying31 rfl (by kernel_rfl)) rfl ?_
        exact ⟨by first | rfl | (simp; done), by repeat (first | (with_reducible first | exact HB.out | apply below_alloc | apply pw_below_drewN | apply below_drew1 | refine below_set ?_ GB.out) | exact HB.out)⟩
      · have he : (0, 0, false) = (r1, r2, r3) := by
          rw [← h]
          unfold fd
          have : l0.find? (fun p => p.f0 == a1) = none := by
            rw [List.find?_eq_none]
            intro p hp
            obtain ⟨j, hj, rfl⟩ := List.getElem_of_mem hp
            exact fun z => hfd ⟨j, hj, by rw [rd_get l0 j hj]; simpa using z⟩
          rw [if_pos ⟨hck, hid⟩, this]
        obtain ⟨rfl, rfl, rfl⟩ : 0 = r1 ∧ 0 = r2 ∧ false = r3 := by simpa using he
        clear h he
        generalize ck l0 = ckv at HF hck
        subst hck
        have HFD := Lib.hid hfd
        clear hfd
        go_enter Try.func14, Try.ntmps14
        go_wp2_with (first | ((with_reducible refine gate_dst (N := 4) rfl ?_); refine box_event ?hg (N := 4) ?hd (cs := #[.int .i64 0, .int .i64 0]) (t := 31) ?hr ?_; (case hd => rfl); (case hg => rfl); (case hr => first | (go_simp; done) | (go_simp; rfl)); intro gb hgb w1 hbox hb; have BK := Aside0.mk hbox; have GB := Aside0.mk (by rw [hgb]; exact Nat.le_refl _ : w.heap.size ≤ gb); have n1_ := Aside0.mk (below_step HB.out hb); clear HB; have HB := n1_; clear n1_ hb hbox hgb) | (go_at_call 11; with_reducible refine (mark_Check.calls _ c0 l0 _ _ (Kd.C_below HR.out HB.out) hc0 HF.out).mono ?_; rintro e w2 ⟨rfl, hb⟩; have n0_ := Aside0.mk (blk_below (g := gb) (o := .cells #[.int .i64 0, .int .i64 0] 31 (0, 0)) BK.out hb); have n1_ := Aside0.mk (below_step HB.out hb); clear HB BK; have BK := n0_; have HB := n1_; clear n0_ n1_ hb; have hcl0 : w2.cell? ⟨gb, 0, none⟩ = some (.int .i64 0) := ((blk_cell BK.out _).trans rfl); have hcl1 : w2.cell? ⟨gb, 1, none⟩ = some (.int .i64 0) := ((blk_cell BK.out _).trans rfl); have hf0 := blk_frozen BK.out 0; have hf1 := blk_frozen BK.out 1) | (go_at_call 20; with_reducible refine (within_yes a1 _ hid).mono ?_; rintro e w' ⟨rfl, rfl⟩) | (go_at_call 23; (with_reducible refine (search_calls _ c0 l0 a1 _ _ (Kd.C_below HR.out (below_step HB.out (fn_below _))) hc0 ?hcell hlen hid HW.out HS.out).mono ?_; (case hcell => first | (go_simp; done) | (go_simp; rfl)); rintro e w3 ⟨i, b, rfl, hbd, hi1, hi2, hi3, hb⟩; have n0_ := Aside0.mk (blk_below (g := gb) (o := .cells #[.int .i64 0, .int .i64 0] 31 (0, 0)) (blk_below BK.out (fn_below _)) hb); have n1_ := Aside0.mk (below_step (below_step HB.out (fn_below _)) hb); clear HB BK hcl0 hcl1 hf0 hf1; have BK := n0_; have HB := n1_; clear n0_ n1_ hb; have hcl0 : w3.cell? ⟨gb, 0, none⟩ = some (.int .i64 0) := ((blk_cell BK.out _).trans rfl); have hcl1 : w3.cell? ⟨gb, 1, none⟩ = some (.int .i64 0) := ((blk_cell BK.out _).trans rfl); have hf0 := blk_frozen BK.out 0; have hf1 := blk_frozen BK.out 1; obtain rfl : b = false := hbd.trans (decide_eq_false fun z => absurd (⟨i, z⟩ : ∃ t : Nat, t < l0.length ∧ (rd_T31 l0 t).f0 = a1) HFD.out); clear hi2 hi3 hbd)))
        refine bodyPost_ret (results_ct rfl _ _ gb 31 #[.int .i64 0, .int .i64 0] (0, 0) _ rfl (by refine blk_put (cs := #[.int .i64 0, .int .i64 0]) ?_ 1 _ rfl; refine blk_put (cs := #[.int .i64 0, .int .i64 0]) ?_ 0 _ rfl; exact BK.out) Try.underlying31 rfl (by kernel_rfl)) rfl ?_
        exact ⟨by first | rfl | (simp; done), by repeat (first | (with_reducible first | exact HB.out | apply below_alloc | apply pw_below_drewN | apply below_drew1 | refine below_set ?_ GB.out) | exact HB.out)⟩
    · have he : (0, 0, false) = (r1, r2, r3) := by rw [← h]; unfold fd; rw [if_neg (fun z => hid z.2)]
      obtain ⟨rfl, rfl, rfl⟩ : 0 = r1 ∧ 0 = r2 ∧ false = r3 := by simpa using he
      clear h he
      generalize ck l0 = ckv at HF hck
      subst hck
      go_enter Try.func14, Try.ntmps14
      go_wp2_with (first | ((with_reducible refine gate_dst (N := 4) rfl ?_); refine box_event ?hg (N := 4) ?hd (cs := #[.int .i64 0, .int .i64 0]) (t := 31) ?hr ?_; (case hd => rfl); (case hg => rfl); (case hr => first | (go_simp; done) | (go_simp; rfl)); intro gb hgb w1 hbox hb; have BK := Aside0.mk hbox; have GB := Aside0.mk (by rw [hgb]; exact Nat.le_refl _ : w.heap.size ≤ gb); have n1_ := Aside0.mk (below_step HB.out hb); clear HB; have HB := n1_; clear n1_ hb hbox hgb) | (go_at_call 11; with_reducible refine (mark_Check.calls _ c0 l0 _ _ (Kd.C_below HR.out HB.out) hc0 HF.out).mono ?_; rintro e w2 ⟨rfl, hb⟩; have n0_ := Aside0.mk (blk_below (g := gb) (o := .cells #[.int .i64 0, .int .i64 0] 31 (0, 0)) BK.out hb); have n1_ := Aside0.mk (below_step HB.out hb); clear HB BK; have BK := n0_; have HB := n1_; clear n0_ n1_ hb; have hcl0 : w2.cell? ⟨gb, 0, none⟩ = some (.int .i64 0) := ((blk_cell BK.out _).trans rfl); have hcl1 : w2.cell? ⟨gb, 1, none⟩ = some (.int .i64 0) := ((blk_cell BK.out _).trans rfl); have hf0 := blk_frozen BK.out 0; have hf1 := blk_frozen BK.out 1) | (go_at_call 20; with_reducible refine (within_no a1 _ hid).mono ?_; rintro e w' ⟨rfl, rfl⟩))
      refine bodyPost_ret (results_ct rfl _ _ gb 31 #[.int .i64 0, .int .i64 0] (0, 0) _ rfl (by refine blk_put (cs := #[.int .i64 0, .int .i64 0]) ?_ 1 _ rfl; refine blk_put (cs := #[.int .i64 0, .int .i64 0]) ?_ 0 _ rfl; exact BK.out) Try.underlying31 rfl (by kernel_rfl)) rfl ?_
      exact ⟨by first | rfl | (simp; done), by repeat (first | (with_reducible first | exact HB.out | apply below_alloc | apply pw_below_drewN | apply below_drew1 | refine below_set ?_ GB.out) | exact HB.out)⟩
  · have he : (0, 0, false) = (r1, r2, r3) := by rw [← h]; unfold fd; rw [if_neg (fun z => hck z.1)]
    obtain ⟨rfl, rfl, rfl⟩ : 0 = r1 ∧ 0 = r2 ∧ false = r3 := by simpa using he
    clear h he
    generalize ck l0 = ckv at HF hck
    have hck1 : (ckv != 0) = true := bne_iff_ne.mpr hck
    have hck2 : (ckv == 0) = false := beq_eq_false_iff_ne.mpr hck
    go_enter Try.func14, Try.ntmps14
    go_wp2_with (first | ((with_reducible refine gate_dst (N := 4) rfl ?_); refine box_event ?hg (N := 4) ?hd (cs := #[.int .i64 0, .int .i64 0]) (t := 31) ?hr ?_; (case hd => rfl); (case hg => rfl); (case hr => first | (go_simp; done) | (go_simp; rfl)); intro gb hgb w1 hbox hb; have BK := Aside0.mk hbox; have GB := Aside0.mk (by rw [hgb]; exact Nat.le_refl _ : w.heap.size ≤ gb); have n1_ := Aside0.mk (below_step HB.out hb); clear HB; have HB := n1_; clear n1_ hb hbox hgb) | (go_at_call 11; with_reducible refine (mark_Check.calls _ c0 l0 _ _ (Kd.C_below HR.out HB.out) hc0 HF.out).mono ?_; rintro e w2 ⟨rfl, hb⟩; have n0_ := Aside0.mk (blk_below (g := gb) (o := .cells #[.int .i64 0, .int .i64 0] 31 (0, 0)) BK.out hb); have n1_ := Aside0.mk (below_step HB.out hb); clear HB BK; have BK := n0_; have HB := n1_; clear n0_ n1_ hb; have hcl0 : w2.cell? ⟨gb, 0, none⟩ = some (.int .i64 0) := ((blk_cell BK.out _).trans rfl); have hcl1 : w2.cell? ⟨gb, 1, none⟩ = some (.int .i64 0) := ((blk_cell BK.out _).trans rfl); have hf0 := blk_frozen BK.out 0; have hf1 := blk_frozen BK.out 1))
    refine bodyPost_ret (results_ct rfl _ _ gb 31 #[.int .i64 0, .int .i64 0] (0, 0) _ rfl (by refine blk_put (cs := #[.int .i64 0, .int .i64 0]) ?_ 1 _ rfl; refine blk_put (cs := #[.int .i64 0, .int .i64 0]) ?_ 0 _ rfl; exact BK.out) Try.underlying31 rfl (by kernel_rfl)) rfl ?_
    exact ⟨by first | rfl | (simp; done), by repeat (first | (with_reducible first | exact HB.out | apply below_alloc | apply pw_below_drewN | apply below_drew1 | refine below_set ?_ GB.out) | exact HB.out)⟩

end Go.Proofs.Ytcalkhlchjjalaa.Q

namespace Go.Proofs.Ytcalkhlchjjalaa.Q
open Go.RowKit Go.Proofs.YtcalkhlchjjalaaW.PrintWords Go.Proofs.YtcalkhlchjjalaaW.PrintLast Go.Proofs.YtcalkhlchjjalaaW.PrintMore Go.Proofs.Ytcalkhlchjjalaa.Gput
attribute [local go_sem] max2_int min2_int max_two min_two max_three min_three max_four min_four   -- for this text's walks alone
set_option linter.unusedVariables false
set_option linter.unusedSimpArgs false

/-! ### storagebartermake_People: function 9 -/
def storagebartermake_People.l0 : Nat → Int → List (S31) → Int → Int → List Int → Int → Option ((List (S31)) × Int)
  | 0, _, _, _, _, _, _ => none
  | k + 1, x1, x5, x6, x7, x1000, x1001 => if x7 ≤ x1 then ((storagebartermake_Deck_Next.f x1000 x1001 50).bind fun bt122 => (if x5.length < 8796093022208 then (storagebartermake_People.l0 k x1 (x5 ++ [(⟨x7, wrap64 (x6 + (wrap64 (1 + bt122.1)))⟩ : S31)]) (wrap64 (x6 + (wrap64 (1 + bt122.1)))) (wrap64 (x7 + 1)) x1000 bt122.2) else (none))) else (some (x5, x1001))
def storagebartermake_People.f (k : Nat) (s0_0 : List Int) (s0_1 : Int) (a1 : Int) : Option ((List (S31)) × Int) := storagebartermake_People.l0 k a1 ([] : List (S31)) 0 1 s0_0 s0_1
theorem storagebartermake_People.mono_l : ∀ k, (∀ y0 y1 y2 y3 y4 y5, LeO (storagebartermake_People.l0 k y0 y1 y2 y3 y4 y5) (storagebartermake_People.l0 (k + 1) y0 y1 y2 y3 y4 y5))
  | 0 => fun _ _ _ _ _ _ r h => by simp [storagebartermake_People.l0] at h
  | k + 1 => by
    have ih0 := storagebartermake_People.mono_l k
    · intro y0 y1 y2 y3 y4 y5
      unfold storagebartermake_People.l0
      repeat' first
      | (with_reducible exact ih0 _ _ _ _ _ _)
      | (with_reducible exact LeO.refl _)
      | (with_reducible exact LeO.none _)
      | (with_reducible refine LeO.ite ?_ ?_)
      | (with_reducible refine LeO.bind ?_ (fun _ => ?_))
      | exact ih0 _ _ _ _ _ _
      | exact LeO.none _
      | refine LeO.ite ?_ ?_
      | refine LeO.bind ?_ (fun _ => ?_)
theorem storagebartermake_People.mono : ∀ a0 a1 a2 k, LeO (storagebartermake_People.f k a0 a1 a2) (storagebartermake_People.f (k + 1) a0 a1 a2) := by
  intro a0 a1 a2 k
  have ih0 := storagebartermake_People.mono_l k
  unfold storagebartermake_People.f
  repeat' first
      | (with_reducible exact ih0 _ _ _ _ _ _)
      | (with_reducible exact LeO.refl _)
      | (with_reducible exact LeO.none _)
      | (with_reducible refine LeO.ite ?_ ?_)
      | (with_reducible refine LeO.bind ?_ (fun _ => ?_))
      | exact ih0 _ _ _ _ _ _
      | exact LeO.none _
      | refine LeO.ite ?_ ?_
      | refine LeO.bind ?_ (fun _ => ?_)
set_option maxHeartbeats 8000000 in
set_option maxRecDepth 100000 in
theorem storagebartermake_People.calls (k : Nat) (g : Nat) (s0_0 : List Int) (s0_1 : Int) (a1 : Int) (r1 : List (S31)) (r2 : Int) (w0 w : World) (hI : IsS47 w0 w g s0_0 s0_1) (hB : Below w0.heap.size w0 w) (h : storagebartermake_People.f k s0_0 s0_1 a1 = some (r1, r2)) :
    Calls Try.prog 9 #[.pointer (some ⟨g, 0, none⟩), .int .i64 a1] w fun e w' => ∃ v0_ : Value, e = .returned (v0_) ∧ Kd.R k31 31 w' w.heap.size (fun _ => True) v0_ r1 ∧ IsS47 w0 w' g s0_0 r2 ∧ Below w0.heap.size w0 w' ∧ KeepBut w w' g none := by
  have hu31 := Try.underlying31
  have HI0 := Aside0.mk hI
  have HK := Aside0.mk (KeepBut.refl w g none)
  have HL := Aside0.mk hB.size
  clear hI
  have HW0 := Aside0.mk hB.size
  have HB := Aside0.mk hB
  clear hB
  have H : (storagebartermake_People.l0 k a1 ([] : List (S31)) 0 1 s0_0 s0_1) = some (r1, r2) := h
  clear h
  have H' := Aside0.mk H
  clear H
  go_enter Try.func9, Try.ntmps9
  go_wp2
  go_loopg [5, 6, 7] k (fun kq v5 v6 v7 w' => ∃ (x5_1 : List (S31)) (x6_1 : Int) (x7_1 : Int) (x1001_1 : Int), v6 = .int .i64 x6_1 ∧ v7 = .int .i64 x7_1 ∧ Aside0 (storagebartermake_People.l0 kq a1 x5_1 x6_1 x7_1 s0_0 x1001_1 = some (r1, r2)) ∧ Aside0 (kq ≤ k) ∧ Aside0 (Kd.R k31 31 w' w.heap.size (fun _ => True) v5 x5_1) ∧ Aside0 (IsS47 w0 w' g s0_0 x1001_1) ∧ Aside0 (KeepBut w w' g none) ∧ Aside0 (Below w0.heap.size w0 w'))
  case atStart => exact ⟨(([] : List (S31))), (0), (1), (s0_1), (by first | rfl | (simp; done) | (simp [*]; done)), (by first | rfl | (simp; done) | (simp [*]; done)), H', ⟨Nat.le_refl _⟩, ⟨by first | exact Kd.R_nil _ _ _ _ _ | exact Kd.N_nil _ _ _ _ _ | exact Kd.V_nil _ _ _ _ _ | exact Kd.Q_nil _ _ _ _ _ | exact Kd.S_nil _ _ _ _ _⟩, ⟨by repeat (first | (with_reducible first | exact HI0.out | apply IsS47.alloc | apply IsS47.drewN | apply IsS47.drew | apply IsS47.set_1) | exact HI0.out)⟩, ⟨by repeat (first | (with_reducible first | exact HK.out | apply KeepBut.set_ | apply keep_drewN | apply keep_drew | apply keep_alloc) | exact HK.out)⟩, ⟨by repeat (first | (with_reducible first | exact HB.out | apply below_alloc | apply pw_below_drewN | apply below_drew1 | refine below_set ?_ (IsS47.ge HI0.out)) | exact HB.out)⟩⟩
  case round =>
    clear H'
    try clear p2
    obtain ⟨x5_1, x6_1, x7_1, x1001_1, rfl, rfl, HA, HK1, HO_5, HI0, HK, HB⟩ := hrel
    cases gk with
    | zero => exact absurd HA.out (by simp [storagebartermake_People.l0])
    | succ k1 =>
      have H := HA.out
      clear HA
      simp only [storagebartermake_People.l0] at H
      by_cases c3 : x7_1 ≤ a1
      · rw [if_pos c3] at H
        have c3b0 : decide (x7_1 ≤ a1) = true := decide_eq_true c3
        clear c3
        replace H := Option.bind_eq_some_iff.mp H
        obtain ⟨⟨t122, t123⟩, A40, H⟩ := H
        replace H : (if x5_1.length < 8796093022208 then (storagebartermake_People.l0 k1 a1 (x5_1 ++ [(⟨x7_1, wrap64 (x6_1 + (wrap64 (1 + t122)))⟩ : S31)]) (wrap64 (x6_1 + (wrap64 (1 + t122)))) (wrap64 (x7_1 + 1)) s0_0 t123) else (none)) = some (r1, r2) := H
        have A4 := Aside0.mk A40
        clear A40
        by_cases c5 : x5_1.length < 8796093022208
        · rw [if_pos c5] at H
          have LMc5 := Aside0.mk c5
          clear c5
          obtain ⟨y124, hy124⟩ : ∃ y_ : List (S31), y_ = (x5_1 ++ [(⟨x7_1, wrap64 (x6_1 + (wrap64 (1 + t122)))⟩ : S31)]) := ⟨_, rfl⟩
          replace H : (storagebartermake_People.l0 k1 a1 y124 (wrap64 (x6_1 + (wrap64 (1 + t122)))) (wrap64 (x7_1 + 1)) s0_0 t123) = some (r1, r2) := by first | (rw [hy124]; with_reducible exact H) | (have H2_ := (Option.bind_some _ _).symm.trans H; rw [hy124]; with_reducible exact H2_) | (have H2_ := (Option.bind_some _ _).symm.trans H; with_reducible exact H2_) | with_reducible exact H | (rw [hy124]; exact H) | exact H
          have Ny124 := Aside0.mk hy124
          clear hy124
          have H' := Aside0.mk H
          clear H
          go_wp2_with (first | ((with_reducible refine gate_callee (f := 10) rfl ?_); refine goesL_ (some 15) rfl rfl Try.func10 (by kernel_rfl) rfl #[.pointer (some ⟨g, 0, none⟩), .int .i64 50] rfl (by (try simp only [List.map_toArray, List.map_cons, List.map_nil]); first | done | rfl | (simp only [List.length_drop, List.length_take]; rfl)) ?_; (with_reducible refine (storagebartermake_Deck_Next.calls g s0_0 x1001_1 50 t122 t123 w0 _ ?side1 ?side2 A4.out).mono ?_); (case side1 => repeat (first | (with_reducible first | exact HI0.out | apply IsS47.alloc | apply IsS47.drewN | apply IsS47.drew | apply IsS47.set_1) | exact HI0.out)); (case side2 => repeat (first | (with_reducible first | exact HB.out | apply below_alloc | apply pw_below_drewN | apply below_drew1 | refine below_set ?_ (IsS47.ge HI0.out)) | exact HB.out)); rintro e w6 ⟨rfl, hi, hb, hk⟩; refine ⟨_, rfl, ?_⟩; have n0_ := Aside0.mk (Kd.R_mono (Kd.R_keep (IsS47.apart (show IsS47 w0 _ g s0_0 x1001_1 from by repeat (first | (with_reducible first | exact HI0.out | apply IsS47.alloc | apply IsS47.drewN | apply IsS47.drew | apply IsS47.set_1) | exact HI0.out)) (by (with_reducible repeat (first | apply Kd.R_alloc | apply Kd.R_drewN | apply Kd.R_drew)); exact HO_5.out) (by decide)) hk (fun _ h => h.2)) (fun _ h => h.1)); have n1_ := Aside0.mk (KeepBut.trans (by repeat (first | (with_reducible first | exact HK.out | apply KeepBut.set_ | apply keep_drewN | apply keep_drew | apply keep_alloc) | exact HK.out)) hk (.inl rfl)); have n2_ := Aside0.mk (hb); have n3_ := Aside0.mk (hi); clear HO_5; clear HK; clear HB; clear HI0; have HO_5 := n0_; have HK := n1_; have HB := n2_; have HI0 := n3_; clear n0_ n1_ n2_ n3_; (try clear hb); (try clear hb2); (try clear hk); (try clear hi)) | ((with_reducible refine gate_builtin (b := .append) (xs := #[.tmp 18, .tmp 22]) rfl ?_); at_builtin; refine Kd.R_append k31 w.heap.size rfl (.tmp 18) (.tmp 22) 23 31 (.agg #[(.int .i64 0), (.int .i64 0)]) 16 rfl Try.underlying23 info31 rfl (by decide) (by omega) u5 x5_1 (⟨x7_1, wrap64 (x6_1 + (wrap64 (1 + t122)))⟩ : S31) [.int .i64 x7_1, .int .i64 (wrap64 (x6_1 + (wrap64 (1 + t122))))] (fun _ => True) (fun _ => False) rfl rfl ?aP (fun _ hk => hk.elim) ?aF ?aO (Below.refl _ _) ?aS ?aL ?_; (case aP => exact k31_mkM _ _ _ (⟨x7_1, wrap64 (x6_1 + (wrap64 (1 + t122)))⟩ : S31)); (case aF => exact (fun _ _ => trivial)); (case aO => exact (by (with_reducible repeat (first | apply Kd.R_alloc | apply Kd.R_drewN | apply Kd.R_drew)); exact HO_5.out)); (case aS => exact (keep_size (w := w) (g := g) (row := none) (by repeat (first | (with_reducible first | exact HK.out | apply KeepBut.set_ | apply keep_drewN | apply keep_drew | apply keep_alloc) | exact HK.out)))); (case aL => have := LMc5.out; omega); intro v125 w7 ho hb hg hat; rw [← Ny124.out] at ho; have n0_ := Aside0.mk (IsS47.grown (by repeat (first | (with_reducible first | exact HI0.out | apply IsS47.alloc | apply IsS47.drewN | apply IsS47.drew | apply IsS47.set_1) | exact HI0.out)) hg (IsS47.own_ne HI0.out HO_5.out (by decide))); have n1_ := Aside0.mk (below_weaken (by repeat (first | (with_reducible first | exact HB.out | apply below_alloc | apply pw_below_drewN | apply below_drew1 | refine below_set ?_ (IsS47.ge HI0.out)) | exact HB.out)) HL.out hb); have n2_ := Aside0.mk (KeepBut.trans (by repeat (first | (with_reducible first | exact HK.out | apply KeepBut.set_ | apply keep_drewN | apply keep_drew | apply keep_alloc) | exact HK.out)) (KeepBut.of_grown hg g) (Kd.R_base2 HO_5.out)); have n3_ := Aside0.mk (ho); clear HI0; clear HB; clear HK; clear HO_5; have HI0 := n0_; have HB := n1_; have HK := n2_; have HO126 := n3_; clear n0_ n1_ n2_ n3_; clear ho hb hg hat))
          go_roundg k1
          case measure => have := HK1.out; omega
          case rel => exact ⟨(y124), (wrap64 (x6_1 + (wrap64 (1 + t122)))), (wrap64 (x7_1 + 1)), (t123), (by first | rfl | (simp; done) | (simp [*]; done)), (by first | rfl | (simp; done) | (simp [*]; done)), H', ⟨by have := HK1.out; omega⟩, ⟨by (with_reducible repeat (first | apply Kd.R_alloc | apply Kd.R_drewN | apply Kd.R_drew)); exact HO126.out⟩, ⟨by repeat (first | (with_reducible first | exact HI0.out | apply IsS47.alloc | apply IsS47.drewN | apply IsS47.drew | apply IsS47.set_1) | exact HI0.out)⟩, ⟨by repeat (first | (with_reducible first | exact HK.out | apply KeepBut.set_ | apply keep_drewN | apply keep_drew | apply keep_alloc) | exact HK.out)⟩, ⟨by repeat (first | (with_reducible first | exact HB.out | apply below_alloc | apply pw_below_drewN | apply below_drew1 | refine below_set ?_ (IsS47.ge HI0.out)) | exact HB.out)⟩⟩
        · rw [if_neg c5] at H
          exact absurd H (by simp)
      · rw [if_neg c3] at H
        have c3b0 : decide (x7_1 ≤ a1) = false := decide_eq_false c3
        clear c3
        simp only [Option.some.injEq, Prod.mk.injEq] at H
        obtain ⟨rfl, rfl⟩ := H
        go_wp2
        go_ret
        exact ⟨_, by first | rfl | (simp [errW_none, errW_some] <;> rfl) | (simp [*, errW_none, errW_some] <;> rfl), by (with_reducible repeat (first | apply Kd.R_alloc | apply Kd.R_drewN | apply Kd.R_drew)); exact HO_5.out, by repeat (first | (with_reducible first | exact HI0.out | apply IsS47.alloc | apply IsS47.drewN | apply IsS47.drew | apply IsS47.set_1) | exact HI0.out), by repeat (first | (with_reducible first | exact HB.out | apply below_alloc | apply pw_below_drewN | apply below_drew1 | refine below_set ?_ (IsS47.ge HI0.out)) | exact HB.out), by repeat (first | (with_reducible first | exact HK.out | apply KeepBut.set_ | apply keep_drewN | apply keep_drew | apply keep_alloc) | exact HK.out)⟩

end Go.Proofs.Ytcalkhlchjjalaa.Q

/- Directories that are made out of choices: they are valid, and who is in them. -/
namespace Go.Proofs.Ytcalkhlchjjalaa.Gpp
open Go Go.RowKit Go.Proofs.Ytcalkhlchjjalaa.Gm Go.Proofs.Ytcalkhlchjjalaa.Gdm Go.Proofs.Ytcalkhlchjjalaa.Q Go.Proofs.Ytcalkhlchjjalaa.Gput Go.Proofs.YtcalkhlchjjalaaW.PrintWords Go.Proofs.YtcalkhlchjjalaaW.PrintLast Go.Proofs.YtcalkhlchjjalaaW.PrintMore
set_option linter.unusedVariables false

/-- People as they are made: numbered from 1, with secrets that grow. -/
structure Made (l : List S31) (sec : Int) : Prop where
  ids : ∀ (j : Nat) (h : j < l.length), l[j].f0 = j + 1
  secs : l.Pairwise (fun p q => p.f1 < q.f1)
  low : ∀ p ∈ l, 1 ≤ p.f1 ∧ p.f1 ≤ sec
  high : 0 ≤ sec ∧ sec ≤ 50 * l.length

theorem Made.snoc {l : List S31} {sec t : Int} (h : Made l sec) (h0 : 0 ≤ t) (h1 : t < 50) : Made (l ++ [⟨(l.length : Int) + 1, sec + (1 + t)⟩]) (sec + (1 + t)) := by
  refine ⟨fun j hj => ?_, ?_, fun p hp => ?_, ?_⟩
  · rw [List.length_append, List.length_singleton] at hj
    by_cases hjl : j < l.length
    · rw [List.getElem_append_left hjl]; exact h.ids j hjl
    · obtain rfl : j = l.length := by omega
      rw [List.getElem_append_right (Nat.le_refl _)]
      simp
  · rw [List.pairwise_append]
    refine ⟨h.secs, List.pairwise_singleton _ _, fun p hp q hq => ?_⟩
    rw [List.mem_singleton] at hq
    subst hq
    have := (h.low p hp).2
    show p.f1 < sec + (1 + t)
    omega
  · rcases List.mem_append.1 hp with hp | hp
    · have := h.low p hp; omega
    · rw [List.mem_singleton] at hp
      subst hp
      have := h.high
      show 1 ≤ sec + (1 + t) ∧ sec + (1 + t) ≤ sec + (1 + t)
      omega
  · rw [List.length_append, List.length_singleton]
    have := h.high
    omega

theorem People_l0 (L : List Int) (hL : L.length ≤ 1000000) (n : Nat) (hn : n ≤ 1000) : ∀ (d : Nat) (l : List S31) (sec at_ : Int) (k : Nat), n - l.length = d → l.length ≤ n → Made l sec → 0 ≤ at_ → d < k →
    ∃ l' sec' at', storagebartermake_People.l0 k n l sec ((l.length : Int) + 1) L at_ = some (l', at') ∧ Made l' sec' ∧ l'.length = n ∧ 0 ≤ at' := by
  intro d
  induction d with
  | zero =>
    intro l sec at_ k hd hle hm h0 hk
    obtain ⟨k, rfl⟩ : ∃ m, k = m + 1 := ⟨k - 1, by omega⟩
    rw [storagebartermake_People.l0, if_neg (by omega)]
    exact ⟨l, sec, at_, rfl, hm, by omega, h0⟩
  | succ d ih =>
    intro l sec at_ k hd hle hm h0 hk
    obtain ⟨k, rfl⟩ : ∃ m, k = m + 1 := ⟨k - 1, by omega⟩
    obtain ⟨t, at', e, ht0, ht1, hat⟩ := next_ok L at_ 50 (by omega) (by omega) h0 hL
    have hh := hm.high
    rw [storagebartermake_People.l0, if_pos (by omega), e, Option.bind_some, if_pos (by omega), w64 (x := 1 + t) (by omega), w64 (x := sec + (1 + t)) (by omega), w64 (by omega)]
    have hlen : (((l ++ [(⟨(l.length : Int) + 1, sec + (1 + t)⟩ : S31)]).length : Nat) : Int) + 1 = (l.length : Int) + 1 + 1 := by simp
    rw [← hlen]
    exact ih _ _ at' k (by simp; omega) (by simp; omega) (hm.snoc ht0 ht1) hat (by omega)

theorem People_ok (L : List Int) (hL : L.length ≤ 1000000) (at_ : Int) (h0 : 0 ≤ at_) (n : Nat) (hn : n ≤ 1000) (k : Nat) (hk : n < k) : ∃ l sec at', storagebartermake_People.f k L at_ n = some (l, at') ∧ Made l sec ∧ l.length = n ∧ 0 ≤ at' := by
  unfold storagebartermake_People.f
  exact People_l0 L hL n hn n [] 0 at_ k (by simp) (by simp) ⟨fun j h => absurd h (by simp), List.Pairwise.nil, fun p hp => absurd hp (by simp), by simp⟩ h0 hk

theorem ckGo_of : ∀ (l : List S31) (prev : Option Int) (seen : List Int), (∀ p ∈ l, within p.f0 ∧ within p.f1) → (∀ q, prev = some q → ∀ p ∈ l, q < p.f0) → l.Pairwise (fun p q => p.f0 < q.f0) → (∀ p ∈ l, p.f1 ∉ seen) → l.Pairwise (fun p q => p.f1 ≠ q.f1) → ckGo prev seen l = 0 := by
  intro l
  induction l with
  | nil => intros; rfl
  | cons p r ih =>
    intro prev seen h1 h2 h3 h4 h5
    obtain ⟨h3a, h3b⟩ := List.pairwise_cons.1 h3
    obtain ⟨h5a, h5b⟩ := List.pairwise_cons.1 h5
    rw [ckGo, if_neg (fun z => z (h1 p List.mem_cons_self)), if_neg (by rintro ⟨q, hq, z⟩; have := h2 q hq p List.mem_cons_self; omega), if_neg (h4 p List.mem_cons_self)]
    refine ih _ _ (fun x hx => h1 x (List.mem_cons_of_mem _ hx)) (fun q hq x hx => ?_) h3b (fun x hx => ?_) h5b
    · cases hq; exact h3a x hx
    · intro z
      rcases List.mem_cons.1 z with z | z
      · exact h5a x hx z.symm
      · exact h4 x (List.mem_cons_of_mem _ hx) z

theorem Made.pairs {l : List S31} {sec : Int} (h : Made l sec) : l.Pairwise (fun p q => p.f0 < q.f0) := by
  rw [List.pairwise_iff_getElem]
  intro i j hi hj hij
  rw [h.ids i hi, h.ids j hj]
  omega

theorem Made.within {l : List S31} {sec : Int} (h : Made l sec) (hl : l.length ≤ 16) : ∀ p ∈ l, Q.within p.f0 ∧ Q.within p.f1 := by
  intro p hp
  have h1 := h.low p hp
  have h2 := h.high
  obtain ⟨j, hj, rfl⟩ := List.getElem_of_mem hp
  rw [h.ids j hj]
  unfold Q.within
  omega

theorem Made.ck {l : List S31} {sec : Int} (h : Made l sec) (hl : l.length ≤ 16) : Q.ck l = 0 := by
  unfold Q.ck
  rw [if_neg (by omega)]
  exact ckGo_of l none [] (h.within hl) (fun q hq => by cases hq) h.pairs (fun p hp => by simp) (h.secs.imp fun z => by omega)

theorem Made.wf {l : List S31} {sec : Int} (h : Made l sec) (hl : l.length ≤ 16) : l.all (fun p => (Lit.int .i64 p.f1).wf) = true := by
  rw [List.all_eq_true]
  intro p hp
  have := (h.within hl p hp).2
  unfold Q.within at this
  exact wf64 (by omega)

theorem Check_made {l : List S31} {sec : Int} (h : Made l sec) (hl : l.length ≤ 16) : mark_Check.f l = some 0 := by
  unfold mark_Check.f
  rw [if_pos (h.wf hl), h.ck hl]

theorem Find_made {l : List S31} {sec : Int} (h : Made l sec) (hl : l.length ≤ 16) (j : Nat) (hj : j < l.length) : mark_Find.f l ((j : Int) + 1) = some ((j : Int) + 1, l[j].f1, true) := by
  unfold mark_Find.f fd
  have hf : l.find? (fun p => p.f0 == (j : Int) + 1) = some l[j] := by
    rw [List.find?_eq_some_iff_getElem]
    refine ⟨by simp [h.ids j hj], j, hj, rfl, fun i hi => ?_⟩
    simp only [h.ids i (by omega), Bool.not_eq_true', beq_eq_false_iff_ne]
    omega
  rw [if_pos (h.wf hl), if_pos ⟨h.ck hl, by unfold Q.within; omega⟩, hf]
  simp only [h.ids j hj]

theorem Find_none {l : List S31} {sec : Int} (h : Made l sec) (hl : l.length ≤ 16) (id : Int) (hid : id < 1 ∨ (l.length : Int) < id) : mark_Find.f l id = some (0, 0, false) := by
  unfold mark_Find.f fd
  have hf : l.find? (fun p => p.f0 == id) = none := by
    rw [List.find?_eq_none]
    intro p hp
    obtain ⟨j, hj, rfl⟩ := List.getElem_of_mem hp
    rw [h.ids j hj]
    simp only [beq_iff_eq]
    omega
  rw [if_pos (h.wf hl), hf]
  simp

end Go.Proofs.Ytcalkhlchjjalaa.Gpp

namespace Go.Proofs.Ytcalkhlchjjalaa.Q
open Go.RowKit Go.Proofs.YtcalkhlchjjalaaW.PrintWords Go.Proofs.YtcalkhlchjjalaaW.PrintLast Go.Proofs.YtcalkhlchjjalaaW.PrintMore Go.Proofs.Ytcalkhlchjjalaa.Gput
attribute [local go_sem] max2_int min2_int max_two min_two max_three min_three max_four min_four   -- for this text's walks alone
set_option linter.unusedVariables false
set_option linter.unusedSimpArgs false

/-! ### mark_Sign: function 19 -/
def mark_Sign.f (k : Nat) (a0 : Int) (a1 : ByteArray) : Option (Int × Int) := (mark_within.f a0).bind fun t101 => (if t101 = true then (if (a1.size : Int) > 16384 then (some (0, 4)) else ((wire_PutInt.f (⟨#[]⟩ : ByteArray) a0).bind fun t102 => (if t102.size + a1.size ≤ 9223372036854775807 then ((digest_Sum.f k (t102 ++ a1)).bind fun t103 => (some (t103, 0))) else (none)))) else (some (0, 1)))
theorem mark_Sign.mono : ∀ a0 a1 k, LeO (mark_Sign.f k a0 a1) (mark_Sign.f (k + 1) a0 a1) := by
  intro a0 a1 k
  unfold mark_Sign.f
  repeat' first
      | (with_reducible exact digest_Sum.mono _ _)
      | (with_reducible exact LeO.refl _)
      | (with_reducible exact LeO.none _)
      | (with_reducible refine LeO.ite ?_ ?_)
      | (with_reducible refine LeO.bind ?_ (fun _ => ?_))
      | exact digest_Sum.mono _ _
      | exact LeO.none _
      | refine LeO.ite ?_ ?_
      | refine LeO.bind ?_ (fun _ => ?_)
set_option maxHeartbeats 8000000 in
set_option maxRecDepth 100000 in
theorem mark_Sign.calls (k : Nat) (a0 : Int) (a1 : ByteArray) (r1 : Int) (r2 : Int) (w : World) (h : mark_Sign.f k a0 a1 = some (r1, r2)) :
    Calls Try.prog 19 #[.int .i64 a0, .string a1] w fun e w' => e = .returned (.tuple #[.int .i64 r1, .int .i64 r2]) ∧ Below w.heap.size w w' := by
  have HB := Aside0.mk (Below.refl w.heap.size w)
  have H : ((mark_within.f a0).bind fun t101 => (if t101 = true then (if (a1.size : Int) > 16384 then (some (0, 4)) else ((wire_PutInt.f (⟨#[]⟩ : ByteArray) a0).bind fun t102 => (if t102.size + a1.size ≤ 9223372036854775807 then ((digest_Sum.f k (t102 ++ a1)).bind fun t103 => (some (t103, 0))) else (none)))) else (some (0, 1)))) = some (r1, r2) := h
  clear h
  replace H := Option.bind_eq_some_iff.mp H
  obtain ⟨t101, A30, H⟩ := H
  replace H : (if t101 = true then (if (a1.size : Int) > 16384 then (some (0, 4)) else ((wire_PutInt.f (⟨#[]⟩ : ByteArray) a0).bind fun t102 => (if t102.size + a1.size ≤ 9223372036854775807 then ((digest_Sum.f k (t102 ++ a1)).bind fun t103 => (some (t103, 0))) else (none)))) else (some (0, 1))) = some (r1, r2) := H
  have A3 := Aside0.mk A30
  clear A30
  by_cases c4 : t101 = true
  · subst c4
    have H1 : (if (a1.size : Int) > 16384 then (some (0, 4)) else ((wire_PutInt.f (⟨#[]⟩ : ByteArray) a0).bind fun t102 => (if t102.size + a1.size ≤ 9223372036854775807 then ((digest_Sum.f k (t102 ++ a1)).bind fun t103 => (some (t103, 0))) else (none)))) = some (r1, r2) := by rw [if_pos rfl] at H; exact H
    clear H
    have H := H1
    clear H1
    by_cases c5 : (a1.size : Int) > 16384
    · rw [if_pos c5] at H
      have c5b0 : decide (16384 < (a1.size : Int)) = true := decide_eq_true c5
      have c5b1 : decide (16384 < a1.size) = true := decide_eq_true (by omega)
      clear c5
      simp only [Option.some.injEq, Prod.mk.injEq] at H
      obtain ⟨rfl, rfl⟩ := H
      go_enter Try.func19, Try.ntmps19
      go_wp2_with (first | ((with_reducible refine gate_callee (f := 20) rfl ?_); refine goesL_ (some 7) rfl rfl Try.func20 (by kernel_rfl) rfl #[.int .i64 a0] rfl (by (try simp only [List.map_toArray, List.map_cons, List.map_nil]); first | done | rfl | (simp only [List.length_drop, List.length_take]; rfl)) ?_; (with_reducible refine (mark_within.calls a0 true _ A3.out).mono ?_); rintro e w' ⟨rfl, ⟨nd, rfl⟩⟩; refine ⟨_, rfl, ?_⟩))
      go_ret2
      exact ⟨by first | rfl | (simp [errW_none, errW_some] <;> rfl) | (simp [*, errW_none, errW_some] <;> rfl), by repeat (first | (with_reducible first | exact HB.out | apply below_alloc | apply pw_below_drewN | apply below_drew1) | exact HB.out)⟩
    · rw [if_neg c5] at H
      have c5b0 : decide (16384 < (a1.size : Int)) = false := decide_eq_false c5
      have c5b1 : decide (16384 < a1.size) = false := decide_eq_false (by omega)
      clear c5
      replace H := Option.bind_eq_some_iff.mp H
      obtain ⟨t102, A60, H⟩ := H
      replace H : (if t102.size + a1.size ≤ 9223372036854775807 then ((digest_Sum.f k (t102 ++ a1)).bind fun t103 => (some (t103, 0))) else (none)) = some (r1, r2) := H
      have A6 := Aside0.mk A60
      clear A60
      by_cases c7 : t102.size + a1.size ≤ 9223372036854775807
      · rw [if_pos c7] at H
        have c7b0 := eq_true c7
        have c7b1 : decide (t102.size + a1.size ≤ 9223372036854775807) = true := decide_eq_true c7
        try have c7b2 : (9223372036854775807 < t102.size + a1.size) = False := eq_false (Nat.not_lt.2 c7)
        replace H := Option.bind_eq_some_iff.mp H
        obtain ⟨t103, A80, H⟩ := H
        replace H : (some (t103, 0)) = some (r1, r2) := H
        have A8 := Aside0.mk A80
        clear A80
        simp only [Option.some.injEq, Prod.mk.injEq] at H
        obtain ⟨rfl, rfl⟩ := H
        go_enter Try.func19, Try.ntmps19
        go_wp2_with (first | ((with_reducible refine gate_callee (f := 20) rfl ?_); refine goesL_ (some 7) rfl rfl Try.func20 (by kernel_rfl) rfl #[.int .i64 a0] rfl (by (try simp only [List.map_toArray, List.map_cons, List.map_nil]); first | done | rfl | (simp only [List.length_drop, List.length_take]; rfl)) ?_; (with_reducible refine (mark_within.calls a0 true _ A3.out).mono ?_); rintro e w' ⟨rfl, ⟨nd, rfl⟩⟩; refine ⟨_, rfl, ?_⟩) | ((with_reducible refine gate_callee (f := 28) rfl ?_); refine goesL_ (some 13) rfl rfl Try.func28 (by kernel_rfl) rfl #[.string (⟨#[]⟩ : ByteArray), .int .i64 a0] rfl (by (try simp only [List.map_toArray, List.map_cons, List.map_nil]); first | done | rfl | (simp only [List.length_drop, List.length_take]; rfl)) ?_; (with_reducible refine (wire_PutInt.calls (⟨#[]⟩ : ByteArray) a0 t102 _ A6.out).mono ?_); rintro e w9 ⟨rfl, hb⟩; refine ⟨_, rfl, ?_⟩; have n0_ := Aside0.mk (below_step (by repeat (first | (with_reducible first | exact HB.out | apply below_alloc | apply pw_below_drewN | apply below_drew1) | exact HB.out)) hb); clear HB; have HB := n0_; clear n0_; (try clear hb); (try clear hb2); (try clear hk); (try clear hi)) | ((with_reducible refine gate_callee (f := 27) rfl ?_); refine goesL_ (some 16) rfl rfl Try.func27 (by kernel_rfl) rfl #[.string (t102 ++ a1)] rfl (by (try simp only [List.map_toArray, List.map_cons, List.map_nil]); first | done | rfl | (simp only [List.length_drop, List.length_take]; rfl)) ?_; (with_reducible refine (digest_Sum.calls k (t102 ++ a1) t103 _ A8.out).mono ?_); rintro e w' ⟨rfl, ⟨nd, rfl⟩⟩; refine ⟨_, rfl, ?_⟩))
        go_ret2
        exact ⟨by first | rfl | (simp [errW_none, errW_some] <;> rfl) | (simp [*, errW_none, errW_some] <;> rfl), by repeat (first | (with_reducible first | exact HB.out | apply below_alloc | apply pw_below_drewN | apply below_drew1) | exact HB.out)⟩
      · rw [if_neg c7] at H
        exact absurd H (by simp)
  · replace c4 := Bool.eq_false_iff.mpr c4
    subst c4
    have H1 : (some (0, 1)) = some (r1, r2) := by rw [if_neg (show ¬ (false = true) by decide)] at H; exact H
    clear H
    have H := H1
    clear H1
    simp only [Option.some.injEq, Prod.mk.injEq] at H
    obtain ⟨rfl, rfl⟩ := H
    go_enter Try.func19, Try.ntmps19
    go_wp2_with (first | ((with_reducible refine gate_callee (f := 20) rfl ?_); refine goesL_ (some 7) rfl rfl Try.func20 (by kernel_rfl) rfl #[.int .i64 a0] rfl (by (try simp only [List.map_toArray, List.map_cons, List.map_nil]); first | done | rfl | (simp only [List.length_drop, List.length_take]; rfl)) ?_; (with_reducible refine (mark_within.calls a0 false _ A3.out).mono ?_); rintro e w' ⟨rfl, ⟨nd, rfl⟩⟩; refine ⟨_, rfl, ?_⟩))
    go_ret2
    exact ⟨by first | rfl | (simp [errW_none, errW_some] <;> rfl) | (simp [*, errW_none, errW_some] <;> rfl), by repeat (first | (with_reducible first | exact HB.out | apply below_alloc | apply pw_below_drewN | apply below_drew1) | exact HB.out)⟩

end Go.Proofs.Ytcalkhlchjjalaa.Q

namespace Go.Proofs.Ytcalkhlchjjalaa.Q
open Go.RowKit Go.Proofs.YtcalkhlchjjalaaW.PrintWords Go.Proofs.YtcalkhlchjjalaaW.PrintLast Go.Proofs.YtcalkhlchjjalaaW.PrintMore Go.Proofs.Ytcalkhlchjjalaa.Gput
attribute [local go_sem] max2_int min2_int max_two min_two max_three min_three max_four min_four   -- for this text's walks alone
set_option linter.unusedVariables false
set_option linter.unusedSimpArgs false

/-! ### mark_Verify: function 17 -/
def mark_Verify.f (k : Nat) (l0 : List (S31)) (a1 : Int) (a2 : ByteArray) (a3 : Int) : Option (Bool) := (mark_Find.f l0 a1).bind fun bt104 => (if bt104.2.2 = true then ((mark_Sign.f k bt104.2.1 a2).bind fun bt108 => (if bt108.2 = 0 then (some (a3 == bt108.1)) else (some false))) else (some false))
theorem mark_Verify.mono : ∀ a0 a1 a2 a3 k, LeO (mark_Verify.f k a0 a1 a2 a3) (mark_Verify.f (k + 1) a0 a1 a2 a3) := by
  intro a0 a1 a2 a3 k
  unfold mark_Verify.f
  repeat' first
      | (with_reducible exact mark_Sign.mono _ _ _)
      | (with_reducible exact LeO.refl _)
      | (with_reducible exact LeO.none _)
      | (with_reducible refine LeO.ite ?_ ?_)
      | (with_reducible refine LeO.bind ?_ (fun _ => ?_))
      | exact mark_Sign.mono _ _ _
      | exact LeO.none _
      | refine LeO.ite ?_ ?_
      | refine LeO.bind ?_ (fun _ => ?_)
set_option maxHeartbeats 8000000 in
set_option maxRecDepth 100000 in
theorem mark_Verify.calls (k : Nat) (A0 : Option Addr) (c0 : Nat) (l0 : List (S31)) (a1 : Int) (a2 : ByteArray) (a3 : Int) (r : Bool) (w : World) (hr0 : Kd.C k31 w A0 l0.length l0) (hc0 : l0.length ≤ c0) (h : mark_Verify.f k l0 a1 a2 a3 = some r) :
    Calls Try.prog 17 #[.slice A0 l0.length c0, .int .i64 a1, .string a2, .int .i64 a3] w fun e w' => e = .returned (.bool r) ∧ Below w.heap.size w w' := by
  have hu31 := Try.underlying31
  have HR0 := Aside0.mk hr0
  have HC0 := Aside0.mk hc0
  clear hr0 hc0
  have HB := Aside0.mk (Below.refl w.heap.size w)
  have H : ((mark_Find.f l0 a1).bind fun bt104 => (if bt104.2.2 = true then ((mark_Sign.f k bt104.2.1 a2).bind fun bt108 => (if bt108.2 = 0 then (some (a3 == bt108.1)) else (some false))) else (some false))) = some r := h
  clear h
  replace H := Option.bind_eq_some_iff.mp H
  obtain ⟨⟨t104, t105, t106⟩, A50, H⟩ := H
  replace H : (if t106 = true then ((mark_Sign.f k t105 a2).bind fun bt108 => (if bt108.2 = 0 then (some (a3 == bt108.1)) else (some false))) else (some false)) = some r := H
  have A5 := Aside0.mk A50
  clear A50
  by_cases c6 : t106 = true
  · subst c6
    have H1 : ((mark_Sign.f k t105 a2).bind fun bt108 => (if bt108.2 = 0 then (some (a3 == bt108.1)) else (some false))) = some r := by rw [if_pos rfl] at H; exact H
    clear H
    have H := H1
    clear H1
    replace H := Option.bind_eq_some_iff.mp H
    obtain ⟨⟨t108, t109⟩, A70, H⟩ := H
    replace H : (if t109 = 0 then (some (a3 == t108)) else (some false)) = some r := H
    have A7 := Aside0.mk A70
    clear A70
    by_cases c8 : t109 = 0
    · rw [if_pos c8] at H
      have c8b0 : (t109 == 0) = true := beq_iff_eq.mpr c8
      have c8b1 : (t109 != 0) = false := bne_eq_false_iff_eq.mpr c8
      clear c8
      obtain rfl := Option.some.inj H
      go_enter Try.func17, Try.ntmps17
      go_wp2_with (first | ((with_reducible refine gate_callee (f := 14) rfl ?_); refine goesL_ (some 16) rfl rfl Try.func14 (by kernel_rfl) rfl #[.slice A0 l0.length c0, .int .i64 a1] rfl (by (try simp only [List.map_toArray, List.map_cons, List.map_nil]); first | done | rfl | (simp only [List.length_drop, List.length_take]; rfl)) ?_; (with_reducible refine (mark_Find.calls _ _ l0 a1 t104 t105 true _ ?side1 ?side2 A5.out).mono ?_); (case side1 => repeat (first | exact HR0.out | (with_reducible refine Kd.C_alloc ?_ _) | (with_reducible refine Kd.C_drewN ?_ _) | (with_reducible refine Kd.C_drew ?_))); (case side2 => exact HC0.out); rintro e w9 ⟨rfl, hb⟩; refine ⟨_, rfl, ?_⟩; have n0_ := Aside0.mk (below_step (by repeat (first | (with_reducible first | exact HB.out | apply below_alloc | apply pw_below_drewN | apply below_drew1) | exact HB.out)) hb); clear HB; have HB := n0_; clear n0_; (try clear hb); (try clear hb2); (try clear hk); (try clear hi)) | ((with_reducible refine gate_dst (N := 9) rfl ?_); refine box_event ?hg (N := 9) ?hd (cs := #[.int .i64 0, .int .i64 0]) (t := 31) ?hr ?_; (case hd => rfl); (case hg => rfl); (case hr => first | (go_simp; done) | (go_simp; rfl)); intro gb107 hg w10 hbox hb; have n0_ := Aside0.mk (below_step (by repeat (first | (with_reducible first | exact HB.out | apply below_alloc | apply pw_below_drewN | apply below_drew1) | exact HB.out)) hb); have n1_ := Aside0.mk (hbox); have n2_ := Aside0.mk ((by rw [hg]; exact (below_size (by repeat (first | (with_reducible first | exact HB.out | apply below_alloc | apply pw_below_drewN | apply below_drew1) | exact HB.out))) : w.heap.size ≤ gb107)); have n3_ := Aside0.mk ((by rw [hg]; exact (below_size (by repeat (first | (with_reducible first | exact HB.out | apply below_alloc | apply pw_below_drewN | apply below_drew1) | exact HB.out))) : w.heap.size ≤ gb107)); clear HB; have HB := n0_; have BK107 := n1_; have GW107 := n2_; have GE107 := n3_; clear n0_ n1_ n2_ n3_; clear hb hbox hg; have hcz11_0 : w10.cell? ⟨gb107, 0, none⟩ = some (.int .i64 0) := (blk_cell BK107.out 0).trans rfl; have hcz11_1 : w10.cell? ⟨gb107, 1, none⟩ = some (.int .i64 0) := (blk_cell BK107.out 1).trans rfl; have hfz11_0 := blk_frozen BK107.out 0; have hfz11_1 := blk_frozen BK107.out 1) | ((with_reducible refine gate_callee (f := 19) rfl ?_); refine goesL_ (some 25) rfl rfl Try.func19 (by kernel_rfl) rfl #[.int .i64 t105, .string a2] rfl (by (try simp only [List.map_toArray, List.map_cons, List.map_nil]); first | done | rfl | (simp only [List.length_drop, List.length_take]; rfl)) ?_; (with_reducible refine (mark_Sign.calls k t105 a2 t108 t109 _ A7.out).mono ?_); rintro e w12 ⟨rfl, hb⟩; refine ⟨_, rfl, ?_⟩; have n0_ := Aside0.mk (blk_below (g := gb107) (o := .cells #[.int .i64 t104, .int .i64 t105] 31 (0, 0)) (by (with_reducible repeat (first | refine blk_drewN ?_ _ | refine blk_drew ?_ | refine blk_alloc ?_ _)); refine blk_put (cs := #[.int .i64 t104, .int .i64 0]) ?_ 1 _ rfl; (with_reducible repeat (first | refine blk_drewN ?_ _ | refine blk_drew ?_ | refine blk_alloc ?_ _)); refine blk_put (cs := #[.int .i64 0, .int .i64 0]) ?_ 0 _ rfl; (with_reducible repeat (first | refine blk_drewN ?_ _ | refine blk_drew ?_ | refine blk_alloc ?_ _)); exact BK107.out) hb); have n1_ := Aside0.mk (below_step (by repeat (first | (with_reducible first | exact HB.out | apply below_alloc | apply pw_below_drewN | apply below_drew1 | refine below_set ?_ GE107.out) | exact HB.out)) hb); clear BK107; clear HB; have BK107 := n0_; have HB := n1_; clear n0_ n1_; (try clear hb); (try clear hb2); (try clear hk); (try clear hi)))
      go_ret
      exact ⟨by first | rfl | (simp [errW_none, errW_some] <;> rfl) | (simp [*, errW_none, errW_some] <;> rfl), by repeat (first | (with_reducible first | exact HB.out | apply below_alloc | apply pw_below_drewN | apply below_drew1 | refine below_set ?_ GE107.out) | exact HB.out)⟩
    · rw [if_neg c8] at H
      have c8b0 : (t109 == 0) = false := beq_eq_false_iff_ne.mpr c8
      have c8b1 : (t109 != 0) = true := bne_iff_ne.mpr c8
      obtain rfl := Option.some.inj H
      go_enter Try.func17, Try.ntmps17
      go_wp2_with (first | ((with_reducible refine gate_callee (f := 14) rfl ?_); refine goesL_ (some 16) rfl rfl Try.func14 (by kernel_rfl) rfl #[.slice A0 l0.length c0, .int .i64 a1] rfl (by (try simp only [List.map_toArray, List.map_cons, List.map_nil]); first | done | rfl | (simp only [List.length_drop, List.length_take]; rfl)) ?_; (with_reducible refine (mark_Find.calls _ _ l0 a1 t104 t105 true _ ?side1 ?side2 A5.out).mono ?_); (case side1 => repeat (first | exact HR0.out | (with_reducible refine Kd.C_alloc ?_ _) | (with_reducible refine Kd.C_drewN ?_ _) | (with_reducible refine Kd.C_drew ?_))); (case side2 => exact HC0.out); rintro e w13 ⟨rfl, hb⟩; refine ⟨_, rfl, ?_⟩; have n0_ := Aside0.mk (below_step (by repeat (first | (with_reducible first | exact HB.out | apply below_alloc | apply pw_below_drewN | apply below_drew1) | exact HB.out)) hb); clear HB; have HB := n0_; clear n0_; (try clear hb); (try clear hb2); (try clear hk); (try clear hi)) | ((with_reducible refine gate_dst (N := 9) rfl ?_); refine box_event ?hg (N := 9) ?hd (cs := #[.int .i64 0, .int .i64 0]) (t := 31) ?hr ?_; (case hd => rfl); (case hg => rfl); (case hr => first | (go_simp; done) | (go_simp; rfl)); intro gb107 hg w14 hbox hb; have n0_ := Aside0.mk (below_step (by repeat (first | (with_reducible first | exact HB.out | apply below_alloc | apply pw_below_drewN | apply below_drew1) | exact HB.out)) hb); have n1_ := Aside0.mk (hbox); have n2_ := Aside0.mk ((by rw [hg]; exact (below_size (by repeat (first | (with_reducible first | exact HB.out | apply below_alloc | apply pw_below_drewN | apply below_drew1) | exact HB.out))) : w.heap.size ≤ gb107)); have n3_ := Aside0.mk ((by rw [hg]; exact (below_size (by repeat (first | (with_reducible first | exact HB.out | apply below_alloc | apply pw_below_drewN | apply below_drew1) | exact HB.out))) : w.heap.size ≤ gb107)); clear HB; have HB := n0_; have BK107 := n1_; have GW107 := n2_; have GE107 := n3_; clear n0_ n1_ n2_ n3_; clear hb hbox hg; have hcz15_0 : w14.cell? ⟨gb107, 0, none⟩ = some (.int .i64 0) := (blk_cell BK107.out 0).trans rfl; have hcz15_1 : w14.cell? ⟨gb107, 1, none⟩ = some (.int .i64 0) := (blk_cell BK107.out 1).trans rfl; have hfz15_0 := blk_frozen BK107.out 0; have hfz15_1 := blk_frozen BK107.out 1) | ((with_reducible refine gate_callee (f := 19) rfl ?_); refine goesL_ (some 25) rfl rfl Try.func19 (by kernel_rfl) rfl #[.int .i64 t105, .string a2] rfl (by (try simp only [List.map_toArray, List.map_cons, List.map_nil]); first | done | rfl | (simp only [List.length_drop, List.length_take]; rfl)) ?_; (with_reducible refine (mark_Sign.calls k t105 a2 t108 t109 _ A7.out).mono ?_); rintro e w16 ⟨rfl, hb⟩; refine ⟨_, rfl, ?_⟩; have n0_ := Aside0.mk (blk_below (g := gb107) (o := .cells #[.int .i64 t104, .int .i64 t105] 31 (0, 0)) (by (with_reducible repeat (first | refine blk_drewN ?_ _ | refine blk_drew ?_ | refine blk_alloc ?_ _)); refine blk_put (cs := #[.int .i64 t104, .int .i64 0]) ?_ 1 _ rfl; (with_reducible repeat (first | refine blk_drewN ?_ _ | refine blk_drew ?_ | refine blk_alloc ?_ _)); refine blk_put (cs := #[.int .i64 0, .int .i64 0]) ?_ 0 _ rfl; (with_reducible repeat (first | refine blk_drewN ?_ _ | refine blk_drew ?_ | refine blk_alloc ?_ _)); exact BK107.out) hb); have n1_ := Aside0.mk (below_step (by repeat (first | (with_reducible first | exact HB.out | apply below_alloc | apply pw_below_drewN | apply below_drew1 | refine below_set ?_ GE107.out) | exact HB.out)) hb); clear BK107; clear HB; have BK107 := n0_; have HB := n1_; clear n0_ n1_; (try clear hb); (try clear hb2); (try clear hk); (try clear hi)))
      go_ret
      exact ⟨by first | rfl | (simp [errW_none, errW_some] <;> rfl) | (simp [*, errW_none, errW_some] <;> rfl), by repeat (first | (with_reducible first | exact HB.out | apply below_alloc | apply pw_below_drewN | apply below_drew1 | refine below_set ?_ GE107.out) | exact HB.out)⟩
  · replace c6 := Bool.eq_false_iff.mpr c6
    subst c6
    have H1 : (some false) = some r := by rw [if_neg (show ¬ (false = true) by decide)] at H; exact H
    clear H
    have H := H1
    clear H1
    obtain rfl := Option.some.inj H
    go_enter Try.func17, Try.ntmps17
    go_wp2_with (first | ((with_reducible refine gate_callee (f := 14) rfl ?_); refine goesL_ (some 16) rfl rfl Try.func14 (by kernel_rfl) rfl #[.slice A0 l0.length c0, .int .i64 a1] rfl (by (try simp only [List.map_toArray, List.map_cons, List.map_nil]); first | done | rfl | (simp only [List.length_drop, List.length_take]; rfl)) ?_; (with_reducible refine (mark_Find.calls _ _ l0 a1 t104 t105 false _ ?side1 ?side2 A5.out).mono ?_); (case side1 => repeat (first | exact HR0.out | (with_reducible refine Kd.C_alloc ?_ _) | (with_reducible refine Kd.C_drewN ?_ _) | (with_reducible refine Kd.C_drew ?_))); (case side2 => exact HC0.out); rintro e w17 ⟨rfl, hb⟩; refine ⟨_, rfl, ?_⟩; have n0_ := Aside0.mk (below_step (by repeat (first | (with_reducible first | exact HB.out | apply below_alloc | apply pw_below_drewN | apply below_drew1) | exact HB.out)) hb); clear HB; have HB := n0_; clear n0_; (try clear hb); (try clear hb2); (try clear hk); (try clear hi)) | ((with_reducible refine gate_dst (N := 9) rfl ?_); refine box_event ?hg (N := 9) ?hd (cs := #[.int .i64 0, .int .i64 0]) (t := 31) ?hr ?_; (case hd => rfl); (case hg => rfl); (case hr => first | (go_simp; done) | (go_simp; rfl)); intro gb107 hg w18 hbox hb; have n0_ := Aside0.mk (below_step (by repeat (first | (with_reducible first | exact HB.out | apply below_alloc | apply pw_below_drewN | apply below_drew1) | exact HB.out)) hb); have n1_ := Aside0.mk (hbox); have n2_ := Aside0.mk ((by rw [hg]; exact (below_size (by repeat (first | (with_reducible first | exact HB.out | apply below_alloc | apply pw_below_drewN | apply below_drew1) | exact HB.out))) : w.heap.size ≤ gb107)); have n3_ := Aside0.mk ((by rw [hg]; exact (below_size (by repeat (first | (with_reducible first | exact HB.out | apply below_alloc | apply pw_below_drewN | apply below_drew1) | exact HB.out))) : w.heap.size ≤ gb107)); clear HB; have HB := n0_; have BK107 := n1_; have GW107 := n2_; have GE107 := n3_; clear n0_ n1_ n2_ n3_; clear hb hbox hg; have hcz19_0 : w18.cell? ⟨gb107, 0, none⟩ = some (.int .i64 0) := (blk_cell BK107.out 0).trans rfl; have hcz19_1 : w18.cell? ⟨gb107, 1, none⟩ = some (.int .i64 0) := (blk_cell BK107.out 1).trans rfl; have hfz19_0 := blk_frozen BK107.out 0; have hfz19_1 := blk_frozen BK107.out 1))
    go_ret
    exact ⟨by first | rfl | (simp [errW_none, errW_some] <;> rfl) | (simp [*, errW_none, errW_some] <;> rfl), by repeat (first | (with_reducible first | exact HB.out | apply below_alloc | apply pw_below_drewN | apply below_drew1 | refine below_set ?_ GE107.out) | exact HB.out)⟩

end Go.Proofs.Ytcalkhlchjjalaa.Q

namespace Go.Proofs.Ytcalkhlchjjalaa.Q
open Go.RowKit Go.Proofs.YtcalkhlchjjalaaW.PrintWords Go.Proofs.YtcalkhlchjjalaaW.PrintLast Go.Proofs.YtcalkhlchjjalaaW.PrintMore Go.Proofs.Ytcalkhlchjjalaa.Gput
attribute [local go_sem] max2_int min2_int max_two min_two max_three min_three max_four min_four   -- for this text's walks alone
set_option linter.unusedVariables false
set_option linter.unusedSimpArgs false

/-! ### storagebarterlaw14_sane: function 6 -/
def storagebarterlaw14_sane.f (k : Nat)  : Option (Bool) := (mark_Sign.f k 1 (⟨#[]⟩ : ByteArray)).bind fun bt110 => ((some (([(⟨4, 1⟩ : S31)] : List (S31)) : List (S31))).bind fun y112 => (if bt110.2 = 0 then (if bt110.1 = 1000006 then ((mark_Check.f y112).bind fun t115 => (if t115 = 0 then ((mark_Verify.f k y112 4 (⟨#[]⟩ : ByteArray) bt110.1).bind fun t116 => (if t116 = true then ((mark_Verify.f k y112 4 (⟨#[]⟩ : ByteArray) (wrap64 (bt110.1 + 1))).bind fun t117 => (if t117 = true then (some false) else ((mark_Verify.f k y112 5 (⟨#[]⟩ : ByteArray) bt110.1).bind fun t118 => (some (!t118))))) else (some false))) else (some false))) else (some false)) else (some false)))
theorem storagebarterlaw14_sane.mono : ∀ k, LeO (storagebarterlaw14_sane.f k ) (storagebarterlaw14_sane.f (k + 1) ) := by
  intro  k
  unfold storagebarterlaw14_sane.f
  repeat' first
      | (with_reducible exact mark_Sign.mono _ _ _)
      | (with_reducible exact mark_Verify.mono _ _ _ _ _)
      | (with_reducible exact LeO.refl _)
      | (with_reducible exact LeO.none _)
      | (with_reducible refine LeO.ite ?_ ?_)
      | (with_reducible refine LeO.bind ?_ (fun _ => ?_))
      | exact mark_Sign.mono _ _ _
      | exact mark_Verify.mono _ _ _ _ _
      | exact LeO.none _
      | refine LeO.ite ?_ ?_
      | refine LeO.bind ?_ (fun _ => ?_)
set_option maxHeartbeats 8000000 in
set_option maxRecDepth 100000 in
theorem storagebarterlaw14_sane.calls (k : Nat)  (r : Bool) (w : World) (h : storagebarterlaw14_sane.f k  = some r) :
    Calls Try.prog 6 #[] w fun e w' => e = .returned (.bool r) ∧ Below w.heap.size w w' := by
  have hu31 := Try.underlying31
  have HB := Aside0.mk (Below.refl w.heap.size w)
  have H : ((mark_Sign.f k 1 (⟨#[]⟩ : ByteArray)).bind fun bt110 => ((some (([(⟨4, 1⟩ : S31)] : List (S31)) : List (S31))).bind fun y112 => (if bt110.2 = 0 then (if bt110.1 = 1000006 then ((mark_Check.f y112).bind fun t115 => (if t115 = 0 then ((mark_Verify.f k y112 4 (⟨#[]⟩ : ByteArray) bt110.1).bind fun t116 => (if t116 = true then ((mark_Verify.f k y112 4 (⟨#[]⟩ : ByteArray) (wrap64 (bt110.1 + 1))).bind fun t117 => (if t117 = true then (some false) else ((mark_Verify.f k y112 5 (⟨#[]⟩ : ByteArray) bt110.1).bind fun t118 => (some (!t118))))) else (some false))) else (some false))) else (some false)) else (some false)))) = some r := h
  clear h
  replace H := Option.bind_eq_some_iff.mp H
  obtain ⟨⟨t110, t111⟩, A10, H⟩ := H
  try dsimp only at H
  have A1 := Aside0.mk A10
  clear A10
  obtain ⟨y112, hy112⟩ : ∃ y_ : List (S31), y_ = (([(⟨4, 1⟩ : S31)] : List (S31))) := ⟨_, rfl⟩
  replace H : (if t111 = 0 then (if t110 = 1000006 then ((mark_Check.f y112).bind fun t115 => (if t115 = 0 then ((mark_Verify.f k y112 4 (⟨#[]⟩ : ByteArray) t110).bind fun t116 => (if t116 = true then ((mark_Verify.f k y112 4 (⟨#[]⟩ : ByteArray) (wrap64 (t110 + 1))).bind fun t117 => (if t117 = true then (some false) else ((mark_Verify.f k y112 5 (⟨#[]⟩ : ByteArray) t110).bind fun t118 => (some (!t118))))) else (some false))) else (some false))) else (some false)) else (some false)) = some r := by first | (rw [hy112]; with_reducible exact H) | (have H2_ := (Option.bind_some _ _).symm.trans H; rw [hy112]; with_reducible exact H2_) | (have H2_ := (Option.bind_some _ _).symm.trans H; with_reducible exact H2_) | with_reducible exact H | (rw [hy112]; exact H) | exact H
  have Ny112 := Aside0.mk hy112
  clear hy112
  by_cases c2 : t111 = 0
  focus
    rw [if_pos c2] at H
    have c2b0 : (t111 == 0) = true := beq_iff_eq.mpr c2
    have c2b1 : (t111 != 0) = false := bne_eq_false_iff_eq.mpr c2
    clear c2
    by_cases c3 : t110 = 1000006
    focus
      rw [if_pos c3] at H
      have c3b0 : (t110 == 1000006) = true := beq_iff_eq.mpr c3
      have c3b1 : (t110 != 1000006) = false := bne_eq_false_iff_eq.mpr c3
      clear c3
      replace H := Option.bind_eq_some_iff.mp H
      obtain ⟨t115, A40, H⟩ := H
      try dsimp only at H
      have A4 := Aside0.mk A40
      clear A40
      by_cases c5 : t115 = 0
      focus
        rw [if_pos c5] at H
        have c5b0 : (t115 == 0) = true := beq_iff_eq.mpr c5
        have c5b1 : (t115 != 0) = false := bne_eq_false_iff_eq.mpr c5
        clear c5
        replace H := Option.bind_eq_some_iff.mp H
        obtain ⟨t116, A60, H⟩ := H
        try dsimp only at H
        have A6 := Aside0.mk A60
        clear A60
        by_cases c7 : t116 = true
        focus
          subst c7
          rw [if_pos rfl] at H
          replace H := Option.bind_eq_some_iff.mp H
          obtain ⟨t117, A80, H⟩ := H
          try dsimp only at H
          have A8 := Aside0.mk A80
          clear A80
          by_cases c9 : t117 = true
          focus
            subst c9
            rw [if_pos rfl] at H
            obtain rfl := Option.some.inj H
          rotate_left 1
          focus
            replace c9 := Bool.eq_false_iff.mpr c9
            subst c9
            rw [if_neg (show ¬ (false = true) by decide)] at H
            replace H := Option.bind_eq_some_iff.mp H
            obtain ⟨t118, A170, H⟩ := H
            try dsimp only at H
            have A17 := Aside0.mk A170
            clear A170
            obtain rfl := Option.some.inj H
          rotate_left 1
        rotate_left 2
        focus
          replace c7 := Bool.eq_false_iff.mpr c7
          subst c7
          rw [if_neg (show ¬ (false = true) by decide)] at H
          obtain rfl := Option.some.inj H
        rotate_left 1
      rotate_left 3
      focus
        rw [if_neg c5] at H
        have c5b0 : (t115 == 0) = false := beq_eq_false_iff_ne.mpr c5
        have c5b1 : (t115 != 0) = true := bne_iff_ne.mpr c5
        obtain rfl := Option.some.inj H
      rotate_left 1
    rotate_left 4
    focus
      rw [if_neg c3] at H
      have c3b0 : (t110 == 1000006) = false := beq_eq_false_iff_ne.mpr c3
      have c3b1 : (t110 != 1000006) = true := bne_iff_ne.mpr c3
      obtain rfl := Option.some.inj H
    rotate_left 1
  rotate_left 5
  focus
    rw [if_neg c2] at H
    have c2b0 : (t111 == 0) = false := beq_eq_false_iff_ne.mpr c2
    have c2b1 : (t111 != 0) = true := bne_iff_ne.mpr c2
    obtain rfl := Option.some.inj H
  rotate_left 1
  all_goals (go_enter Try.func6, Try.ntmps6)
  all_goals (go_wp2_with (first | ((with_reducible refine gate_callee (f := 19) rfl ?_); refine goesL_ (some 5) rfl rfl Try.func19 (by kernel_rfl) rfl #[.int .i64 1, .string (⟨#[]⟩ : ByteArray)] rfl (by (try simp only [List.map_toArray, List.map_cons, List.map_nil]); first | done | rfl | (simp only [List.length_drop, List.length_take]; rfl)) ?_; (with_reducible refine (mark_Sign.calls k 1 (⟨#[]⟩ : ByteArray) t110 t111 _ A1.out).mono ?_); rintro e wz0 ⟨rfl, hb⟩; refine ⟨_, rfl, ?_⟩; have n0_ := Aside0.mk (below_step (by repeat (first | (with_reducible first | exact HB.out | apply below_alloc | apply pw_below_drewN | apply below_drew1) | exact HB.out)) hb); clear HB; have HB := n0_; clear n0_; (try clear hb); (try clear hb2); (try clear hk); (try clear hi)) | ((with_reducible refine gate_dst (N := 9) rfl ?_); refine Kd.R_lit k31 _ 31 ?hg (N := 9) ?hd (xs := ([(⟨4, 1⟩ : S31)] : List (S31))) (inner := [.int .i64 4, .int .i64 1]) (ok := fun _ => True) (okp := fun _ => True) ?hr ?hp (fun _ hk => hk) trivial (Below.refl _ _) (Nat.le_refl _) (by simp) ?_; (case hd => rfl); (case hg => rfl); (case hr => first | (go_simp; done) | (go_simp; rfl)); (case hp => exact (Reps.c2 (show Kd.M k31 _ _ _ (⟨4, 1⟩ : S31) [.int .i64 4, .int .i64 1] from (k31_mkM _ _ _ (⟨4, 1⟩ : S31) )) (Reps.none _ _))); intro vz1 wz2 hoz3 hb hg_ hnew_; clear hg_ hnew_; (first | rw [← Ny112.out] at hoz3 | (simp only [Int.reduceToNat] at hoz3; rw [← Ny112.out] at hoz3)); have n0_ := Aside0.mk (Kd.R_lower hoz3 (below_size (by repeat (first | (with_reducible first | exact HB.out | apply below_alloc | apply pw_below_drewN | apply below_drew1) | exact HB.out)))); have n1_ := Aside0.mk (below_step (by repeat (first | (with_reducible first | exact HB.out | apply below_alloc | apply pw_below_drewN | apply below_drew1) | exact HB.out)) hb); clear HB; have HOz4 := n0_; have HB := n1_; clear n0_ n1_; clear hb hoz3; obtain ⟨Aoz5, coz6, eoz7⟩ := Kd.R_slice HOz4.out; subst eoz7) | (go_at_call 11; (with_reducible refine (mark_Check.calls _ _ y112 t115 _ ?side1 ?side2 A4.out).mono ?_); (case side1 => repeat (first | exact (Kd.R_reads' HOz4.out).2.2 | (with_reducible refine Kd.C_alloc ?_ _) | (with_reducible refine Kd.C_drewN ?_ _) | (with_reducible refine Kd.C_drew ?_))); (case side2 => exact (Kd.R_reads' HOz4.out).2.1); rintro e wz8 ⟨rfl, hb⟩; have n0_ := Aside0.mk (Kd.R_below (by (with_reducible repeat (first | apply Kd.R_alloc | apply Kd.R_drewN | apply Kd.R_drew)); exact HOz4.out) hb); have n1_ := Aside0.mk (below_step (by repeat (first | (with_reducible first | exact HB.out | apply below_alloc | apply pw_below_drewN | apply below_drew1) | exact HB.out)) hb); clear HOz4; clear HB; have HOz4 := n0_; have HB := n1_; clear n0_ n1_; (try clear hb); (try clear hb2); (try clear hk); (try clear hi)) | (go_at_call 17; (with_reducible refine (mark_Verify.calls k _ _ y112 4 (⟨#[]⟩ : ByteArray) t110 true _ ?side1 ?side2 A6.out).mono ?_); (case side1 => repeat (first | exact (Kd.R_reads' HOz4.out).2.2 | (with_reducible refine Kd.C_alloc ?_ _) | (with_reducible refine Kd.C_drewN ?_ _) | (with_reducible refine Kd.C_drew ?_))); (case side2 => exact (Kd.R_reads' HOz4.out).2.1); rintro e wz9 ⟨rfl, hb⟩; have n0_ := Aside0.mk (Kd.R_below (by (with_reducible repeat (first | apply Kd.R_alloc | apply Kd.R_drewN | apply Kd.R_drew)); exact HOz4.out) hb); have n1_ := Aside0.mk (below_step (by repeat (first | (with_reducible first | exact HB.out | apply below_alloc | apply pw_below_drewN | apply below_drew1) | exact HB.out)) hb); clear HOz4; clear HB; have HOz4 := n0_; have HB := n1_; clear n0_ n1_; (try clear hb); (try clear hb2); (try clear hk); (try clear hi)) | (go_at_call 17; (with_reducible refine (mark_Verify.calls k _ _ y112 4 (⟨#[]⟩ : ByteArray) (wrap64 (t110 + 1)) true _ ?side1 ?side2 A8.out).mono ?_); (case side1 => repeat (first | exact (Kd.R_reads' HOz4.out).2.2 | (with_reducible refine Kd.C_alloc ?_ _) | (with_reducible refine Kd.C_drewN ?_ _) | (with_reducible refine Kd.C_drew ?_))); (case side2 => exact (Kd.R_reads' HOz4.out).2.1); rintro e wz10 ⟨rfl, hb⟩; have n0_ := Aside0.mk (Kd.R_below (by (with_reducible repeat (first | apply Kd.R_alloc | apply Kd.R_drewN | apply Kd.R_drew)); exact HOz4.out) hb); have n1_ := Aside0.mk (below_step (by repeat (first | (with_reducible first | exact HB.out | apply below_alloc | apply pw_below_drewN | apply below_drew1) | exact HB.out)) hb); clear HOz4; clear HB; have HOz4 := n0_; have HB := n1_; clear n0_ n1_; (try clear hb); (try clear hb2); (try clear hk); (try clear hi)) | (go_at_call 17; (with_reducible refine (mark_Verify.calls k _ _ y112 4 (⟨#[]⟩ : ByteArray) (wrap64 (t110 + 1)) false _ ?side1 ?side2 A8.out).mono ?_); (case side1 => repeat (first | exact (Kd.R_reads' HOz4.out).2.2 | (with_reducible refine Kd.C_alloc ?_ _) | (with_reducible refine Kd.C_drewN ?_ _) | (with_reducible refine Kd.C_drew ?_))); (case side2 => exact (Kd.R_reads' HOz4.out).2.1); rintro e wz10 ⟨rfl, hb⟩; have n0_ := Aside0.mk (Kd.R_below (by (with_reducible repeat (first | apply Kd.R_alloc | apply Kd.R_drewN | apply Kd.R_drew)); exact HOz4.out) hb); have n1_ := Aside0.mk (below_step (by repeat (first | (with_reducible first | exact HB.out | apply below_alloc | apply pw_below_drewN | apply below_drew1) | exact HB.out)) hb); clear HOz4; clear HB; have HOz4 := n0_; have HB := n1_; clear n0_ n1_; (try clear hb); (try clear hb2); (try clear hk); (try clear hi)) | (go_at_call 17; (with_reducible refine (mark_Verify.calls k _ _ y112 5 (⟨#[]⟩ : ByteArray) t110 t118 _ ?side1 ?side2 A17.out).mono ?_); (case side1 => repeat (first | exact (Kd.R_reads' HOz4.out).2.2 | (with_reducible refine Kd.C_alloc ?_ _) | (with_reducible refine Kd.C_drewN ?_ _) | (with_reducible refine Kd.C_drew ?_))); (case side2 => exact (Kd.R_reads' HOz4.out).2.1); rintro e wz11 ⟨rfl, hb⟩; have n0_ := Aside0.mk (Kd.R_below (by (with_reducible repeat (first | apply Kd.R_alloc | apply Kd.R_drewN | apply Kd.R_drew)); exact HOz4.out) hb); have n1_ := Aside0.mk (below_step (by repeat (first | (with_reducible first | exact HB.out | apply below_alloc | apply pw_below_drewN | apply below_drew1) | exact HB.out)) hb); clear HOz4; clear HB; have HOz4 := n0_; have HB := n1_; clear n0_ n1_; (try clear hb); (try clear hb2); (try clear hk); (try clear hi)) | (go_at_call 17; (with_reducible refine (mark_Verify.calls k _ _ y112 4 (⟨#[]⟩ : ByteArray) t110 false _ ?side1 ?side2 A6.out).mono ?_); (case side1 => repeat (first | exact (Kd.R_reads' HOz4.out).2.2 | (with_reducible refine Kd.C_alloc ?_ _) | (with_reducible refine Kd.C_drewN ?_ _) | (with_reducible refine Kd.C_drew ?_))); (case side2 => exact (Kd.R_reads' HOz4.out).2.1); rintro e wz9 ⟨rfl, hb⟩; have n0_ := Aside0.mk (Kd.R_below (by (with_reducible repeat (first | apply Kd.R_alloc | apply Kd.R_drewN | apply Kd.R_drew)); exact HOz4.out) hb); have n1_ := Aside0.mk (below_step (by repeat (first | (with_reducible first | exact HB.out | apply below_alloc | apply pw_below_drewN | apply below_drew1) | exact HB.out)) hb); clear HOz4; clear HB; have HOz4 := n0_; have HB := n1_; clear n0_ n1_; (try clear hb); (try clear hb2); (try clear hk); (try clear hi)) | ((with_reducible refine gate_dst (N := 9) rfl ?_); refine Kd.R_lit k31 _ 31 ?hg (N := 9) ?hd (xs := ([(⟨4, 1⟩ : S31)] : List (S31))) (inner := [.int .i64 4, .int .i64 1]) (ok := fun _ => True) (okp := fun _ => True) ?hr ?hp (fun _ hk => hk) trivial (Below.refl _ _) (Nat.le_refl _) (by simp) ?_; (case hd => rfl); (case hg => rfl); (case hr => first | (go_simp; done) | (go_simp; rfl)); (case hp => exact (Reps.c2 (show Kd.M k31 _ _ _ (⟨4, 1⟩ : S31) [.int .i64 4, .int .i64 1] from (k31_mkM _ _ _ (⟨4, 1⟩ : S31) )) (Reps.none _ _))); intro vz1 wz2 hoz3 hb hg_ hnew_; clear hg_ hnew_; (first | rw [← Ny112.out] at hoz3 | (simp only [Int.reduceToNat] at hoz3; rw [← Ny112.out] at hoz3)); have n0_ := Aside0.mk (Kd.R_lower hoz3 (below_size (by repeat (first | (with_reducible first | exact HB.out | apply below_alloc | apply pw_below_drewN | apply below_drew1) | exact HB.out)))); have n1_ := Aside0.mk (below_step (by repeat (first | (with_reducible first | exact HB.out | apply below_alloc | apply pw_below_drewN | apply below_drew1) | exact HB.out)) hb); clear HB; have HOz4 := n0_; have HB := n1_; clear n0_ n1_; clear hb hoz3)))
  all_goals ((go_ret); (exact ⟨by first | rfl | (simp [errW_none, errW_some] <;> rfl) | (simp [*, errW_none, errW_some] <;> rfl), by repeat (first | (with_reducible first | exact HB.out | apply below_alloc | apply pw_below_drewN | apply below_drew1) | exact HB.out)⟩))

end Go.Proofs.Ytcalkhlchjjalaa.Q

/- 'mark.Sign' and the examples of chapter 14, in plain words. -/
namespace Go.Proofs.Ytcalkhlchjjalaa.Gps
open Go Go.RowKit Go.Proofs.Ytcalkhlchjjalaa.Gm Go.Proofs.Ytcalkhlchjjalaa.Gdm Go.Proofs.Ytcalkhlchjjalaa.Gpp Go.Proofs.Ytcalkhlchjjalaa.Q Go.Proofs.Ytcalkhlchjjalaa.Gput Go.Proofs.YtcalkhlchjjalaaW.PrintWords Go.Proofs.YtcalkhlchjjalaaW.PrintLast Go.Proofs.YtcalkhlchjjalaaW.PrintMore
set_option linter.unusedVariables false

theorem within_eq (n : Int) : mark_within.f n = some (decide (within n)) := by
  unfold mark_within.f within
  by_cases h1 : 1 ≤ n <;> by_cases h2 : n < 2147483647 <;> simp [h1, h2]

theorem Sign_eq (n : Int) (t : List UInt8) (k : Nat) (hn : within n) (ht : t.length ≤ 16384) (hk : t.length + 20 ≤ k) : mark_Sign.f k n (B t) = some (dg 1 (putI n ++ t), 0) := by
  unfold mark_Sign.f
  have hr : -9223372036854775808 ≤ n ∧ n ≤ 9223372036854775807 := by unfold within at hn; omega
  have hp := putI_len hr
  rw [within_eq, Option.bind_some, if_pos (by simpa using hn), B_size, if_neg (by omega), show (⟨#[]⟩ : ByteArray) = B [] from rfl, wire_PutInt_eq [] n (by simp) hr, Option.bind_some, List.nil_append, B_size, B_append, if_pos (by omega), Sum_eq _ _ (by rw [List.length_append]; omega) (by rw [List.length_append]; omega)]
  rfl

theorem law14_sane (k : Nat) (hk : 34 ≤ k) : storagebarterlaw14_sane.f k = some true := by
  have e1 : putI 1 = [2] := by
    unfold putI
    rw [show zig 1 = 2 by decide, grp_last (by omega)]
    decide
  have e2 : dg 1 (putI 1 ++ []) = 1000006 := by rw [e1]; decide
  have hw : within 1 := by decide
  have hs := Sign_eq 1 [] k hw (by simp) (by simp; omega)
  rw [e2] at hs
  have hc : mark_Check.f [⟨4, 1⟩] = some 0 := by decide
  have hf : mark_Find.f [⟨4, 1⟩] 4 = some (4, 1, true) := by decide
  have hg : mark_Find.f [⟨4, 1⟩] 5 = some (0, 0, false) := by decide
  unfold storagebarterlaw14_sane.f mark_Verify.f
  rw [show (⟨#[]⟩ : ByteArray) = B [] from rfl, hs]
  simp only [Option.bind_some, hc, hf, hg, hs, if_true]
  rw [if_pos (by decide), if_neg (by rw [w64 (by omega)]; decide)]
  rfl

end Go.Proofs.Ytcalkhlchjjalaa.Gps

namespace Go.Proofs.Ytcalkhlchjjalaa.Q
open Go.RowKit Go.Proofs.YtcalkhlchjjalaaW.PrintWords Go.Proofs.YtcalkhlchjjalaaW.PrintLast Go.Proofs.YtcalkhlchjjalaaW.PrintMore Go.Proofs.Ytcalkhlchjjalaa.Gput
attribute [local go_sem] max2_int min2_int max_two min_two max_three min_three max_four min_four   -- for this text's walks alone
set_option linter.unusedVariables false
set_option linter.unusedSimpArgs false

/-! ### storagebartermake_Few: function 7 -/
def storagebartermake_Few.f (l0 : List Int) : Option (Bool) := some (decide ((l0.length : Int) ≤ 500))
set_option maxHeartbeats 8000000 in
set_option maxRecDepth 100000 in
theorem storagebartermake_Few.calls (A0 : Option Addr) (c0 : Nat) (l0 : List Int) (r : Bool) (w : World) (hr0 : Kd.C (Kd.int .i64) w A0 l0.length l0) (hc0 : l0.length ≤ c0) (h : storagebartermake_Few.f l0 = some r) :
    Calls Try.prog 7 #[.slice A0 l0.length c0] w fun e w' => e = .returned (.bool r) ∧ Drawn0 w w' := by
  have HR0 := Aside0.mk hr0
  have HC0 := Aside0.mk hc0
  clear hr0 hc0
  have H : (some (decide ((l0.length : Int) ≤ 500))) = some r := h
  clear h
  obtain rfl := Option.some.inj H
  go_enter Try.func7, Try.ntmps7
  go_wp2
  go_ret
  exact ⟨by first | rfl | (simp; done) | (simp [*]; done), by repeat (first | exact Drawn0.refl _ | apply Drawn0.step)⟩

end Go.Proofs.Ytcalkhlchjjalaa.Q

/- The law 'MarkVerifies', walked by hand (a row of bytes made of a text, turned at one place): what a person has signed verifies, and a text with one byte turned does so just where the byte was the same. -/
namespace Go.Proofs.Ytcalkhlchjjalaa.Gmv
open Go Go.RowKit Go.Proofs.Ytcalkhlchjjalaa.Gb Go.Proofs.Ytcalkhlchjjalaa.Gm Go.Proofs.Ytcalkhlchjjalaa.Gdm Go.Proofs.Ytcalkhlchjjalaa.Gdi Go.Proofs.Ytcalkhlchjjalaa.Gpp Go.Proofs.Ytcalkhlchjjalaa.Gps Go.Proofs.Ytcalkhlchjjalaa.Q Go.Proofs.YtcalkhlchjjalaaW.PrintWords Go.Proofs.YtcalkhlchjjalaaW.PrintLast Go.Proofs.YtcalkhlchjjalaaW.PrintMore
set_option linter.unusedVariables false

theorem own8_set {w : World} {base : Nat} {e : TypeId} {g n cap : Nat} {xs : List UInt8} (h : Own8 w base e (.slice (some ⟨g, 0, none⟩) n cap) xs) (k : Nat) (hk : k < xs.length) (y : UInt8) :
    Own8 (w.setCell ⟨g, k, none⟩ (enc8 y)) base e (.slice (some ⟨g, 0, none⟩) n cap) (xs.set k y) := by
  obtain ⟨g', cap', cur, fz, hv, hb, hgg, hfz, hl, hm, hs, ht⟩ := h
  simp only [Value.slice.injEq, Option.some.injEq, Addr.mk.injEq] at hv
  obtain ⟨⟨rfl, -, -⟩, rfl, rfl⟩ := hv
  rw [setCell_eq_setRow w g k cur e fz _ hgg]
  refine ⟨g, cap, cur.setIfInBounds k (enc8 y), fz, by rw [List.length_set], hb, setRow_heap w g cur _ e _ hgg, by simpa using hfz, by simpa using hl, hm, by simpa using hs, ?_⟩
  rw [Array.toList_setIfInBounds, List.length_set, List.take_set, ht, List.map_set]

/-- '[]byte(s)', with all that is asked behind it. -/
theorem conv_ok (w : World) (t : List UInt8) (ht : t.length ≤ 3000) : ∃ W c, (convert 9 43 (.string (B t))).run Try.prog w = .ok (.slice (some ⟨w.heap.size, 0, none⟩) t.length c) W ∧
    Own8 W w.heap.size 5 (.slice (some ⟨w.heap.size, 0, none⟩) t.length c) t ∧ Below w.heap.size w W ∧ w.heap.size + 1 ≤ W.heap.size := by
  have hcv := Lib.run_convert_string_bytes (P := Try.prog) w 9 43 5 (B t) Try.underlying9 Try.underlying43 Try.underlying5
  have hown := own8_bytes w w.heap.size 5 (B t) (Nat.le_refl _) (by rw [B_size]; unfold maxLen; omega)
  have hbw : Below w.heap.size w (Lib.bytesWorld w 5 (B t)) := (Below.refl _ w).grown (bytesWorld_grown w 5 (B t)) (Nat.le_refl _) (fun k e => by cases e)
  rw [B_size] at hcv hown
  rw [B_data] at hown
  exact ⟨_, _, hcv, hown, hbw, by rw [Lib.bytesWorld_size]; exact Nat.le_refl _⟩

theorem own8_at {w : World} {base : Nat} {e : TypeId} {g n cap : Nat} {xs : List UInt8} (h : Own8 w base e (.slice (some ⟨g, 0, none⟩) n cap) xs) (k : Nat) (hk : k < xs.length) :
    w.cell? ⟨g, k, none⟩ = some (.int .u8 xs[k].toNat) ∧ w.frozen? ⟨g, k, none⟩ = false := by
  obtain ⟨g', cap', cur, fz, hv, hb, hgg, hfz, hl, hm, hs, ht⟩ := h
  simp only [Value.slice.injEq, Option.some.injEq, Addr.mk.injEq] at hv
  obtain ⟨⟨rfl, -, -⟩, rfl, rfl⟩ := hv
  constructor
  · rw [cell_of_row w g k cur e fz hgg]
    have h1 : (cur.toList.take xs.length)[k]? = some (enc8 xs[k]) := by rw [ht]; simp [hk]
    rw [List.getElem?_take, if_pos hk] at h1
    rw [← Array.getElem?_toList, h1]
    rfl
  · obtain ⟨lo, hi'⟩ := fz
    simp only [World.frozen?, hgg, Bool.and_eq_false_iff, decide_eq_false_iff_not]
    rcases hfz with h | h
    · right; cases h; omega
    · left; simp at h; omega

theorem verify_eq (l : List S31) (sec : Int) (hm : Made l sec) (hl : l.length ≤ 16) (j : Nat) (hj : j < l.length) (t : List UInt8) (ht : t.length ≤ 16384) (m : Int) (k : Nat) (hk : t.length + 20 ≤ k) :
    mark_Verify.f k l l[j].f0 (B t) m = some (m == dg 1 (putI l[j].f1 ++ t)) := by
  unfold mark_Verify.f
  rw [hm.ids j hj, Find_made hm hl j hj, Option.bind_some, if_pos rfl, Sign_eq _ t k (hm.within hl _ (List.getElem_mem hj)).2 ht hk, Option.bind_some, if_pos rfl]

theorem verify_none (l : List S31) (sec : Int) (hm : Made l sec) (hl : l.length ≤ 16) (id : Int) (hid : id < 1 ∨ (l.length : Int) < id) (s : ByteArray) (m : Int) (k : Nat) : mark_Verify.f k l id s m = some false := by
  unfold mark_Verify.f
  rw [Find_none hm hl id hid, Option.bind_some, if_neg (by simp)]

end Go.Proofs.Ytcalkhlchjjalaa.Gmv

/- The law 'MarkVerifies', walked by hand. -/
namespace Go.Proofs.Ytcalkhlchjjalaa.Gmw
open Go Go.RowKit Go.Proofs.Ytcalkhlchjjalaa.Gb Go.Proofs.Ytcalkhlchjjalaa.Gm Go.Proofs.Ytcalkhlchjjalaa.Gdm Go.Proofs.Ytcalkhlchjjalaa.Gdi Go.Proofs.Ytcalkhlchjjalaa.Gpp Go.Proofs.Ytcalkhlchjjalaa.Gps Go.Proofs.Ytcalkhlchjjalaa.Gmv Go.Proofs.Ytcalkhlchjjalaa.Q Go.Proofs.YtcalkhlchjjalaaW.PrintWords Go.Proofs.YtcalkhlchjjalaaW.PrintLast Go.Proofs.YtcalkhlchjjalaaW.PrintMore
set_option linter.unusedVariables false

theorem deck_blk {w0 W : World} {g : Nat} {f0 : List Int} {f1 : Int} (h : IsS47 w0 W g f0 f1) : ∃ cells, W.heap[g]? = some (.cells cells 47 (0, 0)) := by
  obtain ⟨A0, c0, hb, -, -⟩ := h
  exact ⟨_, hb⟩

theorem nil_calls (i m : Int) (s : ByteArray) (k : Nat) (w : World) (h : mark_Verify.f k [] i s m = some false) : Calls Try.prog 17 #[.slice none 0 0, .int .i64 i, .string s, .int .i64 m] w fun e w' => e = .returned (.bool false) ∧ Below w.heap.size w w' :=
  mark_Verify.calls k none 0 [] i s m false w (Kd.C_nil _ _) (Nat.le_refl _) h

set_option maxRecDepth 100000 in
set_option maxHeartbeats 8000000 in
theorem calls (A0 : Option Addr) (c0 : Nat) (L : List Int) (t : List UInt8) (a2 a3 : Int) (w : World) (hr0 : Kd.C (Kd.int .i64) w A0 L.length L) (hc0 : L.length ≤ c0) (h2 : 0 ≤ a2 ∧ a2 ≤ 65535) (h3 : 0 ≤ a3 ∧ a3 ≤ 255) :
    Calls Try.prog 4 #[.slice A0 L.length c0, .string (B t), .int .u16 a2, .int .u8 a3] w fun e w' => e = .returned (.bool true) ∧ Below w.heap.size w w' := by
  have HR := Aside0.mk hr0
  have HB := Aside0.mk (Below.refl w.heap.size w)
  have F1 := Aside0.mk (law14_sane 100 (by omega))
  have hsz := B_size t
  clear hr0
  by_cases hf : (L.length : Int) ≤ 500
  case neg =>
    have F2 : Aside0 (storagebartermake_Few.f L = some false) := ⟨by unfold storagebartermake_Few.f; rw [decide_eq_false hf]⟩
    go_enter Try.func4, Try.ntmps4
    go_wp2_with (first | (go_at_call 6; (with_reducible refine (storagebarterlaw14_sane.calls 100 true _ F1.out).mono ?_; rintro e w1 ⟨rfl, hb⟩; have n0_ := Aside0.mk (below_step HB.out hb); clear HB; have HB := n0_; clear n0_; clear hb)) | (go_at_call 7; (with_reducible refine (storagebartermake_Few.calls A0 c0 L _ _ (Kd.C_below HR.out HB.out) hc0 F2.out).mono ?_; rintro e w2 ⟨rfl, ⟨⟨nd, rfl⟩⟩⟩; have n0_ := Aside0.mk (pw_below_drewN HB.out nd); clear HB; have HB := n0_; clear n0_)))
    go_ret
    exact ⟨rfl, HB.out⟩
  have F2 : Aside0 (storagebartermake_Few.f L = some true) := ⟨by unfold storagebartermake_Few.f; rw [decide_eq_true hf]⟩
  by_cases hl : 3000 < (t.length : Int)
  case pos =>
    have hlb : decide (3000 < (t.length : Int)) = true := decide_eq_true hl
    go_enter Try.func4, Try.ntmps4
    go_wp2_with (first | (go_at_call 6; (with_reducible refine (storagebarterlaw14_sane.calls 100 true _ F1.out).mono ?_; rintro e w1 ⟨rfl, hb⟩; have n0_ := Aside0.mk (below_step HB.out hb); clear HB; have HB := n0_; clear n0_; clear hb)) | (go_at_call 7; (with_reducible refine (storagebartermake_Few.calls A0 c0 L _ _ (Kd.C_below HR.out HB.out) hc0 F2.out).mono ?_; rintro e w2 ⟨rfl, ⟨⟨nd, rfl⟩⟩⟩; have n0_ := Aside0.mk (pw_below_drewN HB.out nd); clear HB; have HB := n0_; clear n0_)))
    go_ret
    exact ⟨rfl, HB.out⟩
  have hlb : decide (3000 < (t.length : Int)) = false := decide_eq_false hl
  have F3 : Aside0 (storagebartermake_New.f L = some (L, 0)) := ⟨rfl⟩
  obtain ⟨x, at1, f4, hx0, hx1, hat1⟩ := next_ok L 0 5 (by omega) (by omega) (by omega) (by omega)
  obtain ⟨n, rfl⟩ : ∃ n : Nat, x = n := ⟨x.toNat, by omega⟩
  obtain ⟨l, sec, at2, f5, hm, hln, hat2⟩ := People_ok L (by omega) at1 hat1 (n + 1) (by omega) 100 (by omega)
  obtain ⟨y, at3, f6, hy0, hy1, hat3⟩ := next_ok L at2 (l.length : Int) (by omega) (by omega) hat2 (by omega)
  obtain ⟨j, rfl⟩ : ∃ j : Nat, y = j := ⟨y.toNat, by omega⟩
  have hj : j < l.length := by omega
  have hwi := hm.within (by omega) _ (List.getElem_mem hj)
  have f7 := Sign_eq l[j].f1 t 10000 hwi.2 (by omega) (by omega)
  have f8 := verify_eq l sec hm (by omega) j hj t (by omega) (dg 1 (putI l[j].f1 ++ t)) 10000 (by omega)
  have f9 := verify_none l sec hm (by omega) 99 (by omega) (B t) (dg 1 (putI l[j].f1 ++ t)) 10000
  have f10 := verify_none [] 0 ⟨fun j h => absurd h (by simp), List.Pairwise.nil, fun p hp => absurd hp (by simp), by simp⟩ (by simp) l[j].f0 (by have := hwi.1; unfold within at this; simp only [List.length_nil]; omega) (B t) (dg 1 (putI l[j].f1 ++ t)) 10000
  have f11 : ∀ (k : Nat) (hk : k < t.length) (z : UInt8), mark_Verify.f 10000 l l[j].f0 (B (t.set k z)) (dg 1 (putI l[j].f1 ++ t)) = some (t[k] == z) := by
    intro k hk z
    rw [verify_eq l sec hm (by omega) j hj (t.set k z) (by rw [List.length_set]; omega) _ 10000 (by rw [List.length_set]; omega), dg_set _ _ k hk]
  rw [beq_self_eq_true] at f8
  have er : l[j] = rd_T31 l (j : Int) := (rd_get l j hj).symm
  rw [er] at f7 f8 f9 f10 f11
  generalize dg 1 (putI (rd_T31 l (j : Int)).f1 ++ t) = m at f7 f8 f9 f10 f11
  have F4 := Aside0.mk f4
  rw [show ((n + 1 : Nat) : Int) = 1 + (n : Int) by omega] at f5
  have F5 := Aside0.mk f5
  have F6 := Aside0.mk f6
  have hi0 : (0 : Int) ≤ j := by omega
  have hi1 : (j : Int) < (l.length : Int) := by omega
  have hl16 : l.length ≤ 16 := by omega
  have hnb : (n : Int) < 100 := by omega
  obtain ⟨px, hpx⟩ : ∃ px, px = (rd_T31 l (j : Int)).f0 := ⟨_, rfl⟩
  obtain ⟨py, hpy⟩ : ∃ py, py = (rd_T31 l (j : Int)).f1 := ⟨_, rfl⟩
  rw [← hpy] at f7
  rw [← hpx] at f8 f10 f11
  have HPX := Lib.hid hpx
  have HPY := Lib.hid hpy
  have F7 := Aside0.mk f7
  have F8 := Aside0.mk f8
  have F9 := Aside0.mk f9
  have F10 := Aside0.mk f10
  have F11 := Aside0.mk f11
  have HTL0 := Aside0.mk (show t.length ≤ 3000 by omega)
  clear f4 f5 f6 f7 f8 f9 f10 f11 er hwi hm hpx hpy hx0 hx1 hat1 hat2 hat3 hy0 hy1 hf hl hln
  by_cases ht0 : (t.length : Int) = 0
  case pos =>
    have htb : ((t.length : Int) == 0) = true := beq_iff_eq.mpr ht0
    go_enter Try.func4, Try.ntmps4
    go_wp2_with (first | (go_at_call 6; (with_reducible refine (storagebarterlaw14_sane.calls 100 true _ F1.out).mono ?_; rintro e w1 ⟨rfl, hb⟩; have n0_ := Aside0.mk (below_step HB.out hb); clear HB; have HB := n0_; clear n0_; clear hb)) | (go_at_call 7; (with_reducible refine (storagebartermake_Few.calls A0 c0 L _ _ (Kd.C_below HR.out HB.out) hc0 F2.out).mono ?_; rintro e w2 ⟨rfl, ⟨⟨nd, rfl⟩⟩⟩; have n0_ := Aside0.mk (pw_below_drewN HB.out nd); clear HB; have HB := n0_; clear n0_)) | (go_at_call 8; (with_reducible refine (storagebartermake_New.calls A0 c0 L L 0 w _ HB.out HR.out hc0 F3.out).mono ?_; rintro e w3 ⟨g, rfl, hI, hB, hb⟩; have HI := Aside0.mk hI; clear HB; have HB := Aside0.mk hB; clear hI hB hb)) | (go_at_call_of 10 (Value.int IntKind.i64 5); (with_reducible refine (storagebartermake_Deck_Next.calls g L 0 5 _ _ w _ HI.out HB.out F4.out).mono ?_; rintro e w4 ⟨rfl, hI, hB, -⟩; clear HI HB; have HI := Aside0.mk hI; have HB := Aside0.mk hB; clear hI hB)) | (go_at_call 9; (with_reducible refine (storagebartermake_People.calls 100 g L at1 _ l at2 w _ HI.out HB.out F5.out).mono ?_; rintro e w5 ⟨v, rfl, hR, hI, hB, -⟩; clear HI HB; have HI := Aside0.mk hI; have HB := Aside0.mk hB; obtain ⟨Ap, cp, rfl⟩ := Kd.R_slice hR; have HL := Aside0.mk hR; clear hI hB hR)) | (go_at_call 10; (with_reducible refine (storagebartermake_Deck_Next.calls g L at2 _ _ _ w _ HI.out HB.out F6.out).mono ?_; rintro e w6 ⟨rfl, hI, hB, hk⟩; obtain ⟨cg, hbg⟩ := deck_blk HI.out; have hr := Kd.R_keep (Kd.R_types HL.out hbg (by first | decide | (intro q hq; rcases List.mem_cons.1 hq with h_ | h_; (subst h_; decide); (first | (cases h_; done) | (simp [k31] at h_))))) hk (fun _ z => z.2); have HC := Aside0.mk (Kd.R_reads' hr).2.2; have hcp := (Kd.R_reads' hr).2.1; clear HI HB HL hbg hr hk; have HB := Aside0.mk hB; clear hI hB; obtain ⟨ad, ead, hx0, hx1⟩ := at_T31 HC.out (j : Int) hi0 hi1; subst ead; rw [← HPX.out] at hx0; rw [← HPY.out] at hx1; simp only [Int.toNat_natCast] at hx0 hx1)) | (go_at_call 19; (with_reducible refine (mark_Sign.calls 10000 py (B t) m 0 _ F7.out).mono ?_; rintro e w7 ⟨rfl, hb⟩; have BK := Aside0.mk (blk_below (g := w6.heap.size) (o := .cells #[.int .i64 px, .int .i64 py] 31 (0, 0)) (heap_alloc_new w6 _) hb); have GB := Aside0.mk HB.out.size; have n0_ := Aside0.mk (below_step (below_alloc HB.out _) hb); have n1_ := Aside0.mk (Kd.C_below (Kd.C_alloc HC.out _) hb); clear HB HC hx0 hx1; have HB := n0_; have HC := n1_; clear n0_ n1_ hb; have hcl0 : w7.cell? ⟨w6.heap.size, 0, none⟩ = some (.int .i64 px) := (blk_cell BK.out _).trans rfl)) | (go_at_call_of 17 (Value.int IntKind.i64 99); (with_reducible refine (mark_Verify.calls 10000 _ _ l 99 (B t) m false _ HC.out hcp F9.out).mono ?_; rintro e w9 ⟨rfl, hb⟩; have n2_ := Aside0.mk (blk_below BK.out hb); have n0_ := Aside0.mk (below_step HB.out hb); clear HB; have HB := n0_; clear n0_; have n1_ := Aside0.mk (Kd.C_below HC.out hb); clear HC BK hcl0; have HC := n1_; have BK := n2_; clear n1_ n2_ hb; have hcl0 : w9.cell? ⟨w6.heap.size, 0, none⟩ = some (.int .i64 px) := (blk_cell BK.out _).trans rfl)) | (go_at_call_of 17 (Value.slice none 0 0); (with_reducible refine (nil_calls px m (B t) 10000 _ F10.out).mono ?_; rintro e w10 ⟨rfl, hb⟩; have n2_ := Aside0.mk (blk_below BK.out hb); have n0_ := Aside0.mk (below_step HB.out hb); clear HB; have HB := n0_; clear n0_; have n1_ := Aside0.mk (Kd.C_below HC.out hb); clear HC BK hcl0; have HC := n1_; have BK := n2_; clear n1_ n2_ hb; have hcl0 : w10.cell? ⟨w6.heap.size, 0, none⟩ = some (.int .i64 px) := (blk_cell BK.out _).trans rfl)) | (go_at_call 17; (with_reducible refine (mark_Verify.calls 10000 _ _ l px (B t) m true _ HC.out hcp F8.out).mono ?_; rintro e w8 ⟨rfl, hb⟩; have n2_ := Aside0.mk (blk_below BK.out hb); have n0_ := Aside0.mk (below_step HB.out hb); clear HB; have HB := n0_; clear n0_; have n1_ := Aside0.mk (Kd.C_below HC.out hb); clear HC BK hcl0; have HC := n1_; have BK := n2_; clear n1_ n2_ hb; have hcl0 : w8.cell? ⟨w6.heap.size, 0, none⟩ = some (.int .i64 px) := (blk_cell BK.out _).trans rfl)))
    go_ret
    exact ⟨rfl, HB.out⟩
  have htb : ((t.length : Int) == 0) = false := beq_eq_false_iff_ne.mpr ht0
  obtain ⟨k, ek, hkt⟩ : ∃ k : Nat, Int.tmod a2 (t.length : Int) = (k : Int) ∧ k < t.length := by
    have e1 := Int.emod_nonneg a2 (b := (t.length : Int)) (by omega)
    have e2 := Int.emod_lt_of_pos a2 (b := (t.length : Int)) (by omega)
    rw [Int.tmod_eq_emod_of_nonneg h2.1]
    exact ⟨(a2 % (t.length : Int)).toNat, by omega, by omega⟩
  obtain ⟨y, hey⟩ : ∃ y : UInt8, enc8 y = .int .u8 a3 := ⟨UInt8.ofNat a3.toNat, by unfold enc8; rw [u8_ofNat _ (by omega)]; congr 1; omega⟩
  have hxx : (t[k] == y) = (((t[k].toNat : Nat) : Int) == a3) := by
    have : (y.toNat : Int) = a3 := by unfold enc8 at hey; simpa using hey
    rw [← this]
    by_cases h : t[k] = y
    · rw [h]; simp
    · rw [beq_eq_false_iff_ne.2 h, beq_eq_false_iff_ne.2 (fun z => h (UInt8.toNat_inj.1 (by omega)))]
  have hk1 : (0 : Int) ≤ (k : Int) := by omega
  have hk2 : (k : Int) < (t.length : Int) := by omega
  have HXX := Lib.hid hxx
  have HEY := Lib.hid hey
  have HF11 := Aside0.mk (F11.out k hkt y)
  have HTL : t.length ≤ 3000 := HTL0.out
  clear hxx hey
  go_enter Try.func4, Try.ntmps4
  go_wp2_with (first | (go_at_call 6; (with_reducible refine (storagebarterlaw14_sane.calls 100 true _ F1.out).mono ?_; rintro e w1 ⟨rfl, hb⟩; have n0_ := Aside0.mk (below_step HB.out hb); clear HB; have HB := n0_; clear n0_; clear hb)) | (go_at_call 7; (with_reducible refine (storagebartermake_Few.calls A0 c0 L _ _ (Kd.C_below HR.out HB.out) hc0 F2.out).mono ?_; rintro e w2 ⟨rfl, ⟨⟨nd, rfl⟩⟩⟩; have n0_ := Aside0.mk (pw_below_drewN HB.out nd); clear HB; have HB := n0_; clear n0_)) | (go_at_call 8; (with_reducible refine (storagebartermake_New.calls A0 c0 L L 0 w _ HB.out HR.out hc0 F3.out).mono ?_; rintro e w3 ⟨g, rfl, hI, hB, hb⟩; have HI := Aside0.mk hI; clear HB; have HB := Aside0.mk hB; clear hI hB hb)) | (go_at_call_of 10 (Value.int IntKind.i64 5); (with_reducible refine (storagebartermake_Deck_Next.calls g L 0 5 _ _ w _ HI.out HB.out F4.out).mono ?_; rintro e w4 ⟨rfl, hI, hB, -⟩; clear HI HB; have HI := Aside0.mk hI; have HB := Aside0.mk hB; clear hI hB)) | (go_at_call 9; (with_reducible refine (storagebartermake_People.calls 100 g L at1 _ l at2 w _ HI.out HB.out F5.out).mono ?_; rintro e w5 ⟨v, rfl, hR, hI, hB, -⟩; clear HI HB; have HI := Aside0.mk hI; have HB := Aside0.mk hB; obtain ⟨Ap, cp, rfl⟩ := Kd.R_slice hR; have HL := Aside0.mk hR; clear hI hB hR)) | (go_at_call 10; (with_reducible refine (storagebartermake_Deck_Next.calls g L at2 _ _ _ w _ HI.out HB.out F6.out).mono ?_; rintro e w6 ⟨rfl, hI, hB, hk⟩; obtain ⟨cg, hbg⟩ := deck_blk HI.out; have hr := Kd.R_keep (Kd.R_types HL.out hbg (by first | decide | (intro q hq; rcases List.mem_cons.1 hq with h_ | h_; (subst h_; decide); (first | (cases h_; done) | (simp [k31] at h_))))) hk (fun _ z => z.2); have HC := Aside0.mk (Kd.R_reads' hr).2.2; have hcp := (Kd.R_reads' hr).2.1; clear HI HB HL hbg hr hk; have HB := Aside0.mk hB; clear hI hB; obtain ⟨ad, ead, hx0, hx1⟩ := at_T31 HC.out (j : Int) hi0 hi1; subst ead; rw [← HPX.out] at hx0; rw [← HPY.out] at hx1; simp only [Int.toNat_natCast] at hx0 hx1)) | (go_at_call 19; (with_reducible refine (mark_Sign.calls 10000 py (B t) m 0 _ F7.out).mono ?_; rintro e w7 ⟨rfl, hb⟩; have BK := Aside0.mk (blk_below (g := w6.heap.size) (o := .cells #[.int .i64 px, .int .i64 py] 31 (0, 0)) (heap_alloc_new w6 _) hb); have GB := Aside0.mk HB.out.size; have n0_ := Aside0.mk (below_step (below_alloc HB.out _) hb); have n1_ := Aside0.mk (Kd.C_below (Kd.C_alloc HC.out _) hb); clear HB HC hx0 hx1; have HB := n0_; have HC := n1_; clear n0_ n1_ hb; have hcl0 : w7.cell? ⟨w6.heap.size, 0, none⟩ = some (.int .i64 px) := (blk_cell BK.out _).trans rfl)) | (go_at_call_of 17 (Value.int IntKind.i64 99); (with_reducible refine (mark_Verify.calls 10000 _ _ l 99 (B t) m false _ HC.out hcp F9.out).mono ?_; rintro e w9 ⟨rfl, hb⟩; have n2_ := Aside0.mk (blk_below BK.out hb); have n0_ := Aside0.mk (below_step HB.out hb); clear HB; have HB := n0_; clear n0_; have n1_ := Aside0.mk (Kd.C_below HC.out hb); clear HC BK hcl0; have HC := n1_; have BK := n2_; clear n1_ n2_ hb; have hcl0 : w9.cell? ⟨w6.heap.size, 0, none⟩ = some (.int .i64 px) := (blk_cell BK.out _).trans rfl)) | (go_at_call_of 17 (Value.slice none 0 0); (with_reducible refine (nil_calls px m (B t) 10000 _ F10.out).mono ?_; rintro e w10 ⟨rfl, hb⟩; have n2_ := Aside0.mk (blk_below BK.out hb); have n0_ := Aside0.mk (below_step HB.out hb); clear HB; have HB := n0_; clear n0_; have n1_ := Aside0.mk (Kd.C_below HC.out hb); clear HC BK hcl0; have HC := n1_; have BK := n2_; clear n1_ n2_ hb; have hcl0 : w10.cell? ⟨w6.heap.size, 0, none⟩ = some (.int .i64 px) := (blk_cell BK.out _).trans rfl; obtain ⟨Wb, cb, hcv, hob, hbb, hsb⟩ := conv_ok w10 t HTL; obtain ⟨hck, hfk⟩ := own8_at hob k hkt; have hob2 := own8_set hob k hkt y; rw [HEY.out] at hob2; have hst : (convert 43 9 (.slice (some ⟨w10.heap.size, 0, none⟩) t.length cb)).run Try.prog (Wb.setCell ⟨w10.heap.size, k, none⟩ (.int .u8 a3)) = .ok (.string (B (t.set k y))) (Wb.setCell ⟨w10.heap.size, k, none⟩ (.int .u8 a3)) := run_string8 _ _ 43 9 5 Try.underlying43 Try.underlying5 Try.underlying9 _ _ hob2; have hbw2 : Below w10.heap.size w10 (Wb.setCell ⟨w10.heap.size, k, none⟩ (.int .u8 a3)) := hbb.setCell (Nat.le_refl _) _; have hcl1 := (hbw2.cell (World.block_lt_of_cell? w10 _ hcl0)).trans hcl0; have n0_ := Aside0.mk (below_step HB.out hbw2); clear HB; have HB := n0_; clear n0_; have n1_ := Aside0.mk (Kd.C_below HC.out hbw2); clear HC hob hob2 hbb hsb hbw2; have HC := n1_; clear n1_)) | (go_at_call 17; (with_reducible refine (mark_Verify.calls 10000 _ _ l px (B t) m true _ HC.out hcp F8.out).mono ?_; rintro e w8 ⟨rfl, hb⟩; have n2_ := Aside0.mk (blk_below BK.out hb); have n0_ := Aside0.mk (below_step HB.out hb); clear HB; have HB := n0_; clear n0_; have n1_ := Aside0.mk (Kd.C_below HC.out hb); clear HC BK hcl0; have HC := n1_; have BK := n2_; clear n1_ n2_ hb; have hcl0 : w8.cell? ⟨w6.heap.size, 0, none⟩ = some (.int .i64 px) := (blk_cell BK.out _).trans rfl)) | (go_at_call 17; (with_reducible refine (mark_Verify.calls 10000 _ _ l px (B (t.set k y)) m _ _ HC.out hcp HF11.out).mono ?_; rintro e w11 ⟨rfl, hb⟩; have n0_ := Aside0.mk (below_step HB.out hb); clear HB; have HB := n0_; clear n0_; clear hb)))
  go_ret
  exact ⟨by rw [HXX.out]; simp, HB.out⟩

end Go.Proofs.Ytcalkhlchjjalaa.Gmw

/- The row of 'MarkVerifies'. -/
namespace Go.Proofs.Ytcalkhlchjjalaa.markVerifies
open Go.ChangeShapes Go.WideShapes Go.ChangeAt Go.RowKit
open Go.ChangeMaps (open_string shut_string)
set_option linter.unusedVariables false
theorem own : ownKnob Try.prog.godebug = none := by kernel_rfl
theorem laidOut : laidOutB Try.prog = true := by kernel_rfl
def IsRow (k : IntKind) (w : World) (a : Option Addr) (len cap : Nat) (zs : List Int) : Prop :=
  (a = none ∧ len = 0 ∧ cap = 0 ∧ zs = []) ∨
  ∃ x, a = some x ∧ len ≤ cap ∧ cap ≤ maxLen ∧ zs.length = cap ∧ (∀ i, i < zs.length → w.cell? (x.add i) = some (.int k (zs.getD i 0))) ∧ ∀ n ∈ zs, (Lit.int k n).wf = true
set_option maxRecDepth 100000 in
theorem lifted (os : Os) (started : os.Started) (H : Type) (enc : TypeId × Value → H) :
    ReturnsInHanded {} Try.checked os 4 .any (Rows.markVerifiesSpec.pre6 enc Try.prog Try.f4 Rows.markVerifiesRow.domain false) (Rows.markVerifiesSpec.post enc Try.prog Try.f4 false true false false) := by
  refine returnsInHanded_of_change_sized (C := Try.checked) own started (by kernel_rfl) Try.func4
    (ChangeSpec.witness6 (enc := enc) (C := Try.checked) false ⟨#[], #[.slice none 0 0, .string ByteArray.empty, .int .u16 0, .int .u8 0], []⟩ 8 (by kernel_rfl) (by kernel_rfl) (by kernel_rfl) (by kernel_rfl)) ?_
  intro W base args ds gs before hval0 hW hcnd hsz0 _
  have hsz : (DataW.weightsEach Try.prog (Try.f4.params.toList ++ Rows.markVerifiesSpec.plain.varTypes Try.prog) (ds ++ gs)).all (· ≤ reachBytes) = true := hsz0
  have hval : ∀ (j : Nat) t v, Try.f4.params[j]? = some t → args[j]? = some v → Value.okWide Try.prog W .any base t v := hval0
  have hW' := hW
  obtain ⟨p, q, hA0, hV, rfl, hfz, hnd⟩ := hW
  have hA : DataW.TrodAll enc Try.prog W 0 (fun _ => true) true Try.f4.params.toList args.toList ds p := hA0
  rw [Try.params4] at hA hval hsz
  obtain ⟨v0, vs0, d0, ds0, p0, q0, hargs, rfl, rfl, h0, r0⟩ := trodAll_cons hA
  obtain ⟨v1, vs1, d1, ds1, p1, q1, rfl, rfl, rfl, h1, r1⟩ := trodAll_cons r0
  obtain ⟨v2, vs2, d2, ds2, p2, q2, rfl, rfl, rfl, h2, r2⟩ := trodAll_cons r1
  obtain ⟨v3, vs3, d3, ds3, p3, q3, rfl, rfl, rfl, h3, r3⟩ := trodAll_cons r2
  obtain ⟨rfl, rfl, rfl⟩ := trodAll_nil r3
  obtain rfl : args = #[v0, v1, v2, v3] := by cases args; simp_all
  obtain ⟨rfl, rfl⟩ := trodVars_none hV
  obtain ⟨a0, len0, cap0, rfl⟩ := okWide_slice Try.underlying22 (hval 0 22 v0 rfl rfl)
  have k0 := h0
  have lt0 : ∀ x ∈ p0, x.block < W.heap.size := by obtain ⟨m, hm⟩ := k0; exact DataW.trod_lt m _ _ _ hm
  obtain ⟨z0, w0⟩ : ∃ zs, IsRow .i64 W a0 len0 cap0 zs := by
    obtain ⟨fuel, hf⟩ := h0
    rcases open_ints Try.underlying22 Try.underlying3 (by kernel_rfl) hf with ⟨hcs, _⟩ | ⟨x, l, c, zs, hcs, _, hl, hm, hz, _, hcell, hwz⟩
    · simp [Value.cells] at hcs
      obtain ⟨rfl, rfl, rfl⟩ := hcs
      exact ⟨[], .inl ⟨rfl, rfl, rfl, rfl⟩⟩
    · simp [Value.cells] at hcs
      obtain ⟨rfl, rfl, rfl⟩ := hcs
      exact ⟨zs, .inr ⟨_, rfl, hl, hm, by simpa using hz, hcell, hwz⟩⟩
  have y0 : len0 * 8 ≤ 140737488351232 := Go.Proofs.YtcalkhlchjjalaaW.PrintWords.sized_ints hsz (j := 0) (t := 22) rfl rfl Try.underlying22 Try.underlying3 (by kernel_rfl) (by kernel_rfl) h0
  obtain ⟨a1, rfl, rfl, rfl, y1⟩ := open_string Try.underlying9 (hval 1 9 v1 rfl rfl) h1
  obtain ⟨a2, rfl, rfl, rfl, w2⟩ := open_int Try.underlying42 (hval 2 42 v2 rfl rfl) h2
  obtain ⟨a3, rfl, rfl, rfl, w3⟩ := open_int Try.underlying5 (hval 3 5 v3 rfl rfl) h3
  clear hA0 hval0 hsz0 hsz
  obtain ⟨l0, rfl, hr0, hm0, hw0, hc0⟩ := Go.Proofs.YtcalkhlchjjalaaW.PrintWords.ReadsInt.ofRowC w0
  obtain ⟨t, rfl⟩ := Gm.exB a1
  refine (Gmw.calls _ _ l0 t a2 a3 W (Go.Proofs.YtcalkhlchjjalaaW.PrintWords.Kd.C_of_reads (d := (0 : Int)) (h1 := fun _ => rfl) hr0) hc0 (bounds_u16 w2) (bounds_u8 w3)).mono fun e W' ⟨he, bel⟩ => ?_
  subst he
  exact ⟨_, rfl, _, _, _, [], _, [], hW', trodAll_mk1 (shut_bool Try.underlying4 _), (trodAll_cons_mk (Below.trod laidOut (by kernel_rfl) (of_decide_eq_true (by kernel_rfl)) k0 bel lt0) (trodAll_cons_mk (shut_string Try.underlying9 y1) (trodAll_cons_mk (shut_int Try.underlying42 w2) (trodAll_cons_mk (shut_int Try.underlying5 w3) trodAll_mk0)))), rfl, bel.frame _, fun h => by cases h⟩
theorem over : Rows.markVerifiesRow.holds Try.pinned (OpenSpec.ofChange Rows.markVerifiesSpec) :=
  OpenClaim.holds_of_wide 4 Try.f4 rfl rfl rfl rfl rfl rfl rfl ⟨rfl, rfl, rfl, rfl, rfl⟩ rfl rfl rfl rfl rfl (by kernel_rfl) Try.func4 (by kernel_rfl)
    (of_decide_eq_true (by kernel_rfl)) (by unfold Func.isWrapper; first | (rw [if_pos (by decide +kernel)]; kernel_rfl) | (rw [if_neg (by decide +kernel)]; exact ⟨rfl, rfl⟩))
    (fun os started H enc _ => lifted os started H enc)
theorem proved : Rows.MarkVerifiesSaid := over
#print axioms proved
end Go.Proofs.Ytcalkhlchjjalaa.markVerifies
namespace Go.Proofs.Ytcalkhlchjjalaa
/-- The row, under a short name, for the claim. -/
theorem markVerifies_holds : Rows.MarkVerifiesSaid := markVerifies.proved
end Go.Proofs.Ytcalkhlchjjalaa
