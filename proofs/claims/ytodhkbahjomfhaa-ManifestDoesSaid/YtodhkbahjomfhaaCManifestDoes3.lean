/- Versions, sizes, changes and what is restored are as the reference says, or the error: for all arguments. -/
import Derived.ProofKit
import Derived.Laws.Strings
import Derived.Test.YtodhkbahjomfhaaCManifestDoes2
import Derived.Test.YtodhkbahjomfhaaProg
import Derived.OpenShut
import Derived.Laws.BitsLemmas
import Derived.Test.YtodhkbahjomfhaaCManifestDoes1
import Derived.Deep.LoopGhost
import Derived.WalkArith
import Derived.Below
import Derived.Deep.Draws
import Derived.Deep.AppendLies
import Derived.Maps.AppendAt
import Derived.OwnWalk
import Derived.Laws.BytesArg
import Derived.Laws.MakeOwn
import Derived.Laws.OwnMore
import Derived.Deep.OwnRows
import Derived.Tactics
import Derived.Lib.ConvBytes
import Derived.Laws.Slices
import Derived.WalkKit
import Derived.KernelRfl
import Derived.RowKit3
import Derived.Deep.QuietTactic
import Derived.BigQuiet
import Derived.WideLaws
import Derived.Deep.DeepCutAuto
import Derived.Deep.CutBlock
import Derived.Deep.RegionHeld3
import Derived.Laws.Rows
import Derived.Lib.AppendStr
import Derived.ArgAppend
import Derived.Laws.IdiomCopy
import Derived.OrdersHeld
import Derived.RowKit
import Derived.Maps.OwnSet
import Derived.Maps.StringElems
import Derived.DeepKeys4
import Derived.Lib.Hide
import Derived.Maps.OwnOps
import Derived.Shelf.Strings.Builder1
import Derived.Lib.Builder
import Derived.Lib.Strings
import Derived.Lib.Walk
import Derived.Laws.Externs
import Derived.OneCell
namespace Go.Proofs.Ytodhkbahjomfhaa.Gm
def grp (u : Nat) : List UInt8 := if h : 127 < u then UInt8.ofNat (u % 128 + 128) :: grp (u / 128) else [UInt8.ofNat u]
termination_by u
decreasing_by omega
theorem grp_more {u : Nat} (h : 127 < u) : grp u = UInt8.ofNat (u % 128 + 128) :: grp (u / 128) := by rw [grp, dif_pos h]
theorem grp_last {u : Nat} (h : ¬ 127 < u) : grp u = [UInt8.ofNat u] := by rw [grp, dif_neg h]
def zig (n : Int) : Nat := if 0 ≤ n then (2 * n).toNat else (-2 * n - 1).toNat
def unzig (u : Nat) : Int := if u % 2 = 0 then ((u / 2 : Nat) : Int) else -((u / 2 : Nat) : Int) - 1
theorem unzig_zig (n : Int) : unzig (zig n) = n := by
 unfold unzig zig
 split <;> split <;> omega
theorem zig_unzig (u : Nat) : zig (unzig u) = u := by
 unfold unzig zig
 split <;> split <;> omega
theorem unzig_range {u : Nat} (h : u < 18446744073709551616) : -9223372036854775808 ≤ unzig u ∧ unzig u ≤ 9223372036854775807 := by
 unfold unzig
 split <;> omega
theorem zig_range {n : Int} (h : -9223372036854775808 ≤ n ∧ n ≤ 9223372036854775807) : zig n < 18446744073709551616 := by
 unfold zig
 split <;> omega
def putI (n : Int) : List UInt8 := grp (zig n)
theorem grp_pos (u : Nat) : 0 < (grp u).length := by rw [grp]; split <;> simp
theorem grp_len (k u : Nat) (h : u < 128 ^ (k + 1)) : (grp u).length ≤ k + 1 := by
 induction k generalizing u with
 | zero => rw [grp_last (by omega)]; simp
 | succ k ih =>
  by_cases h127 : 127 < u
  ·rw [grp_more h127]
   have := ih (u / 128) (by rw [Nat.pow_succ] at h; exact Nat.div_lt_of_lt_mul (by omega))
   simp; omega
  ·rw [grp_last h127]; simp
theorem grp_len10 (u : Nat) (h : u < 18446744073709551616) : (grp u).length ≤ 10 := grp_len 9 u (by simp; omega)
def putL (l : List Int) : List UInt8 := putI l.length ++ l.flatMap putI
theorem putI_len {n : Int} (h : -9223372036854775808 ≤ n ∧ n ≤ 9223372036854775807) : (putI n).length ≤ 10 := grp_len10 _ (zig_range h)
theorem u8_ofNat (n : Nat) (h : n < 256) : (UInt8.ofNat n).toNat = n := UInt8.toNat_ofNat_of_lt' (by simpa using h)
theorem u8_eq {a b : UInt8} (h : a.toNat = b.toNat) : a = b := UInt8.toNat_inj.1 h
def rdU : Nat → Nat → List UInt8 → Nat × Nat × Nat
 | _, _, [] => (0, 0, 3)
 | k, u, b :: l => if (k = 9 ∧ 1 < b.toNat) ∨ (0 < k ∧ b.toNat = 0) then (0, 0, 2)
  else if b.toNat < 128 then (u + b.toNat * 128 ^ k, k + 1, 0) else rdU (k + 1) (u + b.toNat % 128 * 128 ^ k) l
theorem pow_split {k : Nat} (h : k ≤ 9) : ∃ m, 18446744073709551616 = 128 ^ k * m ∧ 2 ≤ m ∧ (k < 9 → 256 ≤ m) := by
 refine ⟨2 * 128 ^ (9 - k), ?_, ?_, ?_⟩
 ·rw [← Nat.mul_assoc, Nat.mul_comm (128 ^ k) 2, Nat.mul_assoc, ← Nat.pow_add, Nat.add_sub_cancel' h]
 ·have : 0 < 128 ^ (9 - k) := Nat.pow_pos (by decide)
  omega
 ·intro hk
  obtain ⟨j, hj⟩ : ∃ j, 9 - k = j + 1 := ⟨8 - k, by omega⟩
  rw [hj, Nat.pow_succ]
  have : 0 < 128 ^ j := Nat.pow_pos (by decide)
  omega
theorem small_k {k v : Nat} (hv : 1 ≤ v) (h : v * 128 ^ k < 18446744073709551616) : k ≤ 9 := by
 rcases Nat.lt_or_ge 9 k with h9 | h9
 ·exfalso
  have h1 : 128 ^ 10 ≤ 128 ^ k := Nat.pow_le_pow_right (by decide) h9
  have h2 : 128 ^ k ≤ v * 128 ^ k := Nat.le_mul_of_pos_left _ hv
  have h3 : (128 : Nat) ^ 10 = 1180591620717411303424 := by decide
  omega
 ·exact h9
theorem at9 {v : Nat} (h : v * 128 ^ 9 < 18446744073709551616) : v ≤ 1 := by
 have h3 : (128 : Nat) ^ 9 = 9223372036854775808 := by decide
 rw [h3] at h
 omega
theorem step_val (u v k : Nat) : u + v % 128 * 128 ^ k + v / 128 * 128 ^ (k + 1) = u + v * 128 ^ k := by
 have h := Nat.div_add_mod v 128
 rw [Nat.pow_succ, Nat.mul_comm (128 ^ k) 128, ← Nat.mul_assoc, Nat.add_assoc, ← Nat.add_mul]
 congr 2
 omega
theorem rdU_grp (l : List UInt8) : ∀ (v k u : Nat), (0 < k → 1 ≤ v) → v * 128 ^ k < 18446744073709551616 → rdU k u (grp v ++ l) = (u + v * 128 ^ k, k + (grp v).length, 0) := by
 intro v
 induction v using Nat.strongRecOn with
 | _ v ih =>
 intro k u hk hv
 have h9 : k ≤ 9 := by
  rcases Nat.eq_zero_or_pos k with h | h
  ·omega
  ·exact small_k (hk h) hv
 by_cases h127 : 127 < v
 ·have hn : ¬ ((k = 9 ∧ 1 < v % 128 + 128) ∨ (0 < k ∧ v % 128 + 128 = 0)) := by
   rintro (⟨rfl, _⟩ | ⟨_, h0⟩)
   ·have := at9 hv; omega
   ·omega
  have hval := step_val u v k
  have hle : v / 128 * 128 ^ (k + 1) ≤ v * 128 ^ k := by omega
  rw [grp_more h127, List.cons_append, rdU, u8_ofNat _ (by omega), if_neg hn, if_neg (by omega), show (v % 128 + 128) % 128 = v % 128 by omega, ih (v / 128) (by omega) (k + 1) _ (by omega) (by omega), hval]
  simp only [List.length_cons]
  congr 2
  omega
 ·have hn : ¬ ((k = 9 ∧ 1 < v) ∨ (0 < k ∧ v = 0)) := by
   rintro (⟨rfl, h1⟩ | ⟨h0, h1⟩)
   ·have := at9 hv; omega
   ·have := hk h0; omega
  rw [grp_last h127, List.singleton_append, rdU, u8_ofNat _ (by omega), if_neg hn, if_pos (by omega)]
  rfl
theorem rdU_inv : ∀ (l : List UInt8) (k u r n : Nat), k ≤ 9 → rdU k u l = (r, n, 0) → ∃ v, r = u + v * 128 ^ k ∧ n = k + (grp v).length ∧ l.take (grp v).length = grp v ∧ (grp v).length ≤ l.length ∧ (0 < k → 1 ≤ v) ∧ v * 128 ^ k < 18446744073709551616
 | [], k, u, r, n, _, h => by simp [rdU] at h
 | b :: l, k, u, r, n, h9, h => by
  have hb := b.toNat_lt
  rw [rdU] at h
  split at h
  ·simp at h
  rename_i hn
  have hbz : k = 9 → b.toNat ≤ 1 := fun e => by
   rcases Nat.lt_or_ge 1 b.toNat with h1 | h1
   ·exact (hn (.inl ⟨e, h1⟩)).elim
   ·exact h1
  obtain ⟨m, hm, hm2, hm9⟩ := pow_split h9
  split at h
  ·rename_i h128
   simp only [Prod.mk.injEq, and_true] at h
   obtain ⟨rfl, rfl⟩ := h
   refine ⟨b.toNat, rfl, ?_⟩
   rw [grp_last (by omega)]
   refine ⟨rfl, by simp, by simp, fun hk => ?_, ?_⟩
   ·rcases Nat.eq_zero_or_pos b.toNat with h0 | h0
    ·exact (hn (.inr ⟨hk, h0⟩)).elim
    ·exact h0
   ·rw [hm, Nat.mul_comm]
    refine Nat.mul_lt_mul_of_pos_left ?_ (Nat.pow_pos (by decide))
    rcases Nat.lt_or_ge k 9 with hk | hk
    ·have := hm9 hk; omega
    ·have := hbz (by omega); omega
  ·rename_i h128
   have hk9 : k < 9 := by
    rcases Nat.lt_or_ge k 9 with hk | hk
    ·exact hk
    ·have := hbz (by omega); omega
   obtain ⟨v, hr, hnn, ht, hl, hv1, hv2⟩ := rdU_inv l (k + 1) _ r n (by omega) h
   have hv1 := hv1 (by omega)
   have e1 : (b.toNat % 128 + 128 * v) % 128 = b.toNat % 128 := by omega
   have e2 : (b.toNat % 128 + 128 * v) / 128 = v := by omega
   have e3 : UInt8.ofNat (b.toNat % 128 + 128) = b := u8_eq (by rw [u8_ofNat _ (by omega)]; omega)
   refine ⟨b.toNat % 128 + 128 * v, ?_⟩
   have hs := step_val u (b.toNat % 128 + 128 * v) k
   rw [e1, e2] at hs
   rw [grp_more (by omega), e1, e2, e3]
   refine ⟨hr.trans hs, by simp; omega, by simp [ht], by simpa using hl, fun _ => by omega, ?_⟩
   have hs0 := step_val 0 (b.toNat % 128 + 128 * v) k
   rw [e1, e2] at hs0
   obtain ⟨m', hm', hm2', -⟩ := pow_split (show k + 1 ≤ 9 by omega)
   have hvm : v < m' := by
    rw [hm', Nat.mul_comm] at hv2
    exact Nat.lt_of_mul_lt_mul_left hv2
   have h1 : v * 128 ^ (k + 1) + 128 ^ (k + 1) ≤ 18446744073709551616 := by
    rw [hm', ← Nat.succ_mul, Nat.mul_comm]
    exact Nat.mul_le_mul_left _ hvm
   have h2 : b.toNat % 128 * 128 ^ k < 128 ^ (k + 1) := by
    rw [Nat.pow_succ, Nat.mul_comm]
    exact Nat.mul_lt_mul_of_pos_left (by omega) (Nat.pow_pos (by decide))
   omega
def B (l : List UInt8) : ByteArray := ⟨l.toArray⟩
theorem B_data (l : List UInt8) : (B l).data.toList = l := rfl
theorem B_toList (l : List UInt8) : (B l).toList = l := by rw [ByteArray.toList_eq]; rfl
theorem B_size (l : List UInt8) : (B l).size = l.length := by simp [B, ByteArray.size]
theorem B_append (l m : List UInt8) : B l ++ B m = B (l ++ m) := by
 apply ByteArray.ext
 simp [B]
end Go.Proofs.Ytodhkbahjomfhaa.Gm

namespace Go.Proofs.Ytodhkbahjomfhaa.Gput
open Go Go.RowKit Go.Shelf Go.Proofs.Ytodhkbahjomfhaa.Gb Go.Proofs.Ytodhkbahjomfhaa.Gm
attribute [local go_sem] Oper.semAt_some
set_option linter.unusedVariables false
theorem groups_in (F : Fence) (n : Nat) (hF : F.fn 113) (hro : F.round = none) (u : Int) (w : World) :
 CallsIn F n Try.prog 113 #[.int .u64 u] w fun e w' => e = .returned (.func (.func 127) #[] #[.pointer (some ⟨w.heap.size, 0, none⟩)]) ∧ w' = w.alloc (.cells #[.int .u64 u] 141) := by
 refine callsIn_of_wp Try.func113 rfl hF ?_ hro
 simp only [Try.ntmps113, List.size_toArray, List.length_cons, List.length_nil, Nat.reduceAdd, Nat.reduceSub, Array.replicate_succ, Array.replicate_zero, List.push_toArray, List.append_toArray, List.nil_append, List.cons_append]
 gi_wp2
 go_ret
 exact ⟨rfl, rfl⟩
theorem or128_all : ∀ n : Nat, n < 256 → n ||| 128 = n % 128 + 128 := by decide +kernel
theorem or128 (u : Nat) : bits .or .u8 ((u : Int) % 256) 128 = ((u % 128 + 128 : Nat) : Int) := by
 have h := (bits_nat .u8 8 (by decide) wraps_u8 (u % 256) 128 (by omega) (by decide)).2
 rw [or128_all _ (by omega)] at h
 have e : ((u : Int) % 256) = ((u % 256 : Nat) : Int) := by omega
 rw [e]
 refine h.trans ?_
 omega
theorem enc8_ofNat (n : Nat) (h : n < 256) : enc8 (UInt8.ofNat n) = .int .u8 (n : Int) := by
 unfold enc8
 rw [UInt8.toNat_ofNat_of_lt' (by simpa using h)]
def left8 (B : Nat) (w : World) : Nat := match w.cell? ⟨B, 0, none⟩ with
 | some (.int _ n) => n.toNat
 | _ => 0
set_option maxRecDepth 100000 in
set_option maxHeartbeats 1000000 in
theorem groups1_seq (F : Fence) (n : Nat) (hF : F.fn 127) (hro : F.round = none) (hn : 1 ≤ n) (Bu u : Nat) (hu : u < 18446744073709551616) :
 SeqCell F n Try.prog 127 #[.pointer (some ⟨Bu, 0, none⟩)] (fun x => #[enc8 x]) Bu 141 (.int .u64 u) (grp u) := by
 intro l J W hB hA hset hY h0
 refine callsIn_of_wp Try.func127 rfl hF ?_ hro
 simp only [Try.ntmps127, List.size_toArray, List.length_cons, List.length_nil, Nat.reduceAdd, Nat.reduceSub, Array.replicate_succ, Array.replicate_zero, List.push_toArray, List.append_toArray, List.nil_append, List.cons_append]
 gi_wp2
 gi_loopw [] (fun wr => ∃ (pre : List UInt8) (u' : Nat), grp u = pre ++ grp u' ∧ u' < 18446744073709551616 ∧ Boxed wr Bu 141 (.int .u64 u') ∧ J pre wr)
  (fun wr => left8 Bu wr)
 case atStart =>
  exact ⟨[], u, rfl, hu, hB, h0⟩
 case round =>
  obtain ⟨pre, u', hg, hu', hb, hj⟩ := hrel
  have hc := hb.cell
  have hf := hb.frozen
  have hlen : pre.length < (grp u).length := by
   rw [hg]; have : 0 < (grp u').length := by rw [grp]; split <;> simp
   simp; omega
  by_cases h127 : 127 < u'
  ·obtain ⟨fn, tmps, assign, body, hy, hR⟩ := hY pre (UInt8.ofNat (u' % 128 + 128)) wr hj hlen
   rw [enc8_ofNat _ (by omega), ← or128] at hy
   gi_wp2
   refine hR.mono ?_
   rintro e W3 ⟨rfl, hJ3, hk3⟩
   have hb3 := hk3 _ hb
   have hc3 := hb3.cell
   have hf3 := hb3.frozen
   gi_wp2
   go_roundw
   case rel =>
    refine ⟨pre ++ [UInt8.ofNat (u' % 128 + 128)], u' / 128, by rw [hg, grp_more h127]; simp, by omega, hb3.set _, hset _ _ _ _ hb3 hJ3⟩
   case measure =>
    have e1 : left8 Bu wr = u' := by unfold left8; rw [hc]; simp
    have e2 : ∀ v, left8 Bu (W3.setCell ⟨Bu, 0, none⟩ (.int .u64 v)) = v.toNat := fun v => by unfold left8; rw [(hb3.set _).cell]
    rw [e1, e2]
    omega
  ·obtain ⟨fn, tmps, assign, body, hy, hR⟩ := hY pre (UInt8.ofNat u') wr hj hlen
   rw [enc8_ofNat _ (by omega)] at hy
   have h256 : ((u' : Int) % 256) = u' := by omega
   gi_wp2
   refine hR.mono ?_
   rintro e W3 ⟨rfl, hJ3, hk3⟩
   gi_wp2
   go_end0
   exact ⟨⟨_, rfl⟩, by rw [hg, grp_last h127]; exact hJ3⟩
theorem zig_lt (n : Int) (h : (Lit.int .i64 n).wf = true) : zig n < 18446744073709551616 := by
 have := bounds_i64 h
 unfold zig
 split <;> omega
theorem bits_xor64 (a b : Nat) : bits .xor .u64 (a : Int) (b : Int) = IntKind.u64.wrap ((BitVec.ofNat 64 a ^^^ BitVec.ofNat 64 b).toNat : Int) := by
 unfold bits
 simp only [BitVec.ofInt_natCast]
 rfl
theorem zig_bits (m : Int) (h : (Lit.int .i64 m).wf = true) : bits .xor .u64 (IntKind.u64.wrap (IntKind.u64.wrap m * 2)) (IntKind.u64.wrap (m / 9223372036854775808)) = (zig m : Int) := by
 have hb := bounds_i64 h
 have wr : ∀ x : Int, IntKind.u64.wrap x = x % 18446744073709551616 := fun x => by simp [IntKind.wrap, IntKind.bits, IntKind.signed]
 unfold zig
 by_cases h0 : 0 ≤ m
 ·have e1 : IntKind.u64.wrap (IntKind.u64.wrap m * 2) = ((2 * m).toNat : Int) := by rw [wr, wr]; omega
  have e2 : IntKind.u64.wrap (m / 9223372036854775808) = ((0 : Nat) : Int) := by rw [wr]; omega
  rw [e1, e2, if_pos h0]
  have hlt : (2 * m).toNat < 2 ^ 64 := by simp; omega
  rw [bits_xor64, BitVec.toNat_xor, BitVec.toNat_ofNat, BitVec.toNat_ofNat, Nat.mod_eq_of_lt hlt, Nat.zero_mod, Nat.xor_zero, wr]
  omega
 ·have e1 : IntKind.u64.wrap (IntKind.u64.wrap m * 2) = ((2 * m + 18446744073709551616).toNat : Int) := by rw [wr, wr]; omega
  have e2 : IntKind.u64.wrap (m / 9223372036854775808) = ((18446744073709551615 : Nat) : Int) := by rw [wr]; omega
  rw [e1, e2, if_neg h0]
  have hlt : (2 * m + 18446744073709551616).toNat < 2 ^ 64 := by simp; omega
  have hn : (BitVec.ofNat 64 18446744073709551615) = BitVec.allOnes 64 := by decide
  rw [bits_xor64, hn, BitVec.xor_allOnes, BitVec.toNat_not, BitVec.toNat_ofNat, Nat.mod_eq_of_lt hlt, wr]
  omega
theorem info_byte : (Try.prog.info? 5).map (fun i => (i.zero, i.size, i.bytes)) = some (some (.int .u8 0), 1, 1) := by kernel_rfl
set_option maxRecDepth 100000 in
set_option maxHeartbeats 2000000 in
theorem put_in (F : Fence) (n : Nat) (h46 : F.fn 93) (h54 : F.fn 113) (h57 : F.fn 127) (hro : F.round = none) (hn : 3 ≤ n)
 (base : Nat) (v : Value) (xs : List UInt8) (m : Int) (hm : (Lit.int .i64 m).wf = true) (w : World) (hrow : Own8 w base 5 v xs) (hb : base ≤ w.heap.size) (hlen : xs.length + 10 ≤ 140737488355328) (u : Nat) (hu : zig m = u) :
 CallsIn F n Try.prog 93 #[v, .int .i64 m] w fun e W' => ∃ v', e = .returned v' ∧ Own8 W' base 5 v' (xs ++ grp u) ∧ Below base w W' := by
 have h1 : 1 ≤ n := by omega
 obtain ⟨i0, hi, hz0, hz1, hz2⟩ := info_parts info_byte
 refine callsIn_of_wp_marks Try.func93 rfl h46 ?_ hro
 simp only [Try.ntmps93, List.size_toArray, List.length_cons, List.length_nil, Nat.reduceAdd, Nat.reduceSub, Array.replicate_succ, Array.replicate_zero, List.push_toArray, List.append_toArray, List.nil_append, List.cons_append]
 obtain ⟨g, cap, cur, fz, rfl, hrest⟩ := id hrow
 gi_wp2_with (gi_at_call 113; refine (groups_in F (n - 1) h54 hro _ _).mono ?_; rintro e w' ⟨rfl, rfl⟩)
 have hz := zig_bits m hm
 have hzl := zig_lt m hm
 rw [hu] at hz hzl
 rw [hz]
 clear hz hu
 have hrow' : Own8 w base 5 (.slice (some ⟨g, 0, none⟩) xs.length cap) xs := hrow
 have bB := Boxed.new w 43 (.slice (some ⟨g, 0, none⟩) xs.length cap)
 have bU := Boxed.new (w.alloc (.cells #[.slice (some ⟨g, 0, none⟩) xs.length cap] 43)) 141 (.int .u64 u)
 rw [World.size_alloc] at bU
 have hB0 : Below base w ((w.alloc (.cells #[.slice (some ⟨g, 0, none⟩) xs.length cap] 43)).alloc (.cells #[.int .u64 u] 141)) := ((Below.refl _ w).alloc hb _).alloc (by simp; omega) _
 have hgl := grp_len10 u hzl
 refine rangeFunc_cell hro h1 (gf := 127) (lb := #[.pointer (some ⟨w.heap.size + 1, 0, none⟩)]) rfl h57 (enters_of Try.func127 (by kernel_rfl) rfl)
  (groups1_seq F (n - 1) h57 hro (by omega) (w.heap.size + 1) u hzl) bU (fun _ => rfl)
  (fun pre W => (∃ v, Boxed W w.heap.size 43 v ∧ Own8 W base 5 v (xs ++ pre)) ∧ Below base w W)
  (OwnFrom.and (Own.from (holds8_own base w.heap.size 43 5 (fun pre => xs ++ pre)) _) (ownFrom_below hb (by simp; omega)))
  (fun s W v v' hbu hs => ⟨by
   obtain ⟨⟨q, hq, hr⟩, _⟩ := hs
   exact ⟨q, hq.kept (grownBy_setCell' W _ v') (by simp), hr.setCell hbu (by decide) v'⟩, hs.2.setCell (p := ⟨w.heap.size + 1, 0, none⟩) (show base ≤ w.heap.size + 1 by omega) _⟩)
  ⟨⟨_, bB.alloc _, by rw [List.append_nil]; exact (hrow'.alloc _).alloc _⟩, hB0⟩
  (fun x => { tmps := #[.slice (some ⟨g, 0, none⟩) xs.length cap, .int .i64 m, .pointer (some ⟨w.heap.size, 0, none⟩), undef, .slice none 0 0, .int .u8 (x.toNat : Int), .int .i64 m, .int .u64 (IntKind.u64.wrap m), .int .u64 (IntKind.u64.wrap (IntKind.u64.wrap m * 2)), .int .i64 m, .int .i64 (m / 9223372036854775808), .int .u64 (IntKind.u64.wrap (m / 9223372036854775808)), .int .u64 u, .func (.func 127) #[] #[.pointer (some ⟨w.heap.size + 1, 0, none⟩)], .int .u8 (x.toNat : Int), undef, undef, undef, undef, undef], defers := [] }) ?assign ?body ?done
 case assign =>
  intro l x W K hK
  gi_wp2
  exact hK
 case body =>
  rintro l pre x W ⟨⟨v, hv, hrow⟩, hB⟩ hlt
  have hc := hv.cell
  have hpl : (xs ++ pre).length < xs.length + 10 := by rw [List.length_append]; omega
  gi_wp2_with (gi_at_builtin; refine wpListIn_append8 _ rfl _ _ 43 rfl base 5 i0 Try.underlying43 hi hz0 hz1 hz2 _ _ rfl (hrow.alloc _) ⟨W.heap.size, 0, none⟩ 1 x rfl (by rw [show (⟨W.heap.size, 0, none⟩ : Addr).add 0 = ⟨W.heap.size, 0, none⟩ from rfl]; exact (Boxed.new W 5 (enc8 x)).cell) (by omega) (by have := hB.size; simp; omega) ?_; intro v' w1 hown' hgrow; obtain ⟨hv1, hv2, hr2, hk2, hb2⟩ := Boxed.appended8 hv (by decide) hrow (Nat.le_trans hb hB.size) hb hown' hgrow; have hq2 := fun u2 (hu2 : Boxed W (w.heap.size + 1) 141 u2) => Boxed.beside8 (v' := v') hu2 (by decide) (by omega) hrow hgrow hv1; obtain ⟨g', cap', cur', fz', rfl, hrest'⟩ := id hown'; have hc1 := hv1.cell; have hf1 := hv1.frozen)
  have el : (xs ++ pre ++ [x]).length = xs.length + (pre.length + 1) := by simp
  rw [el] at hk2 hv2 hr2 hb2
  simp only [el] at hq2
  exact ⟨hk2, hq2, ⟨_, hv2, by rw [← List.append_assoc]; exact hr2⟩, hB.trans hb2⟩
 case done =>
  rintro D W hD ⟨⟨v, hv, hrow⟩, hB⟩ hK
  have hc := hv.cell
  gi_wp2
  refine ⟨by simp, .inl ⟨_, _, rfl, run_takeDeferred hK, ?_⟩⟩
  exact ⟨_, results_tmp rfl _ _ _, v, rfl, hrow.putObj _ hK rfl, hB.trans (belowK_b (w := w) hb W D _ _ (by simp at hD; omega) hK rfl rfl)⟩
theorem put_any (base : Nat) (v : Value) (xs : List UInt8) (m : Int) (hm : (Lit.int .i64 m).wf = true) (w : World) (hrow : Own8 w base 5 v xs) (hb : base ≤ w.heap.size) (hlen : xs.length + 10 ≤ 140737488355328) :
 Calls Try.prog 93 #[v, .int .i64 m] w fun e W' => ∃ v', e = .returned v' ∧ Own8 W' base 5 v' (xs ++ putI m) ∧ Below base w W' :=
 callsIn_wide.1 (put_in _ 3 trivial trivial trivial rfl (by omega) base v xs m hm w hrow hb hlen (zig m) rfl)
def wire_PutInt.f (a0 : ByteArray) (a1 : Int) : Option ByteArray :=
 if a0.size + 10 ≤ 140737488355328 ∧ (Lit.int .i64 a1).wf = true then some ⟨(a0.data.toList ++ putI a1).toArray⟩ else none
set_option maxHeartbeats 2000000 in
theorem wire_PutInt.calls (a0 : ByteArray) (a1 : Int) (r : ByteArray) (w : World) (h : wire_PutInt.f a0 a1 = some r) :
 Calls Try.prog 65 #[.string a0, .int .i64 a1] w fun e w' => e = .returned (.string r) ∧ Below w.heap.size w w' := by
 unfold wire_PutInt.f at h
 split at h
 case isFalse => cases h
 case isTrue hc =>
 obtain ⟨hs, hm⟩ := hc
 obtain rfl := Option.some.inj h
 clear h
 have hsm : a0.size ≤ maxLen := by unfold maxLen; omega
 have hcv := Lib.run_convert_string_bytes (P := Try.prog) w 9 43 5 a0 Try.underlying9 Try.underlying43 Try.underlying5
 have hown := own8_bytes w w.heap.size 5 a0 (Nat.le_refl _) hsm
 have hbw : Below w.heap.size w (Lib.bytesWorld w 5 a0) := (Below.refl _ w).grown (bytesWorld_grown w 5 a0) (Nat.le_refl _) (fun k e => by cases e)
 have hl : a0.data.toList.length + 10 ≤ 140737488355328 := by rw [Array.length_toList]; exact hs
 go_enter Try.func65, Try.ntmps65
 go_wp2_with (go_at_call 93; refine (put_any w.heap.size _ _ a1 hm _ hown (by rw [Lib.bytesWorld_size]; omega) hl).mono ?_; rintro e W1 ⟨v1, rfl, ho1, hb1⟩; have hst := run_string8 (P := Try.prog) W1 w.heap.size 43 9 5 Try.underlying43 Try.underlying5 Try.underlying9 v1 _ ho1)
 go_ret
 exact ⟨rfl, hbw.trans hb1⟩
end Go.Proofs.Ytodhkbahjomfhaa.Gput

namespace Go.Proofs.Ytodhkbahjomfhaa.Gputl
open Go Go.RowKit Go.Shelf Go.Proofs.Ytodhkbahjomfhaa.Gb Go.Proofs.Ytodhkbahjomfhaa.Gm Go.Proofs.Ytodhkbahjomfhaa.Gput Go.Proofs.YtodhkbahjomfhaaW.PrintWords Go.Proofs.YtodhkbahjomfhaaW.PrintLast Go.Proofs.YtodhkbahjomfhaaW.PrintMore
set_option linter.unusedVariables false
def wire_PutList.f (a0 : ByteArray) (l1 : List Int) : Option ByteArray :=
 if a0.size + 10 * (l1.length + 1) ≤ 140737488355328 ∧ (l1.all fun x => (Lit.int .i64 x).wf) = true then some ⟨(a0.data.toList ++ putL l1).toArray⟩ else none
theorem putI_snoc (l : List Int) (k : Nat) (h : k < l.length) : (l.take (k + 1)).flatMap putI = (l.take k).flatMap putI ++ putI (rd l k) := by
 rw [List.take_succ_eq_append_getElem h, List.flatMap_append]
 simp [rd, List.getD, h]
theorem flat_len (l : List Int) (h : (l.all fun x => (Lit.int .i64 x).wf) = true) : ∀ k, ((l.take k).flatMap putI).length ≤ 10 * k
 | 0 => by simp
 | k + 1 => by
  have ih := flat_len l h k
  rcases Nat.lt_or_ge k l.length with hk | hk
  ·rw [putI_snoc l k hk, List.length_append]
   have hw := List.all_eq_true.1 h (l[k]) (List.getElem_mem hk)
   have := putI_len (bounds_i64 hw)
   have e : rd l k = l[k] := by simp [rd, List.getD, hk]
   rw [e]
   omega
  ·rw [List.take_of_length_le (by omega)]
   rw [List.take_of_length_le hk] at ih
   omega
set_option maxRecDepth 100000 in
set_option maxHeartbeats 4000000 in
theorem wire_PutList.calls (a0 : ByteArray) (A1 : Option Addr) (c1 : Nat) (l1 : List Int) (r : ByteArray) (w : World) (hr1 : Kd.C (Kd.int .i64) w A1 l1.length l1) (hc1 : l1.length ≤ c1) (h : wire_PutList.f a0 l1 = some r) :
 Calls Try.prog 73 #[.string a0, .slice A1 l1.length c1] w fun e w' => e = .returned (.string r) ∧ Below w.heap.size w w' := by
 unfold wire_PutList.f at h
 split at h
 case isFalse => cases h
 case isTrue hc =>
 obtain ⟨hs, hall⟩ := hc
 obtain rfl := Option.some.inj h
 clear h
 have hsm : a0.size ≤ maxLen := by unfold maxLen; omega
 have hcv := Lib.run_convert_string_bytes (P := Try.prog) w 9 43 5 a0 Try.underlying9 Try.underlying43 Try.underlying5
 have hown := own8_bytes w w.heap.size 5 a0 (Nat.le_refl _) hsm
 have hbw : Below w.heap.size w (Lib.bytesWorld w 5 a0) := (Below.refl _ w).grown (bytesWorld_grown w 5 a0) (Nat.le_refl _) (fun k e => by cases e)
 have hsz : a0.data.toList.length = a0.size := by rw [Array.length_toList]; rfl
 have hwl : (Lit.int .i64 (l1.length : Int)).wf = true := by first | exact Go.WalkArith.wf_i64 ⟨by omega, by omega⟩ | go_wf
 have hpl := putI_len (bounds_i64 hwl)
 have hl : a0.data.toList.length + 10 ≤ 140737488355328 := by rw [hsz]; omega
 have HR := Aside0.mk hr1
 have HALL := Aside0.mk hall
 clear hr1 hall
 go_enter Try.func73, Try.ntmps73
 go_wp2_with (go_at_call 93; refine (put_any w.heap.size _ _ (l1.length : Int) hwl _ hown (by rw [Lib.bytesWorld_size]; omega) hl).mono ?_; rintro e W1 ⟨v1, rfl, ho1, hb1⟩)
 clear hcv hown
 go_loopw [5, 15] (fun v5 v15 wr => ∃ (k : Nat), k ≤ l1.length ∧ v15 = .int .i64 k ∧ Own8 wr w.heap.size 5 v5 (a0.data.toList ++ (putI (l1.length : Int) ++ (l1.take k).flatMap putI)) ∧ Below w.heap.size w wr)
  (fun _ v15 _ => l1.length - (intOf v15).toNat)
 case atStart => exact ⟨0, Nat.zero_le _, rfl, by simpa using ho1, hbw.trans hb1⟩
 case round =>
  obtain ⟨k, hk, rfl, hown, hbel⟩ := hrel
  by_cases hlt : k < l1.length
  ·have hlen : (a0.data.toList ++ (putI (l1.length : Int) ++ (l1.take k).flatMap putI)).length + 10 ≤ 140737488355328 := by
    have := flat_len l1 HALL.out k
    simp only [List.length_append, hsz]
    omega
   have hwk : (Lit.int .i64 (rd l1 k)).wf = true := by
    have := List.all_eq_true.1 HALL.out (l1[k]) (List.getElem_mem hlt)
    have e : rd l1 k = l1[k] := by simp [rd, List.getD, hlt]
    rw [e]; exact this
   obtain ⟨ad, ead, hx⟩ := Kd.at_int HR.out k (by omega) (by omega)
   cases ead
   replace hx := (hbel.cell (World.block_lt_of_cell? w _ hx)).trans hx
   simp only [Int.toNat_natCast] at hx
   go_wp2_with (go_at_call 93; refine (put_any w.heap.size _ _ _ hwk _ hown hbel.size hlen).mono ?_; rintro e W2 ⟨v2, rfl, ho2, hb2⟩)
   go_roundw
   case rel => exact ⟨k + 1, by omega, by go_num, by rw [putI_snoc l1 k hlt]; simpa using ho2, hbel.trans hb2⟩
   case measure => simp [intOf]; omega
  ·obtain rfl : k = l1.length := by omega
   have hst := run_string8 (P := Try.prog) wr w.heap.size 43 9 5 Try.underlying43 Try.underlying5 Try.underlying9 _ _ hown
   go_wp2
   go_ret
   exact ⟨rfl, hbel⟩
end Go.Proofs.Ytodhkbahjomfhaa.Gputl

namespace Go.Proofs.Ytodhkbahjomfhaa.Q
open Go.RowKit Go.Proofs.YtodhkbahjomfhaaW.PrintWords Go.Proofs.YtodhkbahjomfhaaW.PrintLast Go.Proofs.YtodhkbahjomfhaaW.PrintMore Go.Proofs.Ytodhkbahjomfhaa.Gput Go.Proofs.Ytodhkbahjomfhaa.Gputl
attribute [local go_sem] max2_int min2_int max_two min_two max_three min_three max_four min_four   -- for this text's walks alone
set_option linter.unusedVariables false
set_option linter.unusedSimpArgs false
def errW : Option Int → Value
 | none => .nilIface
 | some c => .iface 0 (.int .i64 c)
theorem errW_none : errW none = .nilIface := rfl
theorem errW_some (c : Int) : errW (some c) = .iface 0 (.int .i64 c) := rfl
theorem info3 : (Try.prog.info? 3).map (fun i => (i.zero, i.size, i.bytes)) = some (some (.int .i64 0), 1, 8) := by kernel_rfl
theorem info5 : (Try.prog.info? 5).map (fun i => (i.zero, i.size, i.bytes)) = some (some (.int .u8 0), 1, 1) := by kernel_rfl
theorem info9 : (Try.prog.info? 9).map (fun i => (i.zero, i.size, i.bytes)) = some (some (.string ⟨#[]⟩), 1, 16) := by kernel_rfl
theorem info78 : (Try.prog.info? 78).map (fun i => (i.zero, i.size, i.bytes)) = some (some (.agg #[(.int .i64 0), (.int .i64 0)]), 2, 16) := by kernel_rfl
structure S78 where
 f0 : Int
 f1 : Int
def z78 : S78 := ⟨(0 : Int), (0 : Int)⟩
def k78 : Kd S78 := Kd.iso (Kd.pair (Kd.int .i64) (Kd.int .i64)) (fun x : S78 => (x.f0, x.f1))
theorem k78_open {w : World} {x : S78} {cs : List Value} (h : k78.K w x cs) : cs = [.int .i64 x.f0, .int .i64 x.f1] := by
 obtain ⟨_, _, rfl, rfl, rfl⟩ := h
 exact rfl
theorem k78_openM {w : World} {base : Nat} {ok : Nat → Prop} {x : S78} {cs : List Value} (h : k78.M w base ok x cs) : cs = [.int .i64 x.f0, .int .i64 x.f1] := by
 obtain ⟨_, _, rfl, rfl, rfl⟩ := h
 exact rfl
theorem k78_mk (w : World) (x : S78)  : k78.K w x [.int .i64 x.f0, .int .i64 x.f1] := ⟨[.int .i64 x.f0], [.int .i64 x.f1], rfl, rfl, rfl⟩
theorem k78_mkM (w : World) (base : Nat) (ok : Nat → Prop) (x : S78)  : k78.M w base ok x [.int .i64 x.f0, .int .i64 x.f1] := ⟨[.int .i64 x.f0], [.int .i64 x.f1], rfl, rfl, rfl⟩
def rd_T78 (xs : List S78) (i : Int) : S78 := xs.getD i.toNat z78
theorem at_T78 {w : World} {A : Option Addr} {n : Nat} {xs : List S78} (h : Kd.C k78 w A n xs) (i : Int) (h0 : 0 ≤ i) (h1 : i < n) : ∃ ad , A = some ad ∧ w.cell? (ad.add (i.toNat * 2)) = some (.int .i64 (rd_T78 xs i).f0) ∧ w.cell? ⟨(ad.add (i.toNat * 2)).block, (ad.add (i.toNat * 2)).off + 1, none⟩ = some (.int .i64 (rd_T78 xs i).f1) := by
 obtain ⟨ad, c, e, _, hK, hc0⟩ := Kd.C_get h z78 i h0 h1
 have hc : ∀ j u, c[j]? = some u → w.cell? (ad.add (i.toNat * 2 + j)) = some u := hc0
 obtain rfl := k78_open hK
 exact ⟨ad, e, hc 0 _ rfl, by rw [← add_field _ _ 1 (by omega)]; exact hc 1 _ rfl⟩
structure S116 where
 f0 : Int
 f1 : Int
 f2 : Int
 f3 : Int
 f4 : Int
 f5 : Int
 f6 : Int
 f7 : Int
 f8 : Int
 f9 : Int
 f10 : Int
structure S46 where
 f0 : Int
 f1 : Int
 f2 : (List S116)
def z46 : S46 := ⟨(0 : Int), (0 : Int), ([] : List S116)⟩
structure S48 where
 f0 : Int
 f1 : Int
 f2 : Int
 f3 : Int
 f4 : ByteArray
 f5 : S46
end Go.Proofs.Ytodhkbahjomfhaa.Q

namespace Go.Proofs.Ytodhkbahjomfhaa.Gqb
open Go Go.RowKit
structure BelowBy (W : World) where
 world : World
 h : Below W.heap.size W world
instance (W : World) : Inhabited (BelowBy W) := ⟨⟨W, Below.refl _ _⟩⟩
theorem wp_region_below {P : Program} {id : Nat} {Q : Exit → Act → World → Prop} {a : Act} {W : World} {l : List Oper} (hm : P.follows .mixedOrders = true) (hB : Region.lexB .any l.toArray = true)
 (h : wpQuiet P l.toArray (fun w' => ∃ p : BelowBy W, w' = p.world) (fun a' => ∀ w', (∃ p : BelowBy W, w' = p.world) → Q .normal a' w') l a) : (Code.region id l.toArray true).wp P Q a W :=
 wp_region_quiet (C := fun w' => ∃ p : BelowBy W, w' = p.world) hm hB ⟨⟨W.drew, (Below.refl _ _).drew⟩, rfl⟩ (by simpa using h)
theorem BelowBy.cell {W : World} (p : BelowBy W) {a : Addr} {v : Value} (hb : a.block < W.heap.size) (h : W.cell? a = some v) : p.world.cell? a = some v := (p.h.cell hb).trans h
theorem BelowBy.calls {P : Program} {f : FuncId} {args : Array Value} {W : World} {v : Value} (p : BelowBy W) (h : Calls P f args p.world fun e w' => e = .returned v ∧ Below p.world.heap.size p.world w') : Calls P f args p.world fun e w'' => e = .returned v ∧ ∃ p' : BelowBy W, w'' = p'.world :=
 h.mono fun _ w' ⟨he, hb⟩ => ⟨he, ⟨w', p.h.trans (hb.mono p.h.size)⟩, rfl⟩
end Go.Proofs.Ytodhkbahjomfhaa.Gqb

namespace Go.Proofs.Ytodhkbahjomfhaa.Q
open Go.RowKit Go.Proofs.YtodhkbahjomfhaaW.PrintWords Go.Proofs.YtodhkbahjomfhaaW.PrintLast Go.Proofs.YtodhkbahjomfhaaW.PrintMore Go.Proofs.Ytodhkbahjomfhaa.Gput Go.Proofs.Ytodhkbahjomfhaa.Gputl
attribute [local go_sem] max2_int min2_int max_two min_two max_three min_three max_four min_four   -- for this text's walks alone
set_option linter.unusedVariables false
set_option linter.unusedSimpArgs false
noncomputable def digest_Sum.l0 : Nat → ByteArray → Int → Int → Int → Option (Int)
 | 0, _, _, _, _ => none
 | k + 1, x0, x3, x6, x7 => if x7 < x6 then (if 0 ≤ x7 then (if x7 < (x0.size : Int) then (digest_Sum.l0 k x0 (Int.tmod (wrap64 ((wrap64 ((wrap64 (x3 * 1000003)) + (wrap64 (bt x0 x7)))) + 1)) 2147483647) x6 (wrap64 (x7 + 1))) else (none)) else (none)) else (some x3)
noncomputable def digest_Sum.f (k : Nat) (a0 : ByteArray) : Option (Int) := digest_Sum.l0 k a0 1 (a0.size : Int) 0
theorem digest_Sum.mono_l : ∀ k, (∀ y0 y1 y2 y3, LeO (digest_Sum.l0 k y0 y1 y2 y3) (digest_Sum.l0 (k + 1) y0 y1 y2 y3))
 | 0 => fun _ _ _ _ r h => by simp [digest_Sum.l0] at h
 | k + 1 => by
  have ih0 := digest_Sum.mono_l k
  ·intro y0 y1 y2 y3
   unfold digest_Sum.l0
   repeat' first
   | (with_reducible exact ih0 _ _ _ _)
   | (with_reducible exact LeO.refl _)
   | (with_reducible exact LeO.none _)
   | (with_reducible refine LeO.ite ?_ ?_)
   | (with_reducible refine LeO.bind ?_ (fun _ => ?_))
   | exact ih0 _ _ _ _
   | exact LeO.none _
   | refine LeO.ite ?_ ?_
   | refine LeO.bind ?_ (fun _ => ?_)
theorem digest_Sum.mono : ∀ a0 k, LeO (digest_Sum.f k a0) (digest_Sum.f (k + 1) a0) := by
 intro a0 k
 have ih0 := digest_Sum.mono_l k
 unfold digest_Sum.f
 repeat' first
  | (with_reducible exact ih0 _ _ _ _)
  | (with_reducible exact LeO.refl _)
  | (with_reducible exact LeO.none _)
  | (with_reducible refine LeO.ite ?_ ?_)
  | (with_reducible refine LeO.bind ?_ (fun _ => ?_))
  | exact ih0 _ _ _ _
  | exact LeO.none _
  | refine LeO.ite ?_ ?_
  | refine LeO.bind ?_ (fun _ => ?_)
set_option maxHeartbeats 8000000 in
set_option maxRecDepth 100000 in
theorem digest_Sum.calls (k : Nat) (a0 : ByteArray) (r : Int) (w : World) (h : digest_Sum.f k a0 = some r) :
 Calls Try.prog 91 #[.string a0] w fun e w' => e = .returned (.int .i64 r) ∧ Drawn0 w w' := by
 have H : (digest_Sum.l0 k a0 1 (a0.size : Int) 0) = some r := h
 clear h
 have H' := Aside0.mk H
 clear H
 go_enter Try.func91, Try.ntmps91
 go_wp2
 go_loopg [3, 7] k (fun kq v3 v7 w' => ∃ (x3_1 : Int) (x7_1 : Int), v3 = .int .i64 x3_1 ∧ v7 = .int .i64 x7_1 ∧ Aside0 (digest_Sum.l0 kq a0 x3_1 (a0.size : Int) x7_1 = some r) ∧ Aside0 (kq ≤ k) ∧ Drawn0 w w')
 case atStart => exact ⟨(1), (0), (by first | rfl | (simp; done) | (simp [*]; done)), (by first | rfl | (simp; done) | (simp [*]; done)), H', ⟨Nat.le_refl _⟩, by repeat (first | exact Drawn0.refl _ | apply Drawn0.step)⟩
 case round =>
  clear H'
  obtain ⟨x3_1, x7_1, rfl, rfl, HA, HK1, ⟨m1, rfl⟩⟩ := hrel
  cases gk with
  | zero => exact absurd HA.out (by simp [digest_Sum.l0])
  | succ k1 =>
   have H := HA.out
   clear HA
   simp only [digest_Sum.l0] at H
   by_cases c2 : x7_1 < (a0.size : Int)
   ·rw [if_pos c2] at H
    have c2b0 : decide (x7_1 < (a0.size : Int)) = true := decide_eq_true c2
    clear c2
    by_cases c3 : 0 ≤ x7_1
    ·rw [if_pos c3] at H
     have c3b0 : decide (0 ≤ x7_1) = true := decide_eq_true c3
     clear c3
     by_cases c4 : x7_1 < (a0.size : Int)
     ·rw [if_pos c4] at H
      have c4b0 : decide (x7_1 < (a0.size : Int)) = true := decide_eq_true c4
      clear c4
      have H' := Aside0.mk H
      clear H
      have p5 : 0 ≤ (x7_1 : Int) := of_decide_eq_true (by first | (with_reducible assumption) | assumption)
      have q5 : x7_1 < (a0.size : Int) := of_decide_eq_true (by first | (with_reducible assumption) | assumption)
      have hx5 := bt_at a0 x7_1
      replace p5 := eq_true p5
      replace q5 := eq_true q5
      go_wp2
      go_roundg k1
      case measure => have := HK1.out; omega
      case rel => exact ⟨(Int.tmod (wrap64 ((wrap64 ((wrap64 (x3_1 * 1000003)) + (wrap64 (bt a0 x7_1)))) + 1)) 2147483647), (wrap64 (x7_1 + 1)), (by first | rfl | (simp; done) | (simp [*]; done)), (by first | rfl | (simp; done) | (simp [*]; done)), H', ⟨by have := HK1.out; omega⟩, by repeat (first | exact Drawn0.refl _ | apply Drawn0.step)⟩
     ·rw [if_neg c4] at H
      exact absurd H (by simp)
    ·rw [if_neg c3] at H
     exact absurd H (by simp)
   ·rw [if_neg c2] at H
    have c2b0 : decide (x7_1 < (a0.size : Int)) = false := decide_eq_false c2
    clear c2
    obtain rfl := Option.some.inj H
    go_wp2
    go_ret
    exact ⟨by first | rfl | (simp; done) | (simp [*]; done), by repeat (first | exact Drawn0.refl _ | apply Drawn0.step)⟩
end Go.Proofs.Ytodhkbahjomfhaa.Q

namespace Go.Proofs.Ytodhkbahjomfhaa.Q
open Go.RowKit Go.Proofs.YtodhkbahjomfhaaW.PrintWords Go.Proofs.YtodhkbahjomfhaaW.PrintLast Go.Proofs.YtodhkbahjomfhaaW.PrintMore Go.Proofs.Ytodhkbahjomfhaa.Gput Go.Proofs.Ytodhkbahjomfhaa.Gputl
attribute [local go_sem] max2_int min2_int max_two min_two max_three min_three max_four min_four   -- for this text's walks alone
set_option linter.unusedVariables false
set_option linter.unusedSimpArgs false
noncomputable def manifest_nameOf.f (k : Nat) (a0 : ByteArray) : Option (Int × Int) := (digest_Sum.f k a0).bind fun t117 => (some (t117, (a0.size : Int)))
theorem manifest_nameOf.mono : ∀ a0 k, LeO (manifest_nameOf.f k a0) (manifest_nameOf.f (k + 1) a0) := by
 intro a0 k
 unfold manifest_nameOf.f
 repeat' first
  | (with_reducible exact digest_Sum.mono _ _)
  | (with_reducible exact LeO.refl _)
  | (with_reducible exact LeO.none _)
  | (with_reducible refine LeO.ite ?_ ?_)
  | (with_reducible refine LeO.bind ?_ (fun _ => ?_))
  | exact digest_Sum.mono _ _
  | exact LeO.none _
  | refine LeO.ite ?_ ?_
  | refine LeO.bind ?_ (fun _ => ?_)
set_option maxHeartbeats 8000000 in
set_option maxRecDepth 100000 in
theorem manifest_nameOf.calls (k : Nat) (a0 : ByteArray) (r1 : Int) (r2 : Int) (w : World) (h : manifest_nameOf.f k a0 = some (r1, r2)) :
 Calls Try.prog 62 #[.string a0] w fun e w' => e = .returned (.agg #[.int .i64 r1, .int .i64 r2]) ∧ Below w.heap.size w w' := by
 have hu78 := Try.underlying78
 have HB := Aside0.mk (Below.refl w.heap.size w)
 have H : ((digest_Sum.f k a0).bind fun t117 => (some (t117, (a0.size : Int)))) = some (r1, r2) := h
 clear h
 replace H := Option.bind_eq_some_iff.mp H
 obtain ⟨t117, A20, H⟩ := H
 replace H : (some (t117, (a0.size : Int))) = some (r1, r2) := H
 have A2 := Aside0.mk A20
 clear A20
 simp only [Option.some.injEq, Prod.mk.injEq] at H
 obtain ⟨rfl, rfl⟩ := H
 go_enter Try.func62, Try.ntmps62
 go_wp2_with (first | ((with_reducible refine gate_dst (N := 2) rfl ?_); refine box_event ?hg (N := 2) ?hd (cs := #[.int .i64 0, .int .i64 0]) (t := 78) ?hr ?_; (case hd => rfl); (case hg => rfl); (case hr => first | (go_simp; done) | (go_simp; rfl)); intro gb116 hg w3 hbox hb; have n0_ := Aside0.mk (below_step (by repeat (first | (with_reducible first | exact HB.out | apply below_alloc | apply pw_below_drewN | apply below_drew1) | exact HB.out)) hb); have n1_ := Aside0.mk (hbox); have n2_ := Aside0.mk ((by rw [hg]; exact (below_size (by repeat (first | (with_reducible first | exact HB.out | apply below_alloc | apply pw_below_drewN | apply below_drew1) | exact HB.out))) : w.heap.size ≤ gb116)); have n3_ := Aside0.mk ((by rw [hg]; exact (below_size (by repeat (first | (with_reducible first | exact HB.out | apply below_alloc | apply pw_below_drewN | apply below_drew1) | exact HB.out))) : w.heap.size ≤ gb116)); clear HB; have HB := n0_; have BK116 := n1_; have GW116 := n2_; have GE116 := n3_; clear n0_ n1_ n2_ n3_; clear hb hbox hg) | ((with_reducible refine gate_callee (f := 91) rfl ?_); refine goesL_ (some 4) rfl rfl Try.func91 (by kernel_rfl) rfl #[.string a0] rfl (by (try simp only [List.map_toArray, List.map_cons, List.map_nil]); first | done | rfl | (simp only [List.length_drop, List.length_take]; rfl)) ?_; (with_reducible refine (digest_Sum.calls k a0 t117 _ A2.out).mono ?_); rintro e w' ⟨rfl, ⟨nd, rfl⟩⟩; refine ⟨_, rfl, ?_⟩; (try (rw [drewN_self w3]; generalize hq_ : World.drewN w3 _ = w3; have n0_ : Aside0 (w3.heap[gb116]? = some (.cells #[.int .i64 0, .int .i64 0] 78 (0, 0))) := ⟨by rw [← hq_]; exact (by (with_reducible repeat (first | refine blk_drewN ?_ _ | refine blk_drew ?_ | refine blk_alloc ?_ _)); exact BK116.out)⟩; have n1_ : Aside0 (Below w.heap.size w w3) := ⟨by rw [← hq_]; exact (by repeat (first | (with_reducible first | exact HB.out | apply below_alloc | apply pw_below_drewN | apply below_drew1 | refine below_set ?_ GE116.out) | exact HB.out))⟩; clear BK116 HB hq_; have BK116 := n0_; have HB := n1_; clear n0_ n1_)); have hcz4_0 : w3.cell? ⟨gb116, 0, none⟩ = some (.int .i64 0) := (blk_cell BK116.out 0).trans rfl; have hcz4_1 : w3.cell? ⟨gb116, 1, none⟩ = some (.int .i64 0) := (blk_cell BK116.out 1).trans rfl; have hfz4_0 := blk_frozen BK116.out 0; have hfz4_1 := blk_frozen BK116.out 1))
 refine bodyPost_ret (results_cell_row rfl _ _ gb116 78 #[.int .i64 t117, .int .i64 (a0.size : Int)] (0, 0) _ rfl (by (with_reducible repeat (first | refine blk_drewN ?_ _ | refine blk_drew ?_ | refine blk_alloc ?_ _)); refine blk_put (cs := #[.int .i64 t117, .int .i64 0]) ?_ 1 _ rfl; (with_reducible repeat (first | refine blk_drewN ?_ _ | refine blk_drew ?_ | refine blk_alloc ?_ _)); refine blk_put (cs := #[.int .i64 0, .int .i64 0]) ?_ 0 _ rfl; (with_reducible repeat (first | refine blk_drewN ?_ _ | refine blk_drew ?_ | refine blk_alloc ?_ _)); exact BK116.out) Try.underlying78 rfl (by kernel_rfl)) rfl ?_
 exact ⟨by first | rfl | (simp [errW_none, errW_some] <;> rfl) | (simp [*, errW_none, errW_some] <;> rfl), by repeat (first | (with_reducible first | exact HB.out | apply below_alloc | apply pw_below_drewN | apply below_drew1 | refine below_set ?_ GE116.out) | exact HB.out)⟩
end Go.Proofs.Ytodhkbahjomfhaa.Q

namespace Go.Proofs.Ytodhkbahjomfhaa.Q
open Go Go.RowKit Go.Maps Go.Proofs Go.Proofs.YtodhkbahjomfhaaW.PrintWords Go.Proofs.YtodhkbahjomfhaaW.PrintLast Go.Proofs.YtodhkbahjomfhaaW.PrintMore
set_option linter.unusedVariables false
theorem nk_laid : laidOutB Try.prog = true := by kernel_rfl
theorem nk_row : (78 : TypeId) < Try.prog.types.size := of_decide_eq_true (by kernel_rfl)
theorem nk_wide : (match Try.prog.underlying 78 with | some (.array _ _) | some (.struct _) => true | _ => false) = true := by rw [Try.underlying78]
set_option maxRecDepth 1000000 in
theorem nk : Keyed Try.prog 78 := Keyed.of_law (deep_law_laid nk_laid (m := 2) (by omega) nk_row (by kernel_rfl) nk_wide)
def In64 (a : Int) : Prop := (Lit.int .i64 a).wf = true
theorem key_some {a b : Int} (wa : In64 a) (wb : In64 b) : ∃ l, keyOf Try.prog 78 (.agg #[.int .i64 a, .int .i64 b]) = some l := by
 have hk : Try.prog.keyType 78 = true := by kernel_rfl
 have hc : (Try.prog.cellsOf 3) = 1 := by kernel_rfl
 have hc2 : (Try.prog.cellsOf 78) = 2 := by kernel_rfl
 have hkey : ∀ n : Nat, 78 < n → ∃ m, n = m + 1 := fun n h => ⟨n - 1, by omega⟩
 obtain ⟨m, hm⟩ := hkey _ nk_row
 unfold In64 at wa wb
 unfold keyOf
 simp only [Try.underlying78]
 rw [if_pos (by simp [hk, Value.formed, Try.underlying78, hc2]), hm]
 unfold Program.keyLits
 simp only [Try.underlying78, Value.cells]
 simp [Program.keyLits, Try.underlying3, wa, wb, hc, hc2]
noncomputable def kl (a b : Int) : Lit := (keyOf Try.prog 78 (.agg #[.int .i64 a, .int .i64 b])).getD (.bool false)
theorem kl_key {a b : Int} (wa : In64 a) (wb : In64 b) : keyOf Try.prog 78 (.agg #[.int .i64 a, .int .i64 b]) = some (kl a b) := by
 obtain ⟨l, h⟩ := key_some wa wb
 unfold kl
 rw [h]
 rfl
theorem kl_ne {a b c d : Int} (wa : In64 a) (wb : In64 b) (wc : In64 c) (wd : In64 d) (h : (a, b) ≠ (c, d)) : kl a b ≠ kl c d := by
 intro e
 have h1 := kl_key wa wb
 have h2 := kl_key wc wd
 rw [← e] at h2
 have h3 := nk.inj h1 h2
 simp only [Value.agg.injEq, Array.mk.injEq, List.cons.injEq, Value.int.injEq, true_and, and_true] at h3
 exact h (by rw [h3.1, h3.2])
set_option maxRecDepth 1000000 in
theorem kl_isKey {a b : Int} (wa : In64 a) (wb : In64 b) : WideAt.IsKeyLit (kl a b) := nk.key (kl_key wa wb)
theorem nameOf_more {k : Nat} {s : ByteArray} {r : Int × Int} (h : manifest_nameOf.f k s = some r) : ∀ n, manifest_nameOf.f (k + n) s = some r
 | 0 => h
 | n + 1 => manifest_nameOf.mono s (k + n) _ (nameOf_more h n)
open Classical in
noncomputable def nm (s : ByteArray) : Int × Int := if h : ∃ r k, manifest_nameOf.f k s = some r then Classical.choose h else (0, 0)
theorem nm_of {k : Nat} {s : ByteArray} {r : Int × Int} (h : manifest_nameOf.f k s = some r) : nm s = r := by
 have hx : ∃ r k, manifest_nameOf.f k s = some r := ⟨r, k, h⟩
 unfold nm
 rw [dif_pos hx]
 obtain ⟨k', h'⟩ := Classical.choose_spec hx
 have h1 := nameOf_more h k'
 have h2 := nameOf_more h' k
 rw [Nat.add_comm] at h2
 exact Option.some.inj (h2.symm.trans h1)
noncomputable def lookS (l : List ByteArray) (d z : Int) : Option ByteArray := l.reverse.find? (fun s => decide (nm s = (d, z)))
theorem lookS_nil (d z : Int) : lookS [] d z = none := rfl
theorem lookS_snoc (l : List ByteArray) (s : ByteArray) (d z : Int) : lookS (l ++ [s]) d z = if nm s = (d, z) then some s else lookS l d z := by
 unfold lookS
 rw [List.reverse_append, List.reverse_singleton, List.singleton_append, List.find?_cons]
 by_cases h : nm s = (d, z)
 ·rw [if_pos h, decide_eq_true h]
 ·rw [if_neg h, decide_eq_false h]
def MapS (w : World) (g : Nat) (l : List ByteArray) : Prop := ∃ D : DataW Unit, w.ownsMap Try.prog 78 (plainElem Try.prog 9) g l.length D ∧ IsMap D ∧
 ∀ d z : Int, In64 d → In64 z → (lookS l d z = none → Maps.has D (kl d z) = false) ∧ ∀ s, lookS l d z = some s → Maps.has D (kl d z) = true ∧ D.atKey (kl d z) (.lit (.string [])) = .lit (.string s.data.toList)
theorem MapS.made (w : World) : MapS (w.alloc (.map #[] 0)) w.heap.size [] := by
 refine ⟨.map [], World.ownsMap_made w _ _ _, isMap_empty, fun d z _ _ => ⟨fun _ => rfl, fun s h => ?_⟩⟩
 rw [lookS_nil] at h
 cases h
theorem MapS.obj {w : World} {g : Nat} {l : List ByteArray} (h : MapS w g l) : ∃ es c, w.heap[g]? = some (.map es c) := by
 obtain ⟨D, ⟨es, c, hb, _⟩, _⟩ := h
 exact ⟨es, c, hb⟩
theorem MapS.kept {w w1 : World} {g : Nat} {l : List ByteArray} (h : MapS w g l) (he : w1.heap[g]? = w.heap[g]?) : MapS w1 g l := by
 obtain ⟨D, ⟨es, c, hb, r⟩, h2⟩ := h
 exact ⟨D, ⟨es, c, he.trans hb, r⟩, h2⟩
theorem MapS.lt {w : World} {g : Nat} {l : List ByteArray} (h : MapS w g l) : g < w.heap.size := by
 obtain ⟨es, c, hb⟩ := h.obj
 exact (Array.getElem?_eq_some_iff.1 hb).1
theorem MapS.below {w w1 : World} {g : Nat} {l : List ByteArray} (h : MapS w g l) (hb : Below w.heap.size w w1) : MapS w1 g l := h.kept (hb.block g h.lt)
theorem MapS.alloc {w : World} {g : Nat} {l : List ByteArray} (h : MapS w g l) (o : Obj) : MapS (w.alloc o) g l := h.below (below_alloc (Below.refl _ _) o)
theorem MapS.drewN {w : World} {g : Nat} {l : List ByteArray} (h : MapS w g l) (m : Nat) : MapS (w.drewN m) g l := h.below (pw_below_drewN (Below.refl _ _) m)
theorem MapS.drew {w : World} {g : Nat} {l : List ByteArray} (h : MapS w g l) : MapS w.drew g l := h
theorem MapS.far {w : World} {g : Nat} {l : List ByteArray} (h : MapS w g l) {p : Addr} (hp : g ≠ p.block) (u : Value) : MapS (w.setCell p u) g l := h.kept (Below.heap_setCell w p u g hp)
theorem MapS.grown {w w1 : World} {g : Nat} {l : List ByteArray} (h : MapS w g l) {row : Option Nat} (hg : w.grownBy w1 row) (hne : some g ≠ row) : MapS w1 g l := h.kept (hg.block g h.lt hne)
theorem MapS.ne {w : World} {g : Nat} {l : List ByteArray} (h : MapS w g l) {b : Nat} {cs : Array Value} {t : TypeId} (hb : w.heap[b]? = some (.cells cs t (0, 0))) : g ≠ b := by
 obtain ⟨es, c, hm⟩ := h.obj
 rintro rfl
 rw [hm] at hb
 cases hb
theorem map_ne_blk {w : World} {g : Nat} {es : Array MapEntry} {c : Nat} (hm : w.heap[g]? = some (.map es c)) {b : Nat} {cs : Array Value} {t : TypeId} (hb : w.heap[b]? = some (.cells cs t (0, 0))) : some b ≠ some g := by
 intro e
 cases e
 rw [hm] at hb
 cases hb
theorem MapS.ne' {w : World} {g : Nat} {l : List ByteArray} (h : MapS w g l) {b : Nat} {cs : Array Value} {t : TypeId} (hb : w.heap[b]? = some (.cells cs t (0, 0))) : some b ≠ some g := fun e => h.ne hb (Option.some.inj e).symm
theorem MapS.ne_row {α : Type} {d : Kd α} {e : Nat} {w : World} {base : Nat} {ok : Nat → Prop} {v : Value} {xs : List α} {g : Nat} {l : List ByteArray} (h : MapS w g l) (hr : d.R e w base ok v xs) : some g ≠ v.ownBlock := by
 intro e
 obtain ⟨cs, hb⟩ := Kd.R_typed hr g e.symm
 exact h.ne hb rfl
theorem R_overM {α : Type} {d : Kd α} {e : Nat} {w w1 : World} {base : Nat} {ok : Nat → Prop} {v : Value} {xs : List α} {g : Nat} (hr : d.R e w base ok v xs) (hm : ∃ es c, w.heap[g]? = some (.map es c)) (hg : w.grownBy w1 (some g)) : d.R e w1 base ok v xs := by
 obtain ⟨es, c, hm⟩ := hm
 refine Kd.R_mono (Kd.R_move (Kd.R_bound hr) (fun k hk => hg.block k hk.2.2.1 (fun he => ?_))) (fun _ hk => hk.1)
 obtain ⟨_, _, _, q, hq, cells, hc⟩ := hk
 exact map_ne_blk hm hc he
theorem lookS_of_nm {l : List ByteArray} {d z : Int} {s : ByteArray} (h : lookS l d z = some s) : nm s = (d, z) := by
 unfold lookS at h
 simpa using List.find?_some h
theorem zero_string (w : World) : (zeroValue 9).run Try.prog w = .ok (.string ⟨#[]⟩) w := by kernel_rfl
noncomputable def map_look.f (l : List ByteArray) (d z : Int) : Option (ByteArray × Bool) := some (match lookS l d z with | some s => (s, true) | none => (⟨#[]⟩, false))
section
variable {ops : Array Oper} {rest : List Oper} {o : Oper} {a : Act} {Q : Exit → Act → World → Prop}
theorem wpList_look_S (w : World) (hg : o.guard = none) (m x : Operand) (T : TypeId) (hop : o.op = Op.lookup T m x true) (hT : Try.prog.underlying T = some (.map 78 9)) (g : Nat) (l : List ByteArray) (d z : Int) (t : ByteArray) (b : Bool)
 (hm : a.eval m = .map (some g)) (hM : MapS w g l) (hx : a.eval x = .agg #[.int .i64 d, .int .i64 z]) (wd : In64 d) (wz : In64 z) (hf : map_look.f l d z = some (t, b))
 (hK : wpList Try.prog ops Q rest (a.put o.dst (.tuple #[.string t, .bool b])) w) : wpList Try.prog ops Q (o :: rest) a w := by
 obtain ⟨D, hown, hD, hh⟩ := hM
 refine wpList_lookup_own_ok w hg m x T hop 78 9 nk hT (plainElem Try.prog 9) (zero_string w) (.lit (.string [])) [] (plainElem_string Try.underlying9 (by decide)) g l.length D hm hown _ (kl d z) hx (kl_key wd wz) (fun v ps hv => ?_)
 obtain ⟨s, rfl, hs, _⟩ := plainElem_string_inv Try.underlying9 hv
 obtain ⟨h1, h2⟩ := hh d z wd wz
 unfold map_look.f at hf
 cases hl : lookS l d z with
 | none =>
  rw [hl] at hf
  obtain ⟨rfl, rfl⟩ := Prod.mk.inj (Option.some.inj hf)
  have h3 := h1 hl
  rw [h3]
  rw [atKey_of_not_has h3] at hs
  have h4 : s.data = #[] ∧ ps = [] := by simpa using hs.symm
  have h5 : s = ⟨#[]⟩ := ByteArray.ext h4.1
  rw [h5]
  exact hK
 | some s' =>
  rw [hl] at hf
  obtain ⟨rfl, rfl⟩ := Prod.mk.inj (Option.some.inj hf)
  obtain ⟨h3, h4⟩ := h2 s' hl
  rw [h3]
  rw [h4] at hs
  have h5 : s'.data = s.data ∧ ps = [] := by simpa using hs
  have h6 : s = s' := ByteArray.ext h5.1.symm
  rw [h6]
  exact hK
set_option maxRecDepth 1000000 in
theorem wpList_put_S (w : World) (hg : o.guard = none) (m x v : Operand) (T : TypeId) (hop : o.op = Op.mapUpdate T m x v) (hT : Try.prog.underlying T = some (.map 78 9)) (g : Nat) (l : List ByteArray) (d z : Int) (s : ByteArray)
 (hm : a.eval m = .map (some g)) (hM : MapS w g l) (hx : a.eval x = .agg #[.int .i64 d, .int .i64 z]) (hv : a.eval v = .string s) (wd : In64 d) (wz : In64 z) (hn : nm s = (d, z)) (hl : l.length < maxLen) (hs : s.size ≤ maxLen)
 (hK : ∀ w', MapS w' g (l ++ [s]) → w.grownBy w' (some g) → wpList Try.prog ops Q rest (a.put o.dst undef) w') : wpList Try.prog ops Q (o :: rest) a w := by
 obtain ⟨D, hown, hD, hh⟩ := hM
 refine wpList_mapUpdate_own w hg m x v T hop 78 9 nk hT (plainElem Try.prog 9) g l.length D hm hown hl _ _ (kl d z) hx hv (kl_key wd wz) (.lit (.string s.data.toList)) [] (plainElem_string Try.underlying9 hs) (fun w' h1 h2 => hK w' ⟨_, by rw [List.length_append, List.length_singleton]; exact h1, hD.put _ _, fun d' z' wd' wz' => ?_⟩ h2)
 rw [lookS_snoc]
 by_cases e : nm s = (d', z')
 ·rw [if_pos e]
  rw [hn] at e
  obtain ⟨rfl, rfl⟩ := Prod.mk.inj e
  refine ⟨fun h => (by cases h), fun s' h => ?_⟩
  obtain rfl := Option.some.inj h
  exact ⟨has_put_same hD (kl_isKey wd wz) _, atKey_put_same hD (kl_isKey wd wz) _ _⟩
 ·rw [if_neg e]
  rw [hn] at e
  have hne : kl d' z' ≠ kl d z := kl_ne wd' wz' wd wz (fun q => e q.symm)
  obtain ⟨h3, h4⟩ := hh d' z' wd' wz'
  refine ⟨fun h => ?_, fun s' h => ?_⟩
  ·rw [has_put_other hne]
   exact h3 h
  ·rw [has_put_other hne, atKey_put_other hne]
   exact h4 s' h
theorem map_event {W : World} (hgd : o.guard = none) {N : Tmp} (_hd : o.dst = some N)
 (hrun : (execOp a.eval o).run Try.prog W = .ok (.value (.map (some W.heap.size))) (W.alloc (.map #[] 0)))
 (h : ∀ g, g = W.heap.size → ∀ w1, MapS w1 g [] → Below W.heap.size W w1 → wpList Try.prog ops Q rest (a.put o.dst (.map (some g))) w1) : wpList Try.prog ops Q (o :: rest) a W :=
 Kd.event_run hgd hrun (h _ rfl _ (MapS.made W) (below_alloc (Below.refl _ _) _))
end
end Go.Proofs.Ytodhkbahjomfhaa.Q

namespace Go.Proofs.Ytodhkbahjomfhaa.Q
open Go.RowKit Go.Proofs.YtodhkbahjomfhaaW.PrintWords Go.Proofs.YtodhkbahjomfhaaW.PrintLast Go.Proofs.YtodhkbahjomfhaaW.PrintMore Go.Proofs.Ytodhkbahjomfhaa.Gput Go.Proofs.Ytodhkbahjomfhaa.Gputl
attribute [local go_sem] max2_int min2_int max_two min_two max_three min_three max_four min_four   -- for this text's walks alone
set_option linter.unusedVariables false
set_option linter.unusedSimpArgs false
noncomputable def manifest_numbered.f (a0 : Int) : Option (Bool) := if a0 ≥ 1 then (some (decide (a0 < 2147483647))) else (some false)
set_option maxHeartbeats 8000000 in
set_option maxRecDepth 100000 in
theorem manifest_numbered.calls (a0 : Int) (r : Bool) (w : World) (h : manifest_numbered.f a0 = some r) :
 Calls Try.prog 61 #[.int .i64 a0] w fun e w' => e = .returned (.bool r) ∧ Drawn0 w w' := by
 have H : (if a0 ≥ 1 then (some (decide (a0 < 2147483647))) else (some false)) = some r := h
 clear h
 by_cases c2 : a0 ≥ 1
 ·rw [if_pos c2] at H
  have c2b0 : decide (1 ≤ a0) = true := decide_eq_true c2
  clear c2
  obtain rfl := Option.some.inj H
  go_enter Try.func61, Try.ntmps61
  go_wp2
  go_ret
  exact ⟨by first | rfl | (simp; done) | (simp [*]; done), by repeat (first | exact Drawn0.refl _ | apply Drawn0.step)⟩
 ·rw [if_neg c2] at H
  have c2b0 : decide (1 ≤ a0) = false := decide_eq_false c2
  clear c2
  obtain rfl := Option.some.inj H
  go_enter Try.func61, Try.ntmps61
  go_wp2
  go_ret
  exact ⟨by first | rfl | (simp; done) | (simp [*]; done), by repeat (first | exact Drawn0.refl _ | apply Drawn0.step)⟩
end Go.Proofs.Ytodhkbahjomfhaa.Q

namespace Go.Proofs.Ytodhkbahjomfhaa.Q
open Go Go.RowKit Go.Maps Go.Proofs Go.Proofs.YtodhkbahjomfhaaW.PrintWords Go.Proofs.YtodhkbahjomfhaaW.PrintLast Go.Proofs.YtodhkbahjomfhaaW.PrintMore
set_option linter.unusedVariables false
noncomputable def nameS (s : ByteArray) : S78 := ⟨(nm s).1, (nm s).2⟩
def Named (s : ByteArray) : Prop := (∃ k, manifest_nameOf.f k s = some (nm s)) ∧ In64 (nm s).1 ∧ In64 (nm s).2 ∧ s.size ≤ maxLen
structure OfW (w W : World) (g4 g8 gm : Nat) (a0 : Int) (l : List ByteArray) (ns : List S78) (v8 vs : Value) : Prop where
 hb : Below w.heap.size w W
 b4 : W.heap[g4]? = some (.cells #[.int .i64 0, .slice none 0 0] 32 (0, 0))
 b8 : W.heap[g8]? = some (.cells #[.int .i64 a0, v8] 32 (0, 0))
 m : MapS W gm l
 r : Kd.R k78 78 W w.heap.size (fun _ => True) vs ns
 e4 : w.heap.size ≤ g4
 e8 : w.heap.size ≤ g8
 em : w.heap.size ≤ gm
 n48 : g4 ≠ g8
section
variable {w W W' : World} {g4 g8 gm : Nat} {a0 : Int} {l l' : List ByteArray} {ns ns' : List S78} {v8 vs v1 : Value}
theorem OfW.below (h : OfW w W g4 g8 gm a0 l ns v8 vs) (hb : Below W.heap.size W W') : OfW w W' g4 g8 gm a0 l ns v8 vs :=
 ⟨below_step h.hb hb, blk_below h.b4 hb, blk_below h.b8 hb, h.m.below hb, Kd.R_below h.r hb, h.e4, h.e8, h.em, h.n48⟩
theorem OfW.alloc (h : OfW w W g4 g8 gm a0 l ns v8 vs) (o : Obj) : OfW w (W.alloc o) g4 g8 gm a0 l ns v8 vs := h.below (below_alloc (Below.refl _ _) o)
theorem OfW.put (h : OfW w W g4 g8 gm a0 l ns v8 vs) (hm : MapS W' gm l') (hg : W.grownBy W' (some gm)) : OfW w W' g4 g8 gm a0 l' ns v8 vs :=
 ⟨h.hb.grown hg h.hb.size (fun k hk => by cases hk; exact h.em), blk_grown h.b4 hg (h.m.ne' h.b4), blk_grown h.b8 hg (h.m.ne' h.b8), hm, R_overM h.r h.m.obj hg, h.e4, h.e8, h.em, h.n48⟩
theorem OfW.app (h : OfW w W g4 g8 gm a0 l ns v8 vs) (hr : Kd.R k78 78 W' w.heap.size (fun _ => True) v1 ns') (hb : Below w.heap.size w W') (hg : W.grownBy W' vs.ownBlock) : OfW w W' g4 g8 gm a0 l ns' v8 v1 :=
 ⟨hb, blk_grown h.b4 hg (Kd.R_ne h.r h.b4 (by decide)), blk_grown h.b8 hg (Kd.R_ne h.r h.b8 (by decide)), h.m.grown hg (h.m.ne_row h.r), hr, h.e4, h.e8, h.em, h.n48⟩
theorem OfW.set (h : OfW w W g4 g8 gm a0 l ns v8 vs) : OfW w (W.setCell ⟨g8, 1, none⟩ vs) g4 g8 gm a0 l ns vs vs :=
 ⟨below_set h.hb h.e8, blk_far h.b4 h.n48 _, blk_put h.b8 1 _ rfl, h.m.far (h.m.ne h.b8) _, Kd.R_mono (Kd.R_far (p := ⟨g8, 1, none⟩) (Kd.R_types h.r h.b8 (by decide)) (fun _ hk => hk.2) vs) (fun _ _ => trivial), h.e4, h.e8, h.em, h.n48⟩
end
noncomputable def ofGo : List ByteArray → List ByteArray → Bool
 | _, [] => false
 | seen, s :: r => match lookS seen (nm s).1 (nm s).2 with
  | none => ofGo (seen ++ [s]) r
  | some t => if t.toList = s.toList then ofGo (seen ++ [s]) r else true
def badS (s : ByteArray) : Prop := (s.size : Int) < 1 ∨ 256 < (s.size : Int)
open Classical in
noncomputable def ofEnd (a0 : Int) (l : List ByteArray) : Option (Int × List S78 × Int) := if ∀ s ∈ l, Named s then (if ofGo [] l = true then some (0, [], 8) else some (a0, l.map nameS, 0)) else none
open Classical in
noncomputable def manifest_Of.f (a0 : Int) (l1 : List ByteArray) : Option (Int × List S78 × Int) :=
 if 1 ≤ a0 ∧ a0 < 2147483647 then (if (l1.length : Int) > 256 then some (0, [], 4) else if ∃ s ∈ l1, badS s then some (0, [], 2) else ofEnd a0 l1) else some (0, [], 1)
theorem numbered_eq (a0 : Int) : manifest_numbered.f a0 = some (decide (1 ≤ a0 ∧ a0 < 2147483647)) := by
 unfold manifest_numbered.f
 by_cases h : 1 ≤ a0
 ·rw [if_pos h]
  congr 1
  exact decide_eq_decide.2 ⟨fun z => ⟨h, z⟩, fun z => z.2⟩
 ·rw [if_neg h]
  congr 1
  exact (decide_eq_false (fun z => h z.1)).symm
set_option maxRecDepth 100000 in
set_option maxHeartbeats 4000000 in
theorem manifest_Of.calls (a0 : Int) (A1 : Option Addr) (c1 : Nat) (l1 : List ByteArray) (r1 : Int) (r2 : List S78) (r3 : Int) (w : World) (hr1 : Kd.C Kd.string w A1 l1.length l1) (hc1 : l1.length ≤ c1) (h : manifest_Of.f a0 l1 = some (r1, r2, r3)) :
 Calls Try.prog 18 #[.int .i64 a0, .slice A1 l1.length c1] w fun e w' => ∃ v1_ : Value, e = .returned (.tuple #[.agg #[.int .i64 r1, v1_], .int .i64 r3]) ∧ Kd.R k78 78 w' w.heap.size (fun _ => True) v1_ r2 ∧ Below w.heap.size w w' := by
 have hu32 := Try.underlying32
 have hu78 := Try.underlying78
 have HR := Aside0.mk hr1
 have HB := Aside0.mk (Below.refl w.heap.size w)
 have HF := Aside0.mk (numbered_eq a0)
 clear hr1
 unfold manifest_Of.f at h
 by_cases h0 : 1 ≤ a0 ∧ a0 < 2147483647
 case neg =>
  rw [if_neg h0] at h
  simp only [Option.some.injEq, Prod.mk.injEq] at h
  obtain ⟨rfl, rfl, rfl⟩ := h
  rw [decide_eq_false h0] at HF
  clear h0
  go_enter Try.func18, Try.ntmps18
  go_wp2_with (first | ((with_reducible refine gate_dst (N := 4) rfl ?_); refine box_event ?hg (N := 4) ?hd (cs := #[.int .i64 0, .slice none 0 0]) (t := 32) ?hr ?_; (case hd => rfl); (case hg => rfl); (case hr => first | (go_simp; done) | (go_simp; rfl)); intro g4 hg w4 hbox hb; have BK := Aside0.mk hbox; have G4 := Aside0.mk (by rw [hg]; exact Nat.le_refl _ : w.heap.size ≤ g4); have n_ := Aside0.mk (below_step HB.out hb); clear HB; have HB := n_; clear n_ hb hbox hg) | (go_at_call 61; with_reducible refine (manifest_numbered.calls a0 _ _ HF.out).mono ?_; rintro e w5 ⟨rfl, hd⟩; have n1_ := Aside0.mk (blk_below BK.out hd.below); have n_ := Aside0.mk (below_step HB.out hd.below); clear HB BK; have HB := n_; have BK := n1_; clear n_ n1_ hd; have hcl0 : w5.cell? ⟨g4, 0, none⟩ = some (.int .i64 0) := (blk_cell BK.out 0).trans rfl; have hcl1 : w5.cell? ⟨g4, 1, none⟩ = some (.slice none 0 0) := (blk_cell BK.out 1).trans rfl; have hf0 := blk_frozen BK.out 0; have hf1 := blk_frozen BK.out 1))
  refine bodyPost_ret (results_ct rfl _ _ g4 32 #[.int .i64 0, .slice none 0 0] (0, 0) _ rfl (by refine blk_put (cs := #[.int .i64 0, .slice none 0 0]) ?_ 1 _ rfl; refine blk_put (cs := #[.int .i64 0, .slice none 0 0]) ?_ 0 _ rfl; exact BK.out) Try.underlying32 rfl (by kernel_rfl)) rfl ?_
  exact ⟨_, by first | rfl | (simp; done), Kd.R_nil _ _ _ _ _, below_set (below_set HB.out G4.out) G4.out⟩
 case pos =>
  rw [if_pos h0] at h
  rw [decide_eq_true h0] at HF
  clear h0
  by_cases h1 : (l1.length : Int) > 256
  case pos =>
   rw [if_pos h1] at h
   simp only [Option.some.injEq, Prod.mk.injEq] at h
   obtain ⟨rfl, rfl, rfl⟩ := h
   have hd1 : decide (256 < (l1.length : Int)) = true := decide_eq_true h1
   go_enter Try.func18, Try.ntmps18
   go_wp2_with (first | ((with_reducible refine gate_dst (N := 4) rfl ?_); refine box_event ?hg (N := 4) ?hd (cs := #[.int .i64 0, .slice none 0 0]) (t := 32) ?hr ?_; (case hd => rfl); (case hg => rfl); (case hr => first | (go_simp; done) | (go_simp; rfl)); intro g4 hg w4 hbox hb; have BK := Aside0.mk hbox; have G4 := Aside0.mk (by rw [hg]; exact Nat.le_refl _ : w.heap.size ≤ g4); have n_ := Aside0.mk (below_step HB.out hb); clear HB; have HB := n_; clear n_ hb hbox hg) | (go_at_call 61; with_reducible refine (manifest_numbered.calls a0 _ _ HF.out).mono ?_; rintro e w5 ⟨rfl, hd⟩; have n1_ := Aside0.mk (blk_below BK.out hd.below); have n_ := Aside0.mk (below_step HB.out hd.below); clear HB BK; have HB := n_; have BK := n1_; clear n_ n1_ hd; have hcl0 : w5.cell? ⟨g4, 0, none⟩ = some (.int .i64 0) := (blk_cell BK.out 0).trans rfl; have hcl1 : w5.cell? ⟨g4, 1, none⟩ = some (.slice none 0 0) := (blk_cell BK.out 1).trans rfl; have hf0 := blk_frozen BK.out 0; have hf1 := blk_frozen BK.out 1))
   refine bodyPost_ret (results_ct rfl _ _ g4 32 #[.int .i64 0, .slice none 0 0] (0, 0) _ rfl (by refine blk_put (cs := #[.int .i64 0, .slice none 0 0]) ?_ 1 _ rfl; refine blk_put (cs := #[.int .i64 0, .slice none 0 0]) ?_ 0 _ rfl; exact BK.out) Try.underlying32 rfl (by kernel_rfl)) rfl ?_
   exact ⟨_, by first | rfl | (simp; done), Kd.R_nil _ _ _ _ _, below_set (below_set HB.out G4.out) G4.out⟩
  case neg =>
   rw [if_neg h1] at h
   have hd1 : decide (256 < (l1.length : Int)) = false := decide_eq_false h1
   have hlen : l1.length ≤ 256 := by omega
   have HH := Aside0.mk h
   clear h
   have hmm := @run_makeMap Try.prog
   go_enter Try.func18, Try.ntmps18
   go_wp2_with (first | ((with_reducible refine gate_dst (N := 4) rfl ?_); refine box_event ?hg (N := 4) ?hd (cs := #[.int .i64 0, .slice none 0 0]) (t := 32) ?hr ?_; (case hd => rfl); (case hg => rfl); (case hr => first | (go_simp; done) | (go_simp; rfl)); intro g4 hg w4 hbox hb; have BK := Aside0.mk hbox; have G4 := Aside0.mk (by rw [hg]; exact Nat.le_refl _ : w.heap.size ≤ g4); have n_ := Aside0.mk (below_step HB.out hb); clear HB; have HB := n_; clear n_ hb hbox hg) | (go_at_call 61; with_reducible refine (manifest_numbered.calls a0 _ _ HF.out).mono ?_; rintro e w5 ⟨rfl, hd⟩; have n1_ := Aside0.mk (blk_below BK.out hd.below); have n_ := Aside0.mk (below_step HB.out hd.below); clear HB BK; have HB := n_; have BK := n1_; clear n_ n1_ hd))
   go_loopw [25] (fun v25 wr => ∃ (k : Nat), k ≤ l1.length ∧ v25 = .int .i64 k ∧ wr = w5 ∧ Aside0 (∀ s ∈ l1.take k, ¬ badS s)) (fun v25 _ => l1.length - (intOf v25).toNat)
   case atStart => exact ⟨0, Nat.zero_le _, rfl, rfl, ⟨fun s hs => by simp at hs⟩⟩
   case round =>
    obtain ⟨k, hk, rfl, rfl, HG⟩ := hrel
    by_cases hlt : k < l1.length
    case pos =>
     obtain ⟨ad, ead, hx⟩ := Kd.at_string HR.out k (by omega) (by omega)
     cases ead
     replace hx := (HB.out.cell (World.block_lt_of_cell? w _ hx)).trans hx
     simp only [Int.toNat_natCast] at hx
     have hsk : l1[k] = rdOf ByteArray.empty l1 (k : Int) := by simp [rdOf, List.getD, hlt]
     obtain ⟨s, hs⟩ : ∃ s, rdOf ByteArray.empty l1 (k : Int) = s := ⟨_, rfl⟩
     rw [hs] at hx hsk
     have hmem : s ∈ l1 := hsk ▸ List.getElem_mem hlt
     by_cases hbad : badS s
     case pos =>
      have hh := HH.out
      rw [if_pos ⟨s, hmem, hbad⟩] at hh
      simp only [Option.some.injEq, Prod.mk.injEq] at hh
      obtain ⟨rfl, rfl, rfl⟩ := hh
      clear hs hsk hmem HH
      have hcl0 : wr.cell? ⟨g4, 0, none⟩ = some (.int .i64 0) := (blk_cell BK.out 0).trans rfl
      have hcl1 : wr.cell? ⟨g4, 1, none⟩ = some (.slice none 0 0) := (blk_cell BK.out 1).trans rfl
      have hf0 := blk_frozen BK.out 0
      have hf1 := blk_frozen BK.out 1
      by_cases hb1 : (s.size : Int) < 1
      ·have hz : decide ((s.size : Int) < 1) = true := decide_eq_true hb1
       have hz1 : decide (s.size < 1) = true := decide_eq_true (by omega)
       clear hb1 hbad
       go_wp2
       refine bodyPost_ret (results_ct rfl _ _ g4 32 #[.int .i64 0, .slice none 0 0] (0, 0) _ rfl (by refine blk_put (cs := #[.int .i64 0, .slice none 0 0]) ?_ 1 _ rfl; refine blk_put (cs := #[.int .i64 0, .slice none 0 0]) ?_ 0 _ rfl; exact BK.out) Try.underlying32 rfl (by kernel_rfl)) rfl ?_
       exact ⟨_, by first | rfl | (simp; done), Kd.R_nil _ _ _ _ _, below_set (below_set HB.out G4.out) G4.out⟩
      ·have hb2 : 256 < (s.size : Int) := hbad.resolve_left hb1
       have hz : decide ((s.size : Int) < 1) = false := decide_eq_false hb1
       have hz1 : decide (s.size < 1) = false := decide_eq_false (by omega)
       have hy : decide (256 < (s.size : Int)) = true := decide_eq_true hb2
       have hy1 : decide (256 < s.size) = true := decide_eq_true (by omega)
       clear hb1 hbad hb2
       go_wp2
       refine bodyPost_ret (results_ct rfl _ _ g4 32 #[.int .i64 0, .slice none 0 0] (0, 0) _ rfl (by refine blk_put (cs := #[.int .i64 0, .slice none 0 0]) ?_ 1 _ rfl; refine blk_put (cs := #[.int .i64 0, .slice none 0 0]) ?_ 0 _ rfl; exact BK.out) Try.underlying32 rfl (by kernel_rfl)) rfl ?_
       exact ⟨_, by first | rfl | (simp; done), Kd.R_nil _ _ _ _ _, below_set (below_set HB.out G4.out) G4.out⟩
     case neg =>
      have hz : decide ((s.size : Int) < 1) = false := decide_eq_false (fun z => hbad (.inl z))
      have hz1 : decide (s.size < 1) = false := decide_eq_false (fun z => hbad (.inl (by omega)))
      have hy : decide (256 < (s.size : Int)) = false := decide_eq_false (fun z => hbad (.inr z))
      have hy1 : decide (256 < s.size) = false := decide_eq_false (fun z => hbad (.inr (by omega)))
      have HN : Aside0 (∀ x ∈ l1.take (k + 1), ¬ badS x) := ⟨fun x hx => by
       rw [List.take_succ_eq_append_getElem hlt, List.mem_append, List.mem_singleton] at hx
       rcases hx with hx | rfl
       ·exact HG.out x hx
       ·rw [hsk]; exact hbad⟩
      clear hbad hs hsk hmem
      go_wp2
      go_roundw
      case rel => exact ⟨k + 1, by omega, by simp, by first | trivial | rfl, HN⟩
      case measure => simp only [intOf]; omega
    case neg =>
     obtain rfl : k = l1.length := by omega
     have hgood : ¬ ∃ s ∈ l1, badS s := by
      rintro ⟨s, hs, hb⟩
      exact HG.out s (by rw [List.take_length]; exact hs) hb
     have hh := HH.out
     rw [if_neg hgood] at hh
     have HE := Aside0.mk hh
     clear hh hgood HG HH
     go_wp2_with (first | ((with_reducible refine gate_dst (N := 8) rfl ?_); refine box_event ?hg (N := 8) ?hd (cs := #[.int .i64 0, .slice none 0 0]) (t := 32) ?hr ?_; (case hd => rfl); (case hg => rfl); (case hr => first | (go_simp; done) | (go_simp; rfl)); intro g8 hg w6 hbox hb; have BK8 := Aside0.mk hbox; have G8 := Aside0.mk (by rw [hg]; exact HB.out.size : w.heap.size ≤ g8); have N48 := Aside0.mk (by rw [hg]; exact Nat.ne_of_lt (blk_lt (g := g4) BK.out) : g4 ≠ g8); have n1_ := Aside0.mk (blk_below BK.out hb); have n_ := Aside0.mk (below_step HB.out hb); clear HB BK; have HB := n_; have BK := n1_; clear n_ n1_ hb hbox hg; have hcl0 : w6.cell? ⟨g8, 0, none⟩ = some (.int .i64 0) := (blk_cell BK8.out 0).trans rfl; have hcl1 : w6.cell? ⟨g8, 1, none⟩ = some (.slice none 0 0) := (blk_cell BK8.out 1).trans rfl; have hf0 := blk_frozen BK8.out 0; have hf1 := blk_frozen BK8.out 1) | ((with_reducible refine gate_dst (N := 41) rfl ?_); refine map_event ?hg (N := 41) ?hd ?hr ?_; (case hd => rfl); (case hg => rfl); (case hr => first | (go_simp; done) | (go_simp; rfl)); intro gm hgm w7 hM hb; have n1_ : Aside0 (OfW w w7 g4 g8 gm a0 [] [] (.slice none 0 0) (.slice none 0 0)) := ⟨⟨below_step (below_set (below_set HB.out G8.out) G8.out) hb, blk_below (blk_far (blk_far BK.out N48.out _) N48.out _) hb, blk_below (by refine blk_put (cs := #[.int .i64 a0, .slice none 0 0]) ?_ 1 _ rfl; refine blk_put (cs := #[.int .i64 0, .slice none 0 0]) ?_ 0 _ rfl; exact BK8.out) hb, hM, Kd.R_nil _ _ _ _ _, G4.out, G8.out, by rw [hgm]; exact below_size (below_set (below_set HB.out G8.out) G8.out), N48.out⟩⟩; clear HB BK BK8 hcl0 hcl1 hf0 hf1 hM hb hgm; have HS := n1_; clear n1_))
     have hall : ∀ s ∈ l1, Named s := by
      have h := HE.out
      unfold ofEnd at h
      by_cases z : ∀ s ∈ l1, Named s
      ·exact z
      ·rw [if_neg z] at h
       cases h
     have HA := Aside0.mk hall
     have HQ : Aside0 ((if ofGo (l1.take 0) (l1.drop 0) = true then some (0, [], 8) else some (a0, l1.map nameS, 0)) = some (r1, r2, r3)) := ⟨by
      have h := HE.out
      unfold ofEnd at h
      rw [if_pos hall] at h
      exact h⟩
     clear hall HE
     go_loopw [44] (fun v44 wr => ∃ (k : Nat) (vs : Value), k ≤ l1.length ∧ v44 = .int .i64 k ∧ Aside0 (OfW w wr g4 g8 gm a0 (l1.take k) ((l1.take k).map nameS) vs vs) ∧ Aside0 ((if ofGo (l1.take k) (l1.drop k) = true then some (0, [], 8) else some (a0, l1.map nameS, 0)) = some (r1, r2, r3))) (fun v44 _ => l1.length - (intOf v44).toNat)
     case atStart => exact ⟨0, _, Nat.zero_le _, rfl, HS, HQ⟩
     case round =>
      clear HS HQ hk hlt
      obtain ⟨k, vs, hk, rfl, HS, HQ⟩ := hrel
      by_cases hlt : k < l1.length
      case pos =>
       obtain ⟨ad, ead, hx⟩ := Kd.at_string HR.out k (by omega) (by omega)
       cases ead
       replace hx := (HS.out.hb.cell (World.block_lt_of_cell? w _ hx)).trans hx
       simp only [Int.toNat_natCast] at hx
       have hsk : l1[k] = rdOf ByteArray.empty l1 (k : Int) := by simp [rdOf, List.getD, hlt]
       obtain ⟨s, hs⟩ : ∃ s, rdOf ByteArray.empty l1 (k : Int) = s := ⟨_, rfl⟩
       rw [hs] at hx hsk
       have hmem : s ∈ l1 := hsk ▸ List.getElem_mem hlt
       obtain ⟨⟨kk, hn⟩, wd, wz, hsz⟩ := HA.out s hmem
       have hq := HQ.out
       have htk : l1.take (k + 1) = l1.take k ++ [s] := by rw [List.take_succ_eq_append_getElem hlt, hsk]
       have hnl : ((l1.take k).map nameS).length ≤ 256 := by rw [List.length_map, List.length_take]; omega
       have hml : (l1.take k).length < maxLen := by rw [List.length_take]; unfold maxLen; omega
       rw [List.drop_eq_getElem_cons hlt, hsk, ofGo] at hq
       rw [← htk] at hq
       obtain ⟨d, z, hdz⟩ : ∃ d z, nm s = (d, z) := ⟨_, _, rfl⟩
       have hnx : nameS s = ⟨d, z⟩ := by unfold nameS; rw [hdz]
       have hnm := Aside0.mk hdz
       rw [hdz] at hn wd wz hq
       have HX := Aside0.mk hnx
       have HT := Aside0.mk htk
       have HN := Aside0.mk hn
       have HD := Aside0.mk wd
       have HZ := Aside0.mk wz
       have HSZ := Aside0.mk hsz
       have HNL := Aside0.mk hnl
       have HML := Aside0.mk hml
       clear hs hsk hmem hn hnx htk hnl hml hdz wd wz hsz HQ
       generalize hgl : l1.take k = lk at HS HT HNL HML hq
       have HGL := Aside0.mk hgl
       clear hgl
       cases hlo : lookS lk d z with
       | none =>
        have hf : map_look.f lk d z = some (⟨#[]⟩, false) := by unfold map_look.f; rw [hlo]
        simp only [hlo] at hq
        have HLF := Aside0.mk hf
        have HQ := Aside0.mk hq
        clear hf hq hlo
        go_wp2_with (first | (go_at_call 62; with_reducible refine (manifest_nameOf.calls kk s d z _ HN.out).mono ?_; rintro e w2 ⟨rfl, hb⟩; have n_ := Aside0.mk (HS.out.below hb); clear HS; have HS := n_; clear n_ hb) | (at_lookup; refine wpList_look_S _ rfl _ _ 93 rfl Try.underlying93 gm lk d z ⟨#[]⟩ false rfl (HS.out.m.alloc _) rfl HD.out HZ.out HLF.out ?_) | (at_mapUpdate; refine wpList_put_S _ rfl _ _ _ 93 rfl Try.underlying93 gm lk d z s rfl (HS.out.m.alloc _) rfl rfl HD.out HZ.out hnm.out HML.out HSZ.out ?_; intro w3 hM3 hg3; have n_ := Aside0.mk (OfW.put (HS.out.alloc _) hM3 hg3); have B12 := Aside0.mk (blk_grown (heap_alloc_new w2 (.cells #[.int .i64 d, .int .i64 z] 78)) hg3 (MapS.ne' (HS.out.m.alloc (.cells #[.int .i64 d, .int .i64 z] 78)) (heap_alloc_new w2 (.cells #[.int .i64 d, .int .i64 z] 78)))); clear HS; have HS := n_; clear n_ hM3 hg3; have hc12_0 : w3.cell? ⟨w2.heap.size, 0, none⟩ = some (.int .i64 d) := (blk_cell B12.out 0).trans rfl; have hc12_1 : w3.cell? ⟨w2.heap.size, 1, none⟩ = some (.int .i64 z) := (blk_cell B12.out 1).trans rfl; have hc8_0 : w3.cell? ⟨g8, 0, none⟩ = some (.int .i64 a0) := (blk_cell HS.out.b8 0).trans rfl; have hc8_1 : w3.cell? ⟨g8, 1, none⟩ = some vs := (blk_cell HS.out.b8 1).trans rfl) | (at_builtin; refine Kd.R_append k78 (w0 := w) w.heap.size rfl (.tmp 67) (.tmp 69) 30 78 (.agg #[.int .i64 0, .int .i64 0]) 16 rfl Try.underlying30 info78 rfl (by decide) (by omega) vs (lk.map nameS) (⟨d, z⟩ : S78) [.int .i64 d, .int .i64 z] (fun _ => True) (fun _ => False) rfl rfl (k78_mkM _ _ _ _) (fun _ hk => hk.elim) (fun _ _ => trivial) HS.out.r HS.out.hb HS.out.hb.size (by have := HNL.out; omega) ?_; intro v1 w4_ ho hb hg hat; have n_ := Aside0.mk (OfW.app HS.out ho hb hg); clear HS hc12_0 hc12_1 hc8_0 hc8_1; have HS := n_; clear n_ ho hb hg hat; have hc8_1 : w4_.cell? ⟨g8, 1, none⟩ = some vs := (blk_cell HS.out.b8 1).trans rfl; have hf8_1 := blk_frozen HS.out.b8 1; obtain ⟨Ao, co, eo⟩ := Kd.R_slice HS.out.r; obtain ⟨nn, hnn⟩ : ∃ n_, (lk.map nameS ++ [(⟨d, z⟩ : S78)]).length = n_ := ⟨_, rfl⟩; rw [hnn] at eo; clear hnn; subst eo))
        go_roundw
        case rel => exact ⟨k + 1, _, by omega, by simp, ⟨by rw [HT.out, List.map_append, List.map_singleton, HX.out]; exact OfW.set HS.out⟩, HQ⟩
        case measure => simp only [intOf]; omega
       | some t =>
        have hf : map_look.f lk d z = some (t, true) := by unfold map_look.f; rw [hlo]
        simp only [hlo] at hq
        have HLF := Aside0.mk hf
        clear hf hlo
        by_cases hts : t.toList = s.toList
        ·rw [if_pos hts] at hq
         have HQ := Aside0.mk hq
         have hb1 : (t.toList == s.toList) = true := beq_iff_eq.mpr hts
         have hb2 : (t.toList != s.toList) = false := bne_eq_false_iff_eq.mpr hts
         clear hq hts
         go_wp2_with (first | (go_at_call 62; with_reducible refine (manifest_nameOf.calls kk s d z _ HN.out).mono ?_; rintro e w2 ⟨rfl, hb⟩; have n_ := Aside0.mk (HS.out.below hb); clear HS; have HS := n_; clear n_ hb) | (at_lookup; refine wpList_look_S _ rfl _ _ 93 rfl Try.underlying93 gm lk d z t true rfl (HS.out.m.alloc _) rfl HD.out HZ.out HLF.out ?_) | (at_mapUpdate; refine wpList_put_S _ rfl _ _ _ 93 rfl Try.underlying93 gm lk d z s rfl (HS.out.m.alloc _) rfl rfl HD.out HZ.out hnm.out HML.out HSZ.out ?_; intro w3 hM3 hg3; have n_ := Aside0.mk (OfW.put (HS.out.alloc _) hM3 hg3); have B12 := Aside0.mk (blk_grown (heap_alloc_new w2 (.cells #[.int .i64 d, .int .i64 z] 78)) hg3 (MapS.ne' (HS.out.m.alloc (.cells #[.int .i64 d, .int .i64 z] 78)) (heap_alloc_new w2 (.cells #[.int .i64 d, .int .i64 z] 78)))); clear HS; have HS := n_; clear n_ hM3 hg3; have hc12_0 : w3.cell? ⟨w2.heap.size, 0, none⟩ = some (.int .i64 d) := (blk_cell B12.out 0).trans rfl; have hc12_1 : w3.cell? ⟨w2.heap.size, 1, none⟩ = some (.int .i64 z) := (blk_cell B12.out 1).trans rfl; have hc8_0 : w3.cell? ⟨g8, 0, none⟩ = some (.int .i64 a0) := (blk_cell HS.out.b8 0).trans rfl; have hc8_1 : w3.cell? ⟨g8, 1, none⟩ = some vs := (blk_cell HS.out.b8 1).trans rfl) | (at_builtin; refine Kd.R_append k78 (w0 := w) w.heap.size rfl (.tmp 67) (.tmp 69) 30 78 (.agg #[.int .i64 0, .int .i64 0]) 16 rfl Try.underlying30 info78 rfl (by decide) (by omega) vs (lk.map nameS) (⟨d, z⟩ : S78) [.int .i64 d, .int .i64 z] (fun _ => True) (fun _ => False) rfl rfl (k78_mkM _ _ _ _) (fun _ hk => hk.elim) (fun _ _ => trivial) HS.out.r HS.out.hb HS.out.hb.size (by have := HNL.out; omega) ?_; intro v1 w4_ ho hb hg hat; have n_ := Aside0.mk (OfW.app HS.out ho hb hg); clear HS hc12_0 hc12_1 hc8_0 hc8_1; have HS := n_; clear n_ ho hb hg hat; have hc8_1 : w4_.cell? ⟨g8, 1, none⟩ = some vs := (blk_cell HS.out.b8 1).trans rfl; have hf8_1 := blk_frozen HS.out.b8 1; obtain ⟨Ao, co, eo⟩ := Kd.R_slice HS.out.r; obtain ⟨nn, hnn⟩ : ∃ n_, (lk.map nameS ++ [(⟨d, z⟩ : S78)]).length = n_ := ⟨_, rfl⟩; rw [hnn] at eo; clear hnn; subst eo))
         go_roundw
         case rel => exact ⟨k + 1, _, by omega, by simp, ⟨by rw [HT.out, List.map_append, List.map_singleton, HX.out]; exact OfW.set HS.out⟩, HQ⟩
         case measure => simp only [intOf]; omega
        ·rw [if_neg hts, if_pos rfl] at hq
         simp only [Option.some.injEq, Prod.mk.injEq] at hq
         obtain ⟨rfl, rfl, rfl⟩ := hq
         have hb1 : (t.toList == s.toList) = false := beq_eq_false_iff_ne.mpr hts
         have hb2 : (t.toList != s.toList) = true := bne_iff_ne.mpr hts
         clear hts
         go_wp2_with (first | (go_at_call 62; with_reducible refine (manifest_nameOf.calls kk s d z _ HN.out).mono ?_; rintro e w2 ⟨rfl, hb⟩; have n_ := Aside0.mk (HS.out.below hb); clear HS; have HS := n_; clear n_ hb; have hc4_0 : (w2.alloc (.cells #[.int .i64 d, .int .i64 z] 78)).cell? ⟨g4, 0, none⟩ = some (.int .i64 0) := (blk_cell (blk_alloc HS.out.b4 _) 0).trans rfl; have hc4_1 : (w2.alloc (.cells #[.int .i64 d, .int .i64 z] 78)).cell? ⟨g4, 1, none⟩ = some (.slice none 0 0) := (blk_cell (blk_alloc HS.out.b4 _) 1).trans rfl; have hf4_0 := blk_frozen (blk_alloc HS.out.b4 (.cells #[.int .i64 d, .int .i64 z] 78)) 0; have hf4_1 := blk_frozen (blk_alloc HS.out.b4 (.cells #[.int .i64 d, .int .i64 z] 78)) 1) | (at_lookup; refine wpList_look_S _ rfl _ _ 93 rfl Try.underlying93 gm lk d z t true rfl (HS.out.m.alloc _) rfl HD.out HZ.out HLF.out ?_))
         refine bodyPost_ret (results_ct rfl _ _ g4 32 #[.int .i64 0, .slice none 0 0] (0, 0) _ rfl (by refine blk_put (cs := #[.int .i64 0, .slice none 0 0]) ?_ 1 _ rfl; refine blk_put (cs := #[.int .i64 0, .slice none 0 0]) ?_ 0 _ rfl; exact blk_alloc HS.out.b4 _) Try.underlying32 rfl (by kernel_rfl)) rfl ?_
         exact ⟨_, by first | rfl | (simp; done), Kd.R_nil _ _ _ _ _, below_set (below_set (below_alloc HS.out.hb _) HS.out.e4) HS.out.e4⟩
      case neg =>
       obtain rfl : k = l1.length := by omega
       have hq := HQ.out
       rw [List.drop_length, ofGo, if_neg (by simp)] at hq
       simp only [Option.some.injEq, Prod.mk.injEq] at hq
       obtain ⟨rfl, rfl, rfl⟩ := hq
       rw [List.take_length] at HS
       clear HQ
       obtain ⟨Ao, co, eo⟩ := Kd.R_slice HS.out.r
       rw [List.length_map] at eo
       subst eo
       have hc4_0 : wr.cell? ⟨g4, 0, none⟩ = some (.int .i64 0) := (blk_cell HS.out.b4 0).trans rfl
       have hc4_1 : wr.cell? ⟨g4, 1, none⟩ = some (.slice none 0 0) := (blk_cell HS.out.b4 1).trans rfl
       have hf4_0 := blk_frozen HS.out.b4 0
       have hf4_1 := blk_frozen HS.out.b4 1
       have hc8_0 : wr.cell? ⟨g8, 0, none⟩ = some (.int .i64 a0) := (blk_cell HS.out.b8 0).trans rfl
       have hc8_1 : wr.cell? ⟨g8, 1, none⟩ = some (.slice Ao l1.length co) := (blk_cell HS.out.b8 1).trans rfl
       go_wp2
       refine bodyPost_ret (results_ct rfl _ _ g4 32 #[.int .i64 a0, .slice Ao l1.length co] (0, 0) _ rfl (by refine blk_put (cs := #[.int .i64 a0, .slice none 0 0]) ?_ 1 _ rfl; refine blk_put (cs := #[.int .i64 0, .slice none 0 0]) ?_ 0 _ rfl; exact HS.out.b4) Try.underlying32 rfl (by kernel_rfl)) rfl ?_
       exact ⟨_, by first | rfl | (simp; done), Kd.R_mono (Kd.R_far (p := ⟨g4, 1, none⟩) (Kd.R_far (p := ⟨g4, 0, none⟩) (Kd.R_types HS.out.r HS.out.b4 (by decide)) (fun _ hk => hk.2) _) (fun _ hk => hk.2) _) (fun _ _ => trivial), below_set (below_set HS.out.hb HS.out.e4) HS.out.e4⟩
end Go.Proofs.Ytodhkbahjomfhaa.Q

namespace Go.Proofs.Ytodhkbahjomfhaa.Q
open Go Go.RowKit Go.Maps Go.Proofs Go.Proofs.YtodhkbahjomfhaaW.PrintWords Go.Proofs.YtodhkbahjomfhaaW.PrintLast Go.Proofs.YtodhkbahjomfhaaW.PrintMore
set_option linter.unusedVariables false
def MapB (w : World) (g : Nat) (c : List (Int × Int)) : Prop := ∃ D : DataW Unit, w.ownsMap Try.prog 78 (plainElem Try.prog 4) g c.length D ∧ IsMap D ∧
 ∀ d z : Int, In64 d → In64 z → D.atKey (kl d z) (.lit (.bool false)) = .lit (.bool (decide ((d, z) ∈ c)))
theorem MapB.made (w : World) : MapB (w.alloc (.map #[] 0)) w.heap.size [] :=
 ⟨.map [], World.ownsMap_made w _ _ _, isMap_empty, fun d z _ _ => by simp; rfl⟩
theorem MapB.obj {w : World} {g : Nat} {c : List (Int × Int)} (h : MapB w g c) : ∃ es n, w.heap[g]? = some (.map es n) := by
 obtain ⟨D, ⟨es, n, hb, _⟩, _⟩ := h
 exact ⟨es, n, hb⟩
theorem MapB.kept {w w1 : World} {g : Nat} {c : List (Int × Int)} (h : MapB w g c) (he : w1.heap[g]? = w.heap[g]?) : MapB w1 g c := by
 obtain ⟨D, ⟨es, n, hb, r⟩, h2⟩ := h
 exact ⟨D, ⟨es, n, he.trans hb, r⟩, h2⟩
theorem MapB.lt {w : World} {g : Nat} {c : List (Int × Int)} (h : MapB w g c) : g < w.heap.size := by
 obtain ⟨es, n, hb⟩ := h.obj
 exact (Array.getElem?_eq_some_iff.1 hb).1
theorem MapB.below {w w1 : World} {g : Nat} {c : List (Int × Int)} (h : MapB w g c) (hb : Below w.heap.size w w1) : MapB w1 g c := h.kept (hb.block g h.lt)
theorem MapB.alloc {w : World} {g : Nat} {c : List (Int × Int)} (h : MapB w g c) (o : Obj) : MapB (w.alloc o) g c := h.below (below_alloc (Below.refl _ _) o)
theorem MapB.grown {w w1 : World} {g : Nat} {c : List (Int × Int)} (h : MapB w g c) {row : Option Nat} (hg : w.grownBy w1 row) (hne : some g ≠ row) : MapB w1 g c := h.kept (hg.block g h.lt hne)
theorem zero_bool (w : World) : (zeroValue 4).run Try.prog w = .ok (.bool false) w := by kernel_rfl
set_option maxRecDepth 1000000 in
theorem MapB.look {w : World} {g : Nat} {c : List (Int × Int)} (h : MapB w g c) {d z : Int} (wd : In64 d) (wz : In64 z) (T : TypeId) (hT : Try.prog.underlying T = some (.map 78 4)) :
 (Instr.lookup T (.map (some g)) (.agg #[.int .i64 d, .int .i64 z]) false).run Try.prog w = .ok (.bool (decide ((d, z) ∈ c))) w := by
 obtain ⟨D, hown, hD, hh⟩ := h
 obtain ⟨v, ps, hrun, hv⟩ := hown.lookup nk hT (z := .bool false) (zero_bool w) (zd := .lit (.bool false)) (zp := []) (plainElem_bool Try.underlying4 false) (key := .agg #[.int .i64 d, .int .i64 z]) (kl := kl d z) (kl_key wd wz)
 rw [hh d z wd wz] at hv
 rw [hrun]
 have : v = .bool (decide ((d, z) ∈ c)) := by
  unfold plainElem at hv
  rw [Try.underlying4] at hv
  cases v <;> simp at hv
  obtain ⟨rfl, _⟩ := hv
  simp
 rw [this]
section
variable {ops : Array Oper} {rest : List Oper} {o : Oper} {a : Act} {Q : Exit → Act → World → Prop}
set_option maxRecDepth 1000000 in
theorem wpList_put_B (w : World) (hg : o.guard = none) (m x v : Operand) (T : TypeId) (hop : o.op = Op.mapUpdate T m x v) (hT : Try.prog.underlying T = some (.map 78 4)) (g : Nat) (c : List (Int × Int)) (d z : Int)
 (hm : a.eval m = .map (some g)) (hM : MapB w g c) (hx : a.eval x = .agg #[.int .i64 d, .int .i64 z]) (hv : a.eval v = .bool true) (wd : In64 d) (wz : In64 z) (hl : c.length < maxLen)
 (hK : ∀ w', MapB w' g (c ++ [(d, z)]) → w.grownBy w' (some g) → wpList Try.prog ops Q rest (a.put o.dst undef) w') : wpList Try.prog ops Q (o :: rest) a w := by
 obtain ⟨D, hown, hD, hh⟩ := hM
 refine wpList_mapUpdate_own w hg m x v T hop 78 4 nk hT (plainElem Try.prog 4) g c.length D hm hown hl _ _ (kl d z) hx hv (kl_key wd wz) (.lit (.bool true)) [] (plainElem_bool Try.underlying4 true) (fun w' h1 h2 => hK w' ⟨_, by rw [List.length_append, List.length_singleton]; exact h1, hD.put _ _, fun d' z' wd' wz' => ?_⟩ h2)
 by_cases e : (d, z) = (d', z')
 ·obtain ⟨rfl, rfl⟩ := Prod.mk.inj e
  rw [atKey_put_same hD (kl_isKey wd wz)]
  simp
 ·rw [atKey_put_other (kl_ne wd' wz' wd wz (fun q => e q.symm)), hh d' z' wd' wz']
  have : ((d', z') = (d, z)) ↔ False := ⟨fun q => e q.symm, False.elim⟩
  simp only [List.mem_append, List.mem_singleton, this, or_false]
theorem mapB_event {W : World} (hgd : o.guard = none) {N : Tmp} (_hd : o.dst = some N)
 (hrun : (execOp a.eval o).run Try.prog W = .ok (.value (.map (some W.heap.size))) (W.alloc (.map #[] 0)))
 (h : ∀ g, g = W.heap.size → ∀ w1, MapB w1 g [] → Below W.heap.size W w1 → wpList Try.prog ops Q rest (a.put o.dst (.map (some g))) w1) : wpList Try.prog ops Q (o :: rest) a W :=
 Kd.event_run hgd hrun (h _ rfl _ (MapB.made W) (below_alloc (Below.refl _ _) _))
end
end Go.Proofs.Ytodhkbahjomfhaa.Q

namespace Go.Proofs
open Go.Shelf
def Try.laysSt_ren : Go.Shelf.Ren := ⟨fun | 169 => 64 | n => n, fun | 70 => 97 | 9 => 9 | 0 => 0 | 72 => 99 | 37 => 43 | 127 => 139 | 3 => 3 | 5 => 5 | n => n, fun | n => n⟩
theorem Try.laysSt : Go.Proofs.Lays.n169 Try.prog Try.laysSt_ren := {
 mixed := by kernel_rfl
 f169 := Try.func64.trans (congrArg some (by kernel_rfl))
 t0 := Try.underlying0
 a0 := Try.isAgg0
 z0 := Try.sizeOf0
 v0 := Try.zeroValue0
 t3 := Try.underlying3
 a3 := Try.isAgg3
 z3 := Try.sizeOf3
 v3 := Try.zeroValue3
 t9 := Try.underlying9
 a9 := Try.isAgg9
 z9 := Try.sizeOf9
 v9 := Try.zeroValue9
 t37 := Try.underlying43
 a37 := Try.isAgg43
 z37 := Try.sizeOf43
 v37 := Try.zeroValue43
 t70 := Try.underlying97
 a70 := Try.isAgg97
 z70 := Try.sizeOf97
 v70 := Try.zeroValue97
 t72 := Try.underlying99
 a72 := Try.isAgg99
 z72 := Try.sizeOf99
 v72 := Try.zeroValue99
 t127 := Try.underlying139
 a127 := Try.isAgg139
 z127 := Try.sizeOf139
 v127 := Try.zeroValue139 }
end Go.Proofs

namespace Go.Proofs.Ytodhkbahjomfhaa.Gbu
open Go Go.RowKit Go.Shelf Go.Proofs
set_option linter.unusedVariables false
theorem sizeBuilder : (Try.prog.info? 99).map (·.size) = some 2 := by kernel_rfl
theorem liesBuilder : liesAt Try.prog Try.prog.depth 99 (2 / Try.prog.cellsOf 99) 0 99 1 = true := by kernel_rfl
theorem infoByte : (Try.prog.info? 5).map (fun i => (i.zero, i.size, i.bytes)) = some (some (.int .u8 0), 1, 1) := by kernel_rfl
set_option maxHeartbeats 1000000 in
set_option maxRecDepth 100000 in
theorem check_used (b : Nat) (w : World) (h0 : w.cell? ⟨b, 0, none⟩ = some (.pointer (some ⟨b, 0, none⟩))) :
 Calls Try.prog 92 #[.pointer (some ⟨b, 0, none⟩)] w fun e w' => e = .returned (.tuple #[]) ∧ w' = w := by
 obtain ⟨j, hj, _⟩ := Option.map_eq_some_iff.1 sizeBuilder
 go_enter Try.func92, Try.ntmps92
 go_wp2
 rw [Lib.run_neq_ptr_same w _ Try.underlying97 hj]
 go_wp2
 go_end0
 exact ⟨rfl, rfl⟩
set_option maxHeartbeats 1000000 in
set_option maxRecDepth 100000 in
theorem check_fresh (b : Nat) (w : World) (h0 : w.cell? ⟨b, 0, none⟩ = some (.pointer none)) (hsh : w.shape? b = some (99, 2)) (hfz : w.frozen? ⟨b, 0, none⟩ = false) :
 Calls Try.prog 92 #[.pointer (some ⟨b, 0, none⟩)] w fun e w' => e = .returned (.tuple #[]) ∧ w' = w.setCell ⟨b, 0, none⟩ (.pointer (some ⟨b, 0, none⟩)) := by
 obtain ⟨j, hj, hjs⟩ := Option.map_eq_some_iff.1 sizeBuilder
 go_enter Try.func92, Try.ntmps92
 go_wp2
 rw [Lib.run_to_unsafe w ⟨b, 0, none⟩ Try.underlying97 Try.underlying156 hj (by rw [hjs]; decide) hsh (Nat.zero_lt_succ 1)]
 simp only [Result.andThen]
 rw [Oper.upon_value]
 go_wp2
 rw [run_callFunc_extern Try.func112 (by kernel_rfl) (by kernel_rfl) (by kernel_rfl) (e := Extern.AbiNoEscape.same) (by kernel_rfl)]
 rw [Lib.run_noEscape]
 simp only [Result.andThen]
 rw [Oper.upon_value]
 go_wp2
 rw [Lib.run_from_unsafe w ⟨b, 0, none⟩ Try.underlying156 Try.underlying97 hj hsh liesBuilder]
 simp only [Result.andThen]
 rw [Oper.upon_value]
 go_wp2
 go_end0
 exact ⟨rfl, rfl⟩
theorem check_any (B b : Nat) (bs : List Value) (w : World) (h : Lib.IsBuilder 99 5 B b bs w) :
 Calls Try.prog 92 #[.pointer (some ⟨b, 0, none⟩)] w fun e w' => e = .returned (.tuple #[]) ∧ (Lib.BuilderAt 99 5 B b (.pointer (some ⟨b, 0, none⟩)) bs w' ∧ Below B w w') := by
 rcases h with h | h
 ·refine (check_fresh b w h.cell0 h.shape h.frozen0).mono ?_
  rintro e w' ⟨rfl, rfl⟩
  exact ⟨rfl, h.used _, (Below.refl B w).setCell (p := ⟨b, 0, none⟩) h.1 _⟩
 ·refine (check_used b w h.cell0).mono ?_
  rintro e w' ⟨rfl, rfl⟩
  exact ⟨rfl, h, Below.refl B _⟩
set_option maxHeartbeats 1000000 in
set_option maxRecDepth 100000 in
theorem write_any (B b : Nat) (bs : List Value) (s : ByteArray) (w : World) (h : Lib.IsBuilder 99 5 B b bs w) (hlen : bs.length + s.size ≤ 140737488355328) (hBw : B ≤ w.heap.size) :
 Calls Try.prog 63 #[.pointer (some ⟨b, 0, none⟩), .string s] w fun e w' => e = .returned (.tuple #[.int .i64 s.size, .nilIface]) ∧ (Lib.IsBuilder 99 5 B b (bs ++ Lib.strCells s) w' ∧ Below B w w') := by
 obtain ⟨i0, hi, hz0, hz1, hz2⟩ := info_parts infoByte
 go_enter Try.func63, Try.ntmps63
 go_wp2_with (go_at_call 92; refine (check_any B b bs _ h).mono ?_)
 rintro e w1 ⟨rfl, h1, hb1⟩
 obtain ⟨hB, v, hbk, hown, hne⟩ := h1
 have c0 : w1.cell? ⟨b, 0, none⟩ = some (.pointer (some ⟨b, 0, none⟩)) := by rw [Lib.cell_of_heap hbk]; rfl
 have c1 : w1.cell? ⟨b, 1, none⟩ = some v := by rw [Lib.cell_of_heap hbk]; rfl
 go_wp2_with (at_builtin; refine Lib.wpList_append_own_string _ rfl _ _ 43 9 rfl B 5 i0 Try.underlying43 Try.underlying9 hi hz0 hz1 hz2 _ _ _ rfl hown s rfl ?c3 ?c4 ?c5 ?_)
 case c3 => unfold maxLen; omega
 case c4 => omega
 case c5 => have := hb1.size; omega
 intro v' w2 hown' hgrow _
 have hlt : b < w1.heap.size := by
  rcases Nat.lt_or_ge b w1.heap.size with h' | h'
  ·exact h'
  ·simp [Array.getElem?_eq_none h'] at hbk
 have hb2 : w2.heap[b]? = some (.cells #[.pointer (some ⟨b, 0, none⟩), v] 99 (0, 0)) := by
  rw [hgrow.block b hlt (fun e => hne e.symm)]
  exact hbk
 have d0 : w2.cell? ⟨b, 0, none⟩ = some (.pointer (some ⟨b, 0, none⟩)) := by rw [Lib.cell_of_heap hb2]; rfl
 have d1 : w2.cell? ⟨b, 1, none⟩ = some v := by rw [Lib.cell_of_heap hb2]; rfl
 have f1 : w2.frozen? ⟨b, 1, none⟩ = false := Lib.frozen_of_heap hb2 1
 obtain ⟨ao, n', cap, rfl⟩ : ∃ ao n' cap, v' = .slice ao n' cap := by
  rcases hown'.2 with ⟨hv, _⟩ | ⟨g, cap, cur, hv, _⟩
  ·exact ⟨_, _, _, hv⟩
  ·exact ⟨_, _, _, hv⟩
 go_wp2
 go_ret2
 refine ⟨rfl, .inr ?_, ?_⟩
 ·exact Lib.BuilderAt.put (T := 99) (e := 5) hB hb2 (bs' := bs ++ Lib.strCells s) (by simpa [Lib.strCells_length] using hown') (by decide)
 ·exact (hb1.grown hgrow (by have := hb1.size; omega) (fun k hk => (hown.lt k hk).1)).setCell (p := ⟨b, 1, none⟩) hB _
theorem extra : Builder.Extra Try.prog Try.laysSt_ren := ⟨⟨by kernel_rfl, by kernel_rfl⟩, Try.underlying5, Try.isAgg5, Try.sizeOf5, Try.zeroValue5, by kernel_rfl, by kernel_rfl, by kernel_rfl, by decide⟩
theorem string_any (B b : Nat) (l : List UInt8) (w : World) (h : Lib.IsBuilder 99 5 B b (Lib.byteCells l) w) (hBw : B ≤ w.heap.size) :
 Calls Try.prog 64 #[.pointer (some ⟨b, 0, none⟩)] w fun e w' => e = .returned (.string ⟨l.toArray⟩) ∧ Below B w w' :=
 Any.Builder_String_any Try.laysSt extra B b l w h hBw
end Go.Proofs.Ytodhkbahjomfhaa.Gbu

namespace Go.Proofs.Ytodhkbahjomfhaa.Q
open Go.RowKit Go.Proofs.YtodhkbahjomfhaaW.PrintWords Go.Proofs.YtodhkbahjomfhaaW.PrintLast Go.Proofs.YtodhkbahjomfhaaW.PrintMore Go.Proofs.Ytodhkbahjomfhaa.Gput Go.Proofs.Ytodhkbahjomfhaa.Gputl
attribute [local go_sem] max2_int min2_int max_two min_two max_three min_three max_four min_four   -- for this text's walks alone
set_option linter.unusedVariables false
set_option linter.unusedSimpArgs false
noncomputable def manifest_proper.f (a0_0 : Int) (a0_1 : Int) : Option (Bool) := if a0_0 ≥ 0 then (if a0_0 < 2147483647 then (if a0_1 ≥ 1 then (some (decide (a0_1 ≤ 256))) else (some false)) else (some false)) else (some false)
set_option maxHeartbeats 8000000 in
set_option maxRecDepth 100000 in
theorem manifest_proper.calls (a0_0 : Int) (a0_1 : Int) (r : Bool) (w : World) (h : manifest_proper.f a0_0 a0_1 = some r) :
 Calls Try.prog 89 #[.agg #[.int .i64 a0_0, .int .i64 a0_1]] w fun e w' => e = .returned (.bool r) ∧ Below w.heap.size w w' := by
 have hu78 := Try.underlying78
 have HB := Aside0.mk (Below.refl w.heap.size w)
 have H : (if a0_0 ≥ 0 then (if a0_0 < 2147483647 then (if a0_1 ≥ 1 then (some (decide (a0_1 ≤ 256))) else (some false)) else (some false)) else (some false)) = some r := h
 clear h
 by_cases c2 : a0_0 ≥ 0
 ·rw [if_pos c2] at H
  have c2b0 : decide (0 ≤ a0_0) = true := decide_eq_true c2
  clear c2
  by_cases c3 : a0_0 < 2147483647
  ·rw [if_pos c3] at H
   have c3b0 : decide (a0_0 < 2147483647) = true := decide_eq_true c3
   clear c3
   by_cases c4 : a0_1 ≥ 1
   ·rw [if_pos c4] at H
    have c4b0 : decide (1 ≤ a0_1) = true := decide_eq_true c4
    clear c4
    obtain rfl := Option.some.inj H
    go_enter Try.func89, Try.ntmps89
    go_wp2_with (first | ((with_reducible refine gate_dst (N := 1) rfl ?_); refine box_event ?hg (N := 1) ?hd (cs := #[.int .i64 a0_0, .int .i64 a0_1]) (t := 78) ?hr ?_; (case hd => rfl); (case hg => rfl); (case hr => first | (go_simp; done) | (go_simp; rfl)); intro gb118 hg w5 hbox hb; have n0_ := Aside0.mk (below_step (by repeat (first | (with_reducible first | exact HB.out | apply below_alloc | apply pw_below_drewN | apply below_drew1) | exact HB.out)) hb); have n1_ := Aside0.mk (hbox); have n2_ := Aside0.mk ((by rw [hg]; exact (below_size (by repeat (first | (with_reducible first | exact HB.out | apply below_alloc | apply pw_below_drewN | apply below_drew1) | exact HB.out))) : w.heap.size ≤ gb118)); have n3_ := Aside0.mk ((by rw [hg]; exact (below_size (by repeat (first | (with_reducible first | exact HB.out | apply below_alloc | apply pw_below_drewN | apply below_drew1) | exact HB.out))) : w.heap.size ≤ gb118)); clear HB; have HB := n0_; have BK118 := n1_; have GW118 := n2_; have GE118 := n3_; clear n0_ n1_ n2_ n3_; clear hb hbox hg; have hcz6_0 : w5.cell? ⟨gb118, 0, none⟩ = some (.int .i64 a0_0) := (blk_cell BK118.out 0).trans rfl; have hcz6_1 : w5.cell? ⟨gb118, 1, none⟩ = some (.int .i64 a0_1) := (blk_cell BK118.out 1).trans rfl; have hfz6_0 := blk_frozen BK118.out 0; have hfz6_1 := blk_frozen BK118.out 1))
    go_ret
    exact ⟨by first | rfl | (simp [errW_none, errW_some] <;> rfl) | (simp [*, errW_none, errW_some] <;> rfl), by repeat (first | (with_reducible first | exact HB.out | apply below_alloc | apply pw_below_drewN | apply below_drew1 | refine below_set ?_ GE118.out) | exact HB.out)⟩
   ·rw [if_neg c4] at H
    have c4b0 : decide (1 ≤ a0_1) = false := decide_eq_false c4
    clear c4
    obtain rfl := Option.some.inj H
    go_enter Try.func89, Try.ntmps89
    go_wp2_with (first | ((with_reducible refine gate_dst (N := 1) rfl ?_); refine box_event ?hg (N := 1) ?hd (cs := #[.int .i64 a0_0, .int .i64 a0_1]) (t := 78) ?hr ?_; (case hd => rfl); (case hg => rfl); (case hr => first | (go_simp; done) | (go_simp; rfl)); intro gb118 hg w7 hbox hb; have n0_ := Aside0.mk (below_step (by repeat (first | (with_reducible first | exact HB.out | apply below_alloc | apply pw_below_drewN | apply below_drew1) | exact HB.out)) hb); have n1_ := Aside0.mk (hbox); have n2_ := Aside0.mk ((by rw [hg]; exact (below_size (by repeat (first | (with_reducible first | exact HB.out | apply below_alloc | apply pw_below_drewN | apply below_drew1) | exact HB.out))) : w.heap.size ≤ gb118)); have n3_ := Aside0.mk ((by rw [hg]; exact (below_size (by repeat (first | (with_reducible first | exact HB.out | apply below_alloc | apply pw_below_drewN | apply below_drew1) | exact HB.out))) : w.heap.size ≤ gb118)); clear HB; have HB := n0_; have BK118 := n1_; have GW118 := n2_; have GE118 := n3_; clear n0_ n1_ n2_ n3_; clear hb hbox hg; have hcz8_0 : w7.cell? ⟨gb118, 0, none⟩ = some (.int .i64 a0_0) := (blk_cell BK118.out 0).trans rfl; have hcz8_1 : w7.cell? ⟨gb118, 1, none⟩ = some (.int .i64 a0_1) := (blk_cell BK118.out 1).trans rfl; have hfz8_0 := blk_frozen BK118.out 0; have hfz8_1 := blk_frozen BK118.out 1))
    go_ret
    exact ⟨by first | rfl | (simp [errW_none, errW_some] <;> rfl) | (simp [*, errW_none, errW_some] <;> rfl), by repeat (first | (with_reducible first | exact HB.out | apply below_alloc | apply pw_below_drewN | apply below_drew1 | refine below_set ?_ GE118.out) | exact HB.out)⟩
  ·rw [if_neg c3] at H
   have c3b0 : decide (a0_0 < 2147483647) = false := decide_eq_false c3
   clear c3
   obtain rfl := Option.some.inj H
   go_enter Try.func89, Try.ntmps89
   go_wp2_with (first | ((with_reducible refine gate_dst (N := 1) rfl ?_); refine box_event ?hg (N := 1) ?hd (cs := #[.int .i64 a0_0, .int .i64 a0_1]) (t := 78) ?hr ?_; (case hd => rfl); (case hg => rfl); (case hr => first | (go_simp; done) | (go_simp; rfl)); intro gb118 hg w9 hbox hb; have n0_ := Aside0.mk (below_step (by repeat (first | (with_reducible first | exact HB.out | apply below_alloc | apply pw_below_drewN | apply below_drew1) | exact HB.out)) hb); have n1_ := Aside0.mk (hbox); have n2_ := Aside0.mk ((by rw [hg]; exact (below_size (by repeat (first | (with_reducible first | exact HB.out | apply below_alloc | apply pw_below_drewN | apply below_drew1) | exact HB.out))) : w.heap.size ≤ gb118)); have n3_ := Aside0.mk ((by rw [hg]; exact (below_size (by repeat (first | (with_reducible first | exact HB.out | apply below_alloc | apply pw_below_drewN | apply below_drew1) | exact HB.out))) : w.heap.size ≤ gb118)); clear HB; have HB := n0_; have BK118 := n1_; have GW118 := n2_; have GE118 := n3_; clear n0_ n1_ n2_ n3_; clear hb hbox hg; have hcz10_0 : w9.cell? ⟨gb118, 0, none⟩ = some (.int .i64 a0_0) := (blk_cell BK118.out 0).trans rfl; have hcz10_1 : w9.cell? ⟨gb118, 1, none⟩ = some (.int .i64 a0_1) := (blk_cell BK118.out 1).trans rfl; have hfz10_0 := blk_frozen BK118.out 0; have hfz10_1 := blk_frozen BK118.out 1))
   go_ret
   exact ⟨by first | rfl | (simp [errW_none, errW_some] <;> rfl) | (simp [*, errW_none, errW_some] <;> rfl), by repeat (first | (with_reducible first | exact HB.out | apply below_alloc | apply pw_below_drewN | apply below_drew1 | refine below_set ?_ GE118.out) | exact HB.out)⟩
 ·rw [if_neg c2] at H
  have c2b0 : decide (0 ≤ a0_0) = false := decide_eq_false c2
  clear c2
  obtain rfl := Option.some.inj H
  go_enter Try.func89, Try.ntmps89
  go_wp2_with (first | ((with_reducible refine gate_dst (N := 1) rfl ?_); refine box_event ?hg (N := 1) ?hd (cs := #[.int .i64 a0_0, .int .i64 a0_1]) (t := 78) ?hr ?_; (case hd => rfl); (case hg => rfl); (case hr => first | (go_simp; done) | (go_simp; rfl)); intro gb118 hg w11 hbox hb; have n0_ := Aside0.mk (below_step (by repeat (first | (with_reducible first | exact HB.out | apply below_alloc | apply pw_below_drewN | apply below_drew1) | exact HB.out)) hb); have n1_ := Aside0.mk (hbox); have n2_ := Aside0.mk ((by rw [hg]; exact (below_size (by repeat (first | (with_reducible first | exact HB.out | apply below_alloc | apply pw_below_drewN | apply below_drew1) | exact HB.out))) : w.heap.size ≤ gb118)); have n3_ := Aside0.mk ((by rw [hg]; exact (below_size (by repeat (first | (with_reducible first | exact HB.out | apply below_alloc | apply pw_below_drewN | apply below_drew1) | exact HB.out))) : w.heap.size ≤ gb118)); clear HB; have HB := n0_; have BK118 := n1_; have GW118 := n2_; have GE118 := n3_; clear n0_ n1_ n2_ n3_; clear hb hbox hg; have hcz12_0 : w11.cell? ⟨gb118, 0, none⟩ = some (.int .i64 a0_0) := (blk_cell BK118.out 0).trans rfl; have hcz12_1 : w11.cell? ⟨gb118, 1, none⟩ = some (.int .i64 a0_1) := (blk_cell BK118.out 1).trans rfl; have hfz12_0 := blk_frozen BK118.out 0; have hfz12_1 := blk_frozen BK118.out 1))
  go_ret
  exact ⟨by first | rfl | (simp [errW_none, errW_some] <;> rfl) | (simp [*, errW_none, errW_some] <;> rfl), by repeat (first | (with_reducible first | exact HB.out | apply below_alloc | apply pw_below_drewN | apply below_drew1 | refine below_set ?_ GE118.out) | exact HB.out)⟩
end Go.Proofs.Ytodhkbahjomfhaa.Q

namespace Go.Proofs.Ytodhkbahjomfhaa.Q
open Go.RowKit Go.Proofs.YtodhkbahjomfhaaW.PrintWords Go.Proofs.YtodhkbahjomfhaaW.PrintLast Go.Proofs.YtodhkbahjomfhaaW.PrintMore Go.Proofs.Ytodhkbahjomfhaa.Gput Go.Proofs.Ytodhkbahjomfhaa.Gputl
attribute [local go_sem] max2_int min2_int max_two min_two max_three min_three max_four min_four   -- for this text's walks alone
set_option linter.unusedVariables false
set_option linter.unusedSimpArgs false
noncomputable def manifest_Check.l0 : Nat → List (S78) → Int → Int → Option (Int)
 | 0, _, _, _ => none
 | k + 1, x14, x15, x16 => if x16 < x15 then (if 0 ≤ x16 then (if x16 < (x14.length : Int) then ((manifest_proper.f ((rd_T78 x14 x16).f0) ((rd_T78 x14 x16).f1)).bind fun t123 => (if t123 = true then (manifest_Check.l0 k x14 x15 (wrap64 (x16 + 1))) else (some 2))) else (none)) else (none)) else (some 0)
noncomputable def manifest_Check.f (k : Nat) (a0_0 : Int) (l0_1 : List (S78)) : Option (Int) := (manifest_numbered.f a0_0).bind fun t120 => (if t120 = true then (if (l0_1.length : Int) > 256 then (some 4) else (manifest_Check.l0 k l0_1 (l0_1.length : Int) 0)) else (some 1))
set_option maxHeartbeats 8000000 in
set_option maxRecDepth 100000 in
theorem manifest_Check.calls (k : Nat) (a0_0 : Int) (A0_1 : Option Addr) (c0_1 : Nat) (l0_1 : List (S78)) (r : Int) (w : World) (hr0_1 : Kd.C k78 w A0_1 l0_1.length l0_1) (hc0_1 : l0_1.length ≤ c0_1) (h : manifest_Check.f k a0_0 l0_1 = some r) :
 Calls Try.prog 56 #[.agg #[.int .i64 a0_0, .slice A0_1 l0_1.length c0_1]] w fun e w' => e = .returned (.int .i64 r) ∧ Below w.heap.size w w' := by
 have hu32 := Try.underlying32
 have hu78 := Try.underlying78
 have HR0_1 := Aside0.mk hr0_1
 have HC0_1 := Aside0.mk hc0_1
 clear hr0_1 hc0_1
 have HB := Aside0.mk (Below.refl w.heap.size w)
 have H : ((manifest_numbered.f a0_0).bind fun t120 => (if t120 = true then (if (l0_1.length : Int) > 256 then (some 4) else (manifest_Check.l0 k l0_1 (l0_1.length : Int) 0)) else (some 1))) = some r := h
 clear h
 replace H := Option.bind_eq_some_iff.mp H
 obtain ⟨t120, A20, H⟩ := H
 replace H : (if t120 = true then (if (l0_1.length : Int) > 256 then (some 4) else (manifest_Check.l0 k l0_1 (l0_1.length : Int) 0)) else (some 1)) = some r := H
 have A2 := Aside0.mk A20
 clear A20
 by_cases c3 : t120 = true
 ·subst c3
  have H1 : (if (l0_1.length : Int) > 256 then (some 4) else (manifest_Check.l0 k l0_1 (l0_1.length : Int) 0)) = some r := by rw [if_pos rfl] at H; exact H
  clear H
  have H := H1
  clear H1
  by_cases c4 : (l0_1.length : Int) > 256
  ·rw [if_pos c4] at H
   have c4b0 : decide (256 < (l0_1.length : Int)) = true := decide_eq_true c4
   have c4b1 : decide (256 < l0_1.length) = true := decide_eq_true (by omega)
   clear c4
   obtain rfl := Option.some.inj H
   go_enter Try.func56, Try.ntmps56
   go_wp2_with (first | ((with_reducible refine gate_dst (N := 1) rfl ?_); refine box_event ?hg (N := 1) ?hd (cs := #[.int .i64 a0_0, .slice A0_1 l0_1.length c0_1]) (t := 32) ?hr ?_; (case hd => rfl); (case hg => rfl); (case hr => first | (go_simp; done) | (go_simp; rfl)); intro gb119 hg w5 hbox hb; have n0_ := Aside0.mk (below_step (by repeat (first | (with_reducible first | exact HB.out | apply below_alloc | apply pw_below_drewN | apply below_drew1) | exact HB.out)) hb); have n1_ := Aside0.mk (hbox); have n2_ := Aside0.mk ((by rw [hg]; exact (below_size (by repeat (first | (with_reducible first | exact HB.out | apply below_alloc | apply pw_below_drewN | apply below_drew1) | exact HB.out))) : w.heap.size ≤ gb119)); have n3_ := Aside0.mk ((by rw [hg]; exact (below_size (by repeat (first | (with_reducible first | exact HB.out | apply below_alloc | apply pw_below_drewN | apply below_drew1) | exact HB.out))) : w.heap.size ≤ gb119)); clear HB; have HB := n0_; have BK119 := n1_; have GW119 := n2_; have GE119 := n3_; clear n0_ n1_ n2_ n3_; clear hb hbox hg; have hcz6_0 : w5.cell? ⟨gb119, 0, none⟩ = some (.int .i64 a0_0) := (blk_cell BK119.out 0).trans rfl; have hcz6_1 : w5.cell? ⟨gb119, 1, none⟩ = some (.slice A0_1 l0_1.length c0_1) := (blk_cell BK119.out 1).trans rfl; have hfz6_0 := blk_frozen BK119.out 0; have hfz6_1 := blk_frozen BK119.out 1) | ((with_reducible refine gate_callee (f := 61) rfl ?_); refine goesL_ (some 7) rfl rfl Try.func61 (by kernel_rfl) rfl #[.int .i64 a0_0] rfl (by (try simp only [List.map_toArray, List.map_cons, List.map_nil]); first | done | rfl | (simp only [List.length_drop, List.length_take]; rfl)) ?_; (with_reducible refine (manifest_numbered.calls a0_0 true _ A2.out).mono ?_); rintro e w' ⟨rfl, ⟨nd, rfl⟩⟩; refine ⟨_, rfl, ?_⟩))
   go_ret
   exact ⟨by first | rfl | (simp [errW_none, errW_some] <;> rfl) | (simp [*, errW_none, errW_some] <;> rfl), by repeat (first | (with_reducible first | exact HB.out | apply below_alloc | apply pw_below_drewN | apply below_drew1 | refine below_set ?_ GE119.out) | exact HB.out)⟩
  ·rw [if_neg c4] at H
   have c4b0 : decide (256 < (l0_1.length : Int)) = false := decide_eq_false c4
   have c4b1 : decide (256 < l0_1.length) = false := decide_eq_false (by omega)
   clear c4
   have H' := Aside0.mk H
   clear H
   go_enter Try.func56, Try.ntmps56
   go_wp2_with (first | ((with_reducible refine gate_dst (N := 1) rfl ?_); refine box_event ?hg (N := 1) ?hd (cs := #[.int .i64 a0_0, .slice A0_1 l0_1.length c0_1]) (t := 32) ?hr ?_; (case hd => rfl); (case hg => rfl); (case hr => first | (go_simp; done) | (go_simp; rfl)); intro gb119 hg w7 hbox hb; have n0_ := Aside0.mk (below_step (by repeat (first | (with_reducible first | exact HB.out | apply below_alloc | apply pw_below_drewN | apply below_drew1) | exact HB.out)) hb); have n1_ := Aside0.mk (hbox); have n2_ := Aside0.mk ((by rw [hg]; exact (below_size (by repeat (first | (with_reducible first | exact HB.out | apply below_alloc | apply pw_below_drewN | apply below_drew1) | exact HB.out))) : w.heap.size ≤ gb119)); have n3_ := Aside0.mk ((by rw [hg]; exact (below_size (by repeat (first | (with_reducible first | exact HB.out | apply below_alloc | apply pw_below_drewN | apply below_drew1) | exact HB.out))) : w.heap.size ≤ gb119)); clear HB; have HB := n0_; have BK119 := n1_; have GW119 := n2_; have GE119 := n3_; clear n0_ n1_ n2_ n3_; clear hb hbox hg; have hcz8_0 : w7.cell? ⟨gb119, 0, none⟩ = some (.int .i64 a0_0) := (blk_cell BK119.out 0).trans rfl; have hcz8_1 : w7.cell? ⟨gb119, 1, none⟩ = some (.slice A0_1 l0_1.length c0_1) := (blk_cell BK119.out 1).trans rfl; have hfz8_0 := blk_frozen BK119.out 0; have hfz8_1 := blk_frozen BK119.out 1) | ((with_reducible refine gate_callee (f := 61) rfl ?_); refine goesL_ (some 7) rfl rfl Try.func61 (by kernel_rfl) rfl #[.int .i64 a0_0] rfl (by (try simp only [List.map_toArray, List.map_cons, List.map_nil]); first | done | rfl | (simp only [List.length_drop, List.length_take]; rfl)) ?_; (with_reducible refine (manifest_numbered.calls a0_0 true _ A2.out).mono ?_); rintro e w' ⟨rfl, ⟨nd, rfl⟩⟩; refine ⟨_, rfl, ?_⟩))
   go_loopg [16] k (fun kq v16 w' => ∃ (x16_1 : Int), v16 = .int .i64 x16_1 ∧ Aside0 (manifest_Check.l0 kq l0_1 (l0_1.length : Int) x16_1 = some r) ∧ Aside0 (kq ≤ k) ∧ Aside0 (w'.heap[gb119]? = some (.cells #[.int .i64 a0_0, (.slice A0_1 l0_1.length c0_1)] 32 (0, 0))) ∧ Aside0 (Below w.heap.size w w'))
   case atStart => exact ⟨(0), (by first | rfl | (simp; done) | (simp [*]; done)), H', ⟨Nat.le_refl _⟩, ⟨by (with_reducible repeat (first | refine blk_drewN ?_ _ | refine blk_drew ?_ | refine blk_alloc ?_ _)); exact BK119.out⟩, ⟨by repeat (first | (with_reducible first | exact HB.out | apply below_alloc | apply pw_below_drewN | apply below_drew1 | refine below_set ?_ GE119.out) | exact HB.out)⟩⟩
   case round =>
    clear H'
    try clear p2
    try clear c3
    try clear c4
    try clear c4b0
    try clear c4b1
    try clear c5
    try clear c6
    try clear hcz6_0
    try clear hcz6_1
    try clear hcz8_0
    try clear hcz8_1
    try clear hfz6_0
    try clear hfz6_1
    try clear hfz8_0
    try clear hfz8_1
    obtain ⟨x16_1, rfl, HA, HK1, BK119, HB⟩ := hrel
    cases gk with
    | zero => exact absurd HA.out (by simp [manifest_Check.l0])
    | succ k1 =>
     have H := HA.out
     clear HA
     simp only [manifest_Check.l0] at H
     by_cases c9 : x16_1 < (l0_1.length : Int)
     ·rw [if_pos c9] at H
      have c9b0 : decide (x16_1 < (l0_1.length : Int)) = true := decide_eq_true c9
      clear c9
      by_cases c10 : 0 ≤ x16_1
      ·rw [if_pos c10] at H
       have c10b0 : decide (0 ≤ x16_1) = true := decide_eq_true c10
       clear c10
       by_cases c11 : x16_1 < (l0_1.length : Int)
       ·rw [if_pos c11] at H
        have c11b0 : decide (x16_1 < (l0_1.length : Int)) = true := decide_eq_true c11
        clear c11
        replace H := Option.bind_eq_some_iff.mp H
        obtain ⟨t123, A120, H⟩ := H
        replace H : (if t123 = true then (manifest_Check.l0 k1 l0_1 (l0_1.length : Int) (wrap64 (x16_1 + 1))) else (some 2)) = some r := H
        have A12 := Aside0.mk A120
        clear A120
        by_cases c13 : t123 = true
        ·subst c13
         have H1 : (manifest_Check.l0 k1 l0_1 (l0_1.length : Int) (wrap64 (x16_1 + 1))) = some r := by rw [if_pos rfl] at H; exact H
         clear H
         have H := H1
         clear H1
         have H' := Aside0.mk H
         clear H
         have p121 : 0 ≤ (x16_1 : Int) := of_decide_eq_true (by first | (with_reducible assumption) | assumption)
         have q121 : x16_1 < (l0_1.length : Int) := of_decide_eq_true (by first | (with_reducible assumption) | assumption)
         obtain ⟨ad121, e121, hx121_0, hx121_1⟩ := at_T78 HR0_1.out x16_1 p121 q121
         cases e121
         replace hx121_0 := (HB.out.cell (World.block_lt_of_cell? w _ hx121_0)).trans hx121_0
         replace hx121_1 := (HB.out.cell (World.block_lt_of_cell? w _ hx121_1)).trans hx121_1
         replace p121 := eq_true p121
         replace q121 := eq_true q121
         go_wp2_with (first | ((with_reducible refine gate_dst (N := 4) rfl ?_); refine box_event ?hg (N := 4) ?hd (cs := #[.int .i64 0, .int .i64 0]) (t := 78) ?hr ?_; (case hd => rfl); (case hg => rfl); (case hr => first | (go_simp; done) | (go_simp; rfl)); intro gb122 hg w14 hbox hb; have n0_ := Aside0.mk (blk_below (g := gb119) (o := .cells #[.int .i64 a0_0, .slice (some ad121) l0_1.length c0_1] 32 (0, 0)) (by (with_reducible repeat (first | refine blk_drewN ?_ _ | refine blk_drew ?_ | refine blk_alloc ?_ _)); exact BK119.out) hb); have n1_ := Aside0.mk (below_step (by repeat (first | (with_reducible first | exact HB.out | apply below_alloc | apply pw_below_drewN | apply below_drew1 | refine below_set ?_ GE119.out) | exact HB.out)) hb); have n2_ := Aside0.mk (hbox); have n3_ := Aside0.mk ((by rw [hg]; exact (below_size (by repeat (first | (with_reducible first | exact HB.out | apply below_alloc | apply pw_below_drewN | apply below_drew1 | refine below_set ?_ GE119.out) | exact HB.out))) : w.heap.size ≤ gb122)); have n4_ := Aside0.mk ((by rw [hg]; exact (below_size (by repeat (first | (with_reducible first | exact HB.out | apply below_alloc | apply pw_below_drewN | apply below_drew1 | refine below_set ?_ GE119.out) | exact HB.out))) : w.heap.size ≤ gb122)); have n5_ := Aside0.mk ((by rw [hg]; exact Nat.ne_of_lt (blk_lt (g := gb119) (o := .cells #[.int .i64 a0_0, .slice (some ad121) l0_1.length c0_1] 32 (0, 0)) (by (with_reducible repeat (first | refine blk_drewN ?_ _ | refine blk_drew ?_ | refine blk_alloc ?_ _)); exact BK119.out)) : gb119 ≠ gb122)); have n6_ := Aside0.mk ((by rw [hg]; exact Nat.ne_of_gt (blk_lt (g := gb119) (o := .cells #[.int .i64 a0_0, .slice (some ad121) l0_1.length c0_1] 32 (0, 0)) (by (with_reducible repeat (first | refine blk_drewN ?_ _ | refine blk_drew ?_ | refine blk_alloc ?_ _)); exact BK119.out)) : gb122 ≠ gb119)); clear BK119; clear HB; have BK119 := n0_; have HB := n1_; have BK122 := n2_; have GW122 := n3_; have GE122 := n4_; have NB119_122 := n5_; have NB122_119 := n6_; clear n0_ n1_ n2_ n3_ n4_ n5_ n6_; clear hb hbox hg; have hnb15 := NB122_119.out; have hnc15 := NB119_122.out; have hcz16_0 : w14.cell? ⟨gb122, 0, none⟩ = some (.int .i64 0) := (blk_cell BK122.out 0).trans rfl; have hcz16_1 : w14.cell? ⟨gb122, 1, none⟩ = some (.int .i64 0) := (blk_cell BK122.out 1).trans rfl; have hfz16_0 := blk_frozen BK122.out 0; have hfz16_1 := blk_frozen BK122.out 1) | ((with_reducible refine gate_callee (f := 89) rfl ?_); refine goesL_ (some 21) rfl rfl Try.func89 (by kernel_rfl) rfl #[.agg #[.int .i64 ((rd_T78 l0_1 x16_1).f0), .int .i64 ((rd_T78 l0_1 x16_1).f1)]] rfl (by (try simp only [List.map_toArray, List.map_cons, List.map_nil]); first | done | rfl | (simp only [List.length_drop, List.length_take]; rfl)) ?_; (with_reducible refine (manifest_proper.calls ((rd_T78 l0_1 x16_1).f0) ((rd_T78 l0_1 x16_1).f1) true _ A12.out).mono ?_); rintro e w17 ⟨rfl, hb⟩; refine ⟨_, rfl, ?_⟩; have n0_ := Aside0.mk (blk_below (g := gb119) (o := .cells #[.int .i64 a0_0, .slice (some ad121) l0_1.length c0_1] 32 (0, 0)) (by (with_reducible repeat (first | refine blk_drewN ?_ _ | refine blk_drew ?_ | refine blk_alloc ?_ _)); refine blk_far ?_ NB119_122.out _; (with_reducible repeat (first | refine blk_drewN ?_ _ | refine blk_drew ?_ | refine blk_alloc ?_ _)); refine blk_far ?_ NB119_122.out _; (with_reducible repeat (first | refine blk_drewN ?_ _ | refine blk_drew ?_ | refine blk_alloc ?_ _)); exact BK119.out) hb); have n1_ := Aside0.mk (blk_below (g := gb122) (o := .cells #[.int .i64 ((rd_T78 l0_1 x16_1).f0), .int .i64 ((rd_T78 l0_1 x16_1).f1)] 78 (0, 0)) (by (with_reducible repeat (first | refine blk_drewN ?_ _ | refine blk_drew ?_ | refine blk_alloc ?_ _)); refine blk_put (cs := #[.int .i64 ((rd_T78 l0_1 x16_1).f0), .int .i64 0]) ?_ 1 _ rfl; (with_reducible repeat (first | refine blk_drewN ?_ _ | refine blk_drew ?_ | refine blk_alloc ?_ _)); refine blk_put (cs := #[.int .i64 0, .int .i64 0]) ?_ 0 _ rfl; (with_reducible repeat (first | refine blk_drewN ?_ _ | refine blk_drew ?_ | refine blk_alloc ?_ _)); exact BK122.out) hb); have n2_ := Aside0.mk (below_step (by repeat (first | (with_reducible first | exact HB.out | apply below_alloc | apply pw_below_drewN | apply below_drew1 | refine below_set ?_ GE119.out | refine below_set ?_ GE122.out) | exact HB.out)) hb); clear BK119; clear BK122; clear HB; have BK119 := n0_; have BK122 := n1_; have HB := n2_; clear n0_ n1_ n2_; (try clear hb); (try clear hb2); (try clear hk); (try clear hi)))
         go_roundg k1
         case measure => have := HK1.out; omega
         case rel => exact ⟨(wrap64 (x16_1 + 1)), (by first | rfl | (simp; done) | (simp [*]; done)), H', ⟨by have := HK1.out; omega⟩, ⟨by (with_reducible repeat (first | refine blk_drewN ?_ _ | refine blk_drew ?_ | refine blk_alloc ?_ _)); exact BK119.out⟩, ⟨by repeat (first | (with_reducible first | exact HB.out | apply below_alloc | apply pw_below_drewN | apply below_drew1 | refine below_set ?_ GE119.out | refine below_set ?_ GE122.out) | exact HB.out)⟩⟩
        ·replace c13 := Bool.eq_false_iff.mpr c13
         subst c13
         have H1 : (some 2) = some r := by rw [if_neg (show ¬ (false = true) by decide)] at H; exact H
         clear H
         have H := H1
         clear H1
         obtain rfl := Option.some.inj H
         have p121 : 0 ≤ (x16_1 : Int) := of_decide_eq_true (by first | (with_reducible assumption) | assumption)
         have q121 : x16_1 < (l0_1.length : Int) := of_decide_eq_true (by first | (with_reducible assumption) | assumption)
         obtain ⟨ad121, e121, hx121_0, hx121_1⟩ := at_T78 HR0_1.out x16_1 p121 q121
         cases e121
         replace hx121_0 := (HB.out.cell (World.block_lt_of_cell? w _ hx121_0)).trans hx121_0
         replace hx121_1 := (HB.out.cell (World.block_lt_of_cell? w _ hx121_1)).trans hx121_1
         replace p121 := eq_true p121
         replace q121 := eq_true q121
         go_wp2_with (first | ((with_reducible refine gate_dst (N := 4) rfl ?_); refine box_event ?hg (N := 4) ?hd (cs := #[.int .i64 0, .int .i64 0]) (t := 78) ?hr ?_; (case hd => rfl); (case hg => rfl); (case hr => first | (go_simp; done) | (go_simp; rfl)); intro gb122 hg w18 hbox hb; have n0_ := Aside0.mk (blk_below (g := gb119) (o := .cells #[.int .i64 a0_0, .slice (some ad121) l0_1.length c0_1] 32 (0, 0)) (by (with_reducible repeat (first | refine blk_drewN ?_ _ | refine blk_drew ?_ | refine blk_alloc ?_ _)); exact BK119.out) hb); have n1_ := Aside0.mk (below_step (by repeat (first | (with_reducible first | exact HB.out | apply below_alloc | apply pw_below_drewN | apply below_drew1 | refine below_set ?_ GE119.out) | exact HB.out)) hb); have n2_ := Aside0.mk (hbox); have n3_ := Aside0.mk ((by rw [hg]; exact (below_size (by repeat (first | (with_reducible first | exact HB.out | apply below_alloc | apply pw_below_drewN | apply below_drew1 | refine below_set ?_ GE119.out) | exact HB.out))) : w.heap.size ≤ gb122)); have n4_ := Aside0.mk ((by rw [hg]; exact (below_size (by repeat (first | (with_reducible first | exact HB.out | apply below_alloc | apply pw_below_drewN | apply below_drew1 | refine below_set ?_ GE119.out) | exact HB.out))) : w.heap.size ≤ gb122)); have n5_ := Aside0.mk ((by rw [hg]; exact Nat.ne_of_lt (blk_lt (g := gb119) (o := .cells #[.int .i64 a0_0, .slice (some ad121) l0_1.length c0_1] 32 (0, 0)) (by (with_reducible repeat (first | refine blk_drewN ?_ _ | refine blk_drew ?_ | refine blk_alloc ?_ _)); exact BK119.out)) : gb119 ≠ gb122)); have n6_ := Aside0.mk ((by rw [hg]; exact Nat.ne_of_gt (blk_lt (g := gb119) (o := .cells #[.int .i64 a0_0, .slice (some ad121) l0_1.length c0_1] 32 (0, 0)) (by (with_reducible repeat (first | refine blk_drewN ?_ _ | refine blk_drew ?_ | refine blk_alloc ?_ _)); exact BK119.out)) : gb122 ≠ gb119)); clear BK119; clear HB; have BK119 := n0_; have HB := n1_; have BK122 := n2_; have GW122 := n3_; have GE122 := n4_; have NB119_122 := n5_; have NB122_119 := n6_; clear n0_ n1_ n2_ n3_ n4_ n5_ n6_; clear hb hbox hg; have hnb19 := NB122_119.out; have hnc19 := NB119_122.out; have hcz20_0 : w18.cell? ⟨gb122, 0, none⟩ = some (.int .i64 0) := (blk_cell BK122.out 0).trans rfl; have hcz20_1 : w18.cell? ⟨gb122, 1, none⟩ = some (.int .i64 0) := (blk_cell BK122.out 1).trans rfl; have hfz20_0 := blk_frozen BK122.out 0; have hfz20_1 := blk_frozen BK122.out 1) | ((with_reducible refine gate_callee (f := 89) rfl ?_); refine goesL_ (some 21) rfl rfl Try.func89 (by kernel_rfl) rfl #[.agg #[.int .i64 ((rd_T78 l0_1 x16_1).f0), .int .i64 ((rd_T78 l0_1 x16_1).f1)]] rfl (by (try simp only [List.map_toArray, List.map_cons, List.map_nil]); first | done | rfl | (simp only [List.length_drop, List.length_take]; rfl)) ?_; (with_reducible refine (manifest_proper.calls ((rd_T78 l0_1 x16_1).f0) ((rd_T78 l0_1 x16_1).f1) false _ A12.out).mono ?_); rintro e w21 ⟨rfl, hb⟩; refine ⟨_, rfl, ?_⟩; have n0_ := Aside0.mk (blk_below (g := gb119) (o := .cells #[.int .i64 a0_0, .slice (some ad121) l0_1.length c0_1] 32 (0, 0)) (by (with_reducible repeat (first | refine blk_drewN ?_ _ | refine blk_drew ?_ | refine blk_alloc ?_ _)); refine blk_far ?_ NB119_122.out _; (with_reducible repeat (first | refine blk_drewN ?_ _ | refine blk_drew ?_ | refine blk_alloc ?_ _)); refine blk_far ?_ NB119_122.out _; (with_reducible repeat (first | refine blk_drewN ?_ _ | refine blk_drew ?_ | refine blk_alloc ?_ _)); exact BK119.out) hb); have n1_ := Aside0.mk (blk_below (g := gb122) (o := .cells #[.int .i64 ((rd_T78 l0_1 x16_1).f0), .int .i64 ((rd_T78 l0_1 x16_1).f1)] 78 (0, 0)) (by (with_reducible repeat (first | refine blk_drewN ?_ _ | refine blk_drew ?_ | refine blk_alloc ?_ _)); refine blk_put (cs := #[.int .i64 ((rd_T78 l0_1 x16_1).f0), .int .i64 0]) ?_ 1 _ rfl; (with_reducible repeat (first | refine blk_drewN ?_ _ | refine blk_drew ?_ | refine blk_alloc ?_ _)); refine blk_put (cs := #[.int .i64 0, .int .i64 0]) ?_ 0 _ rfl; (with_reducible repeat (first | refine blk_drewN ?_ _ | refine blk_drew ?_ | refine blk_alloc ?_ _)); exact BK122.out) hb); have n2_ := Aside0.mk (below_step (by repeat (first | (with_reducible first | exact HB.out | apply below_alloc | apply pw_below_drewN | apply below_drew1 | refine below_set ?_ GE119.out | refine below_set ?_ GE122.out) | exact HB.out)) hb); clear BK119; clear BK122; clear HB; have BK119 := n0_; have BK122 := n1_; have HB := n2_; clear n0_ n1_ n2_; (try clear hb); (try clear hb2); (try clear hk); (try clear hi)))
         go_ret
         exact ⟨by first | rfl | (simp [errW_none, errW_some] <;> rfl) | (simp [*, errW_none, errW_some] <;> rfl), by repeat (first | (with_reducible first | exact HB.out | apply below_alloc | apply pw_below_drewN | apply below_drew1 | refine below_set ?_ GE119.out | refine below_set ?_ GE122.out) | exact HB.out)⟩
       ·rw [if_neg c11] at H
        exact absurd H (by simp)
      ·rw [if_neg c10] at H
       exact absurd H (by simp)
     ·rw [if_neg c9] at H
      have c9b0 : decide (x16_1 < (l0_1.length : Int)) = false := decide_eq_false c9
      clear c9
      obtain rfl := Option.some.inj H
      go_wp2
      go_ret
      exact ⟨by first | rfl | (simp [errW_none, errW_some] <;> rfl) | (simp [*, errW_none, errW_some] <;> rfl), by repeat (first | (with_reducible first | exact HB.out | apply below_alloc | apply pw_below_drewN | apply below_drew1 | refine below_set ?_ GE119.out) | exact HB.out)⟩
 ·replace c3 := Bool.eq_false_iff.mpr c3
  subst c3
  have H1 : (some 1) = some r := by rw [if_neg (show ¬ (false = true) by decide)] at H; exact H
  clear H
  have H := H1
  clear H1
  obtain rfl := Option.some.inj H
  go_enter Try.func56, Try.ntmps56
  go_wp2_with (first | ((with_reducible refine gate_dst (N := 1) rfl ?_); refine box_event ?hg (N := 1) ?hd (cs := #[.int .i64 a0_0, .slice A0_1 l0_1.length c0_1]) (t := 32) ?hr ?_; (case hd => rfl); (case hg => rfl); (case hr => first | (go_simp; done) | (go_simp; rfl)); intro gb119 hg w22 hbox hb; have n0_ := Aside0.mk (below_step (by repeat (first | (with_reducible first | exact HB.out | apply below_alloc | apply pw_below_drewN | apply below_drew1) | exact HB.out)) hb); have n1_ := Aside0.mk (hbox); have n2_ := Aside0.mk ((by rw [hg]; exact (below_size (by repeat (first | (with_reducible first | exact HB.out | apply below_alloc | apply pw_below_drewN | apply below_drew1) | exact HB.out))) : w.heap.size ≤ gb119)); have n3_ := Aside0.mk ((by rw [hg]; exact (below_size (by repeat (first | (with_reducible first | exact HB.out | apply below_alloc | apply pw_below_drewN | apply below_drew1) | exact HB.out))) : w.heap.size ≤ gb119)); clear HB; have HB := n0_; have BK119 := n1_; have GW119 := n2_; have GE119 := n3_; clear n0_ n1_ n2_ n3_; clear hb hbox hg; have hcz23_0 : w22.cell? ⟨gb119, 0, none⟩ = some (.int .i64 a0_0) := (blk_cell BK119.out 0).trans rfl; have hcz23_1 : w22.cell? ⟨gb119, 1, none⟩ = some (.slice A0_1 l0_1.length c0_1) := (blk_cell BK119.out 1).trans rfl; have hfz23_0 := blk_frozen BK119.out 0; have hfz23_1 := blk_frozen BK119.out 1) | ((with_reducible refine gate_callee (f := 61) rfl ?_); refine goesL_ (some 7) rfl rfl Try.func61 (by kernel_rfl) rfl #[.int .i64 a0_0] rfl (by (try simp only [List.map_toArray, List.map_cons, List.map_nil]); first | done | rfl | (simp only [List.length_drop, List.length_take]; rfl)) ?_; (with_reducible refine (manifest_numbered.calls a0_0 false _ A2.out).mono ?_); rintro e w' ⟨rfl, ⟨nd, rfl⟩⟩; refine ⟨_, rfl, ?_⟩))
  go_ret
  exact ⟨by first | rfl | (simp [errW_none, errW_some] <;> rfl) | (simp [*, errW_none, errW_some] <;> rfl), by repeat (first | (with_reducible first | exact HB.out | apply below_alloc | apply pw_below_drewN | apply below_drew1 | refine below_set ?_ GE119.out) | exact HB.out)⟩
end Go.Proofs.Ytodhkbahjomfhaa.Q

namespace Go.Proofs.Ytodhkbahjomfhaa.Q
open Go Go.RowKit Go.Maps Go.Proofs Go.Proofs.Ytodhkbahjomfhaa.Gbu Go.Proofs.YtodhkbahjomfhaaW.PrintWords Go.Proofs.YtodhkbahjomfhaaW.PrintLast Go.Proofs.YtodhkbahjomfhaaW.PrintMore
set_option linter.unusedVariables false
theorem builder_below {T e B b : Nat} {bs : List Value} {w w' : World} (h : Lib.IsBuilder T e B b bs w) (hb : Below w.heap.size w w') : Lib.IsBuilder T e B b bs w' := by
 rcases h with ⟨h1, v, h2, h3, h4⟩ | ⟨h1, v, h2, h3, h4⟩
 ·exact .inl ⟨h1, v, blk_below h2 hb, pw_own_below h3 hb, h4⟩
 ·exact .inr ⟨h1, v, blk_below h2 hb, pw_own_below h3 hb, h4⟩
theorem byteCells_str (l : List UInt8) (s : ByteArray) : Lib.byteCells l ++ Lib.strCells s = Lib.byteCells (l ++ s.data.toList) := by
 unfold Lib.byteCells Lib.strCells
 rw [List.map_append]
structure ReM (w W : World) (g2 gm gc : Nat) (a0 : Int) (v : Value) (l : List ByteArray) (c : List (Int × Int)) : Prop where
 hb : Below w.heap.size w W
 b2 : W.heap[g2]? = some (.cells #[.int .i64 a0, v] 32 (0, 0))
 m : MapS W gm l
 mb : MapB W gc c
 e2 : w.heap.size ≤ g2
 em : w.heap.size ≤ gm
 ec : w.heap.size ≤ gc
 ne : gm ≠ gc
section
variable {w W W' : World} {g2 gm gc B : Nat} {a0 : Int} {v : Value} {l l' : List ByteArray} {c c' : List (Int × Int)}
theorem ReM.below (h : ReM w W g2 gm gc a0 v l c) (hb : Below W.heap.size W W') : ReM w W' g2 gm gc a0 v l c :=
 ⟨below_step h.hb hb, blk_below h.b2 hb, h.m.below hb, h.mb.below hb, h.e2, h.em, h.ec, h.ne⟩
theorem ReM.alloc (h : ReM w W g2 gm gc a0 v l c) (o : Obj) : ReM w (W.alloc o) g2 gm gc a0 v l c := h.below (below_alloc (Below.refl _ _) o)
theorem ReM.putS (h : ReM w W g2 gm gc a0 v l c) (hm : MapS W' gm l') (hg : W.grownBy W' (some gm)) : ReM w W' g2 gm gc a0 v l' c :=
 ⟨h.hb.grown hg h.hb.size (fun k hk => by cases hk; exact h.em), blk_grown h.b2 hg (h.m.ne' h.b2), hm, h.mb.grown hg (fun q => h.ne (Option.some.inj q).symm), h.e2, h.em, h.ec, h.ne⟩
theorem ReM.putB (h : ReM w W g2 gm gc a0 v l c) (hm : MapB W' gc c') (hg : W.grownBy W' (some gc)) : ReM w W' g2 gm gc a0 v l c' :=
 ⟨h.hb.grown hg h.hb.size (fun k hk => by cases hk; exact h.ec), blk_grown h.b2 hg (by obtain ⟨es, n, q⟩ := h.mb.obj; exact map_ne_blk q h.b2), h.m.grown hg (fun q => h.ne (Option.some.inj q)), hm, h.e2, h.em, h.ec, h.ne⟩
theorem ReM.low (h : ReM w W g2 gm gc a0 v l c) (hb : Below B W W') (k2 : g2 < B) (km : gm < B) (kc : gc < B) (kw : w.heap.size ≤ B) : ReM w W' g2 gm gc a0 v l c :=
 ⟨h.hb.trans (hb.mono kw), (hb.block g2 k2).trans h.b2, h.m.kept (hb.block gm km), h.mb.kept (hb.block gc kc), h.e2, h.em, h.ec, h.ne⟩
end
structure ReW (w W : World) (g2 gm gc B : Nat) (a0 : Int) (v : Value) (l : List ByteArray) (c : List (Int × Int)) (acc : List UInt8) : Prop where
 r : ReM w W g2 gm gc a0 v l c
 bu : Lib.IsBuilder 99 5 B B (Lib.byteCells acc) W
 k2 : g2 < B
 km : gm < B
 kc : gc < B
 kw : w.heap.size ≤ B
 ks : B ≤ W.heap.size
section
variable {w W W' : World} {g2 gm gc B : Nat} {a0 : Int} {v : Value} {l : List ByteArray} {c : List (Int × Int)} {acc acc' : List UInt8}
theorem ReW.below (h : ReW w W g2 gm gc B a0 v l c acc) (hb : Below W.heap.size W W') : ReW w W' g2 gm gc B a0 v l c acc :=
 ⟨h.r.below hb, builder_below h.bu hb, h.k2, h.km, h.kc, h.kw, Nat.le_trans h.ks hb.size⟩
theorem ReW.alloc (h : ReW w W g2 gm gc B a0 v l c acc) (o : Obj) : ReW w (W.alloc o) g2 gm gc B a0 v l c acc := h.below (below_alloc (Below.refl _ _) o)
theorem ReW.write (h : ReW w W g2 gm gc B a0 v l c acc) (hb : Below B W W') (hu : Lib.IsBuilder 99 5 B B (Lib.byteCells acc') W') : ReW w W' g2 gm gc B a0 v l c acc' :=
 ⟨h.r.low hb h.k2 h.km h.kc h.kw, hu, h.k2, h.km, h.kc, h.kw, Nat.le_trans h.ks hb.size⟩
end
noncomputable def reC : List ByteArray → List ByteArray → List (Int × Int) → List (Int × Int)
 | _, [], c => c
 | seen, s :: r, c => match lookS seen (nm s).1 (nm s).2 with
  | none => reC (seen ++ [s]) r c
  | some t => if t.toList = s.toList then reC (seen ++ [s]) r c else reC (seen ++ [s]) r (c ++ [nm s])
noncomputable def reGo (l : List ByteArray) (c : List (Int × Int)) : List UInt8 → List S78 → ByteArray × Int
 | acc, [] => (⟨acc.toArray⟩, 0)
 | acc, n :: r => match lookS l n.f0 n.f1 with
  | none => (⟨#[]⟩, 6)
  | some t => if (n.f0, n.f1) ∈ c then (⟨#[]⟩, 8) else reGo l c (acc ++ t.data.toList) r
def ReOk (l1 : List S78) (l2 : List ByteArray) : Prop := l1.length ≤ 1000 ∧ (∀ n ∈ l1, In64 n.f0 ∧ In64 n.f1 ∧ n.f1 ≤ 1000000) ∧ l2.length < maxLen ∧ ∀ s ∈ l2, Named s ∧ (nm s).2 = s.size
open Classical in
noncomputable def manifest_Restore.f (a0 : Int) (l1 : List S78) (l2 : List ByteArray) : Option (ByteArray × Int) :=
 (manifest_Check.f 1000 a0 l1).bind fun e => if e = 0 then (if ReOk l1 l2 then some (reGo l2 (reC [] l2 []) [] l1) else none) else some (⟨#[]⟩, e)
set_option maxRecDepth 100000 in
set_option maxHeartbeats 4000000 in
theorem manifest_Restore.calls (a0 : Int) (A1 : Option Addr) (c1 : Nat) (l1 : List S78) (A2 : Option Addr) (c2 : Nat) (l2 : List ByteArray) (r1 : ByteArray) (r2 : Int) (w : World) (hr1 : Kd.C k78 w A1 l1.length l1) (hc1 : l1.length ≤ c1) (hr2 : Kd.C Kd.string w A2 l2.length l2) (hc2 : l2.length ≤ c2) (h : manifest_Restore.f a0 l1 l2 = some (r1, r2)) :
 Calls Try.prog 20 #[.agg #[.int .i64 a0, .slice A1 l1.length c1], .slice A2 l2.length c2] w fun e w' => e = .returned (.tuple #[.string r1, .int .i64 r2]) ∧ Below w.heap.size w w' := by
 have hu32 := Try.underlying32
 have hu78 := Try.underlying78
 have HR1 := Aside0.mk hr1
 have HR2 := Aside0.mk hr2
 have HB := Aside0.mk (Below.refl w.heap.size w)
 clear hr1 hr2
 unfold manifest_Restore.f at h
 obtain ⟨ev, hev, h⟩ := Option.bind_eq_some_iff.mp h
 have HF := Aside0.mk hev
 clear hev
 by_cases he : ev = 0
 case neg =>
  rw [if_neg he] at h
  simp only [Option.some.injEq, Prod.mk.injEq] at h
  obtain ⟨rfl, rfl⟩ := h
  have hb1 : (ev != 0) = true := bne_iff_ne.mpr he
  have hb2 : (ev == 0) = false := beq_eq_false_iff_ne.mpr he
  clear he
  go_enter Try.func20, Try.ntmps20
  go_wp2_with (first | ((with_reducible refine gate_dst (N := 2) rfl ?_); refine box_event ?hg (N := 2) ?hd (cs := #[.int .i64 a0, .slice A1 l1.length c1]) (t := 32) ?hr ?_; (case hd => rfl); (case hg => rfl); (case hr => first | (go_simp; done) | (go_simp; rfl)); intro g2 hg w4 hbox hb; have BK := Aside0.mk hbox; have G2 := Aside0.mk (by rw [hg]; exact Nat.le_refl _ : w.heap.size ≤ g2); have n_ := Aside0.mk (below_step HB.out hb); clear HB; have HB := n_; clear n_ hb hbox hg; have hcl0 : w4.cell? ⟨g2, 0, none⟩ = some (.int .i64 a0) := (blk_cell BK.out 0).trans rfl; have hcl1 : w4.cell? ⟨g2, 1, none⟩ = some (.slice A1 l1.length c1) := (blk_cell BK.out 1).trans rfl) | (go_at_call 56; with_reducible refine (manifest_Check.calls 1000 a0 A1 c1 l1 _ _ (Kd.C_below HR1.out HB.out) hc1 HF.out).mono ?_; rintro e w5 ⟨rfl, hb⟩; have n1_ := Aside0.mk (blk_below BK.out hb); have n_ := Aside0.mk (below_step HB.out hb); clear HB BK hcl0 hcl1; have HB := n_; have BK := n1_; clear n_ n1_ hb))
  go_ret2
  exact ⟨rfl, HB.out⟩
 case pos =>
  rw [if_pos he] at h
  subst he
  have hok : ReOk l1 l2 := by
   by_cases z : ReOk l1 l2
   ·exact z
   ·rw [if_neg z] at h
    cases h
  rw [if_pos hok] at h
  have HH : Aside0 (reGo l2 (reC (l2.take 0) (l2.drop 0) []) [] l1 = (r1, r2)) := ⟨Option.some.inj h⟩
  obtain ⟨hl1, hw1, hl2, hw2⟩ := hok
  have hl3 : l2.length ≤ 9223372036854775807 := by unfold maxLen at hl2; omega
  have HW1 := Aside0.mk hw1
  have HW2 := Aside0.mk hw2
  clear h hw1 hw2
  have hmm := @run_makeMap Try.prog
  go_enter Try.func20, Try.ntmps20
  go_wp2_with (first | ((with_reducible refine gate_dst (N := 2) rfl ?_); refine box_event ?hg (N := 2) ?hd (cs := #[.int .i64 a0, .slice A1 l1.length c1]) (t := 32) ?hr ?_; (case hd => rfl); (case hg => rfl); (case hr => first | (go_simp; done) | (go_simp; rfl)); intro g2 hg w4 hbox hb; have BK := Aside0.mk hbox; have G2 := Aside0.mk (by rw [hg]; exact Nat.le_refl _ : w.heap.size ≤ g2); have n_ := Aside0.mk (below_step HB.out hb); clear HB; have HB := n_; clear n_ hb hbox hg; have hcl0 : w4.cell? ⟨g2, 0, none⟩ = some (.int .i64 a0) := (blk_cell BK.out 0).trans rfl; have hcl1 : w4.cell? ⟨g2, 1, none⟩ = some (.slice A1 l1.length c1) := (blk_cell BK.out 1).trans rfl) | (go_at_call 56; with_reducible refine (manifest_Check.calls 1000 a0 A1 c1 l1 _ _ (Kd.C_below HR1.out HB.out) hc1 HF.out).mono ?_; rintro e w5 ⟨rfl, hb⟩; have n1_ := Aside0.mk (blk_below BK.out hb); have n_ := Aside0.mk (below_step HB.out hb); clear HB BK hcl0 hcl1; have HB := n_; have BK := n1_; clear n_ n1_ hb) | ((with_reducible refine gate_dst (N := 24) rfl ?_); refine map_event ?hg (N := 24) ?hd ?hr ?_; (case hd => rfl); (case hg => rfl); (case hr => first | (go_simp; done) | (go_simp; rfl)); intro gm hgm w6 hM hb; have HM := Aside0.mk hM; have EM := Aside0.mk (by rw [hgm]; exact HB.out.size : w.heap.size ≤ gm); have n1_ := Aside0.mk (blk_below BK.out hb); have n_ := Aside0.mk (below_step HB.out hb); clear HB BK; have HB := n_; have BK := n1_; clear n_ n1_ hb hM hgm) | ((with_reducible refine gate_dst (N := 25) rfl ?_); refine mapB_event ?hg (N := 25) ?hd ?hr ?_; (case hd => rfl); (case hg => rfl); (case hr => first | (go_simp; done) | (go_simp; rfl)); intro gc hgc w7 hM hb; have HS : Aside0 (ReM w w7 g2 gm gc a0 (.slice A1 l1.length c1) [] []) := ⟨⟨below_step HB.out hb, blk_below BK.out hb, HM.out.below hb, hM, G2.out, EM.out, by rw [hgc]; exact HB.out.size, by rw [hgc]; exact Nat.ne_of_lt HM.out.lt⟩⟩; clear HB BK HM EM hb hM hgc))
  go_loopw [28] (fun v28 wr => ∃ (k : Nat) (c : List (Int × Int)), k ≤ l2.length ∧ v28 = .int .i64 k ∧ Aside0 (ReM w wr g2 gm gc a0 (.slice A1 l1.length c1) (l2.take k) c) ∧ Aside0 (reGo l2 (reC (l2.take k) (l2.drop k) c) [] l1 = (r1, r2)) ∧ c.length ≤ k) (fun v28 _ => l2.length - (intOf v28).toNat)
  case atStart => exact ⟨0, [], Nat.zero_le _, rfl, HS, HH, Nat.le_refl _⟩
  case round =>
   clear HS HH
   obtain ⟨k, c, hk, rfl, HS, HH, hck⟩ := hrel
   by_cases hlt : k < l2.length
   case pos =>
    obtain ⟨ad, ead, hx⟩ := Kd.at_string HR2.out k (by omega) (by omega)
    cases ead
    replace hx := (HS.out.hb.cell (World.block_lt_of_cell? w _ hx)).trans hx
    simp only [Int.toNat_natCast] at hx
    have hsk : l2[k] = rdOf ByteArray.empty l2 (k : Int) := by simp [rdOf, List.getD, hlt]
    obtain ⟨s, hs⟩ : ∃ s, rdOf ByteArray.empty l2 (k : Int) = s := ⟨_, rfl⟩
    rw [hs] at hx hsk
    have hmem : s ∈ l2 := hsk ▸ List.getElem_mem hlt
    obtain ⟨⟨⟨kk, hn⟩, wd, wz, hsz⟩, -⟩ := HW2.out s hmem
    have hq := HH.out
    have htk : l2.take (k + 1) = l2.take k ++ [s] := by rw [List.take_succ_eq_append_getElem hlt, hsk]
    have hml : (l2.take k).length < maxLen := by rw [List.length_take]; omega
    have hcl : c.length < maxLen := by omega
    rw [List.drop_eq_getElem_cons hlt, hsk, reC, ← htk] at hq
    obtain ⟨d, z, hdz⟩ : ∃ d z, nm s = (d, z) := ⟨_, _, rfl⟩
    have hnm := Aside0.mk hdz
    rw [hdz] at hn wd wz hq
    have HT := Aside0.mk htk
    have HN := Aside0.mk hn
    have HD := Aside0.mk wd
    have HZ := Aside0.mk wz
    have HSZ := Aside0.mk hsz
    have HML := Aside0.mk hml
    have HCL := Aside0.mk hcl
    have HCK := Aside0.mk hck
    clear hs hsk hmem hn htk hml hdz wd wz hsz HH hcl hck
    generalize hgl : l2.take k = lk at HS HT HML hq
    have HGL := Aside0.mk hgl
    clear hgl
    cases hlo : lookS lk d z with
    | none =>
     have hf : map_look.f lk d z = some (⟨#[]⟩, false) := by unfold map_look.f; rw [hlo]
     simp only [hlo] at hq
     have HLF := Aside0.mk hf
     have HQ := Aside0.mk hq
     clear hf hq hlo
     go_wp2_with (first | (go_at_call 62; with_reducible refine (manifest_nameOf.calls kk s d z _ HN.out).mono ?_; rintro e w2 ⟨rfl, hb⟩; have n_ := Aside0.mk (HS.out.below hb); clear HS; have HS := n_; clear n_; clear hb) | (at_lookup; refine wpList_look_S _ rfl _ _ 93 rfl Try.underlying93 gm lk d z ⟨#[]⟩ false rfl (HS.out.m.alloc _) rfl HD.out HZ.out HLF.out ?_) | (at_mapUpdate; refine wpList_put_S _ rfl _ _ _ 93 rfl Try.underlying93 gm lk d z s rfl (HS.out.m.alloc _) rfl rfl HD.out HZ.out hnm.out HML.out HSZ.out ?_; intro w3 hM3 hg3; have n_ := Aside0.mk (ReM.putS (HS.out.alloc (.cells #[.int .i64 d, .int .i64 z] 78)) hM3 hg3); clear HS; have HS := n_; clear n_; clear hM3 hg3))
     go_roundw
     case rel => exact ⟨k + 1, c, by omega, by simp, ⟨by rw [HT.out]; exact HS.out⟩, HQ, by have := HCK.out; omega⟩
     case measure => simp only [intOf]; omega
    | some t =>
     have hf : map_look.f lk d z = some (t, true) := by unfold map_look.f; rw [hlo]
     simp only [hlo] at hq
     have HLF := Aside0.mk hf
     clear hf hlo
     by_cases hts : t.toList = s.toList
     ·rw [if_pos hts] at hq
      have HQ := Aside0.mk hq
      have hb1 : (t.toList == s.toList) = true := beq_iff_eq.mpr hts
      have hb2 : (t.toList != s.toList) = false := bne_eq_false_iff_eq.mpr hts
      clear hq hts
      go_wp2_with (first | (go_at_call 62; with_reducible refine (manifest_nameOf.calls kk s d z _ HN.out).mono ?_; rintro e w2 ⟨rfl, hb⟩; have n_ := Aside0.mk (HS.out.below hb); clear HS; have HS := n_; clear n_; clear hb) | (at_lookup; refine wpList_look_S _ rfl _ _ 93 rfl Try.underlying93 gm lk d z t true rfl (HS.out.m.alloc _) rfl HD.out HZ.out HLF.out ?_) | (at_mapUpdate; refine wpList_put_S _ rfl _ _ _ 93 rfl Try.underlying93 gm lk d z s rfl (HS.out.m.alloc _) rfl rfl HD.out HZ.out hnm.out HML.out HSZ.out ?_; intro w3 hM3 hg3; have n_ := Aside0.mk (ReM.putS (HS.out.alloc (.cells #[.int .i64 d, .int .i64 z] 78)) hM3 hg3); clear HS; have HS := n_; clear n_; clear hM3 hg3))
      go_roundw
      case rel => exact ⟨k + 1, c, by omega, by simp, ⟨by rw [HT.out]; exact HS.out⟩, HQ, by have := HCK.out; omega⟩
      case measure => simp only [intOf]; omega
     ·rw [if_neg hts] at hq
      have HQ := Aside0.mk hq
      have hb1 : (t.toList == s.toList) = false := beq_eq_false_iff_ne.mpr hts
      have hb2 : (t.toList != s.toList) = true := bne_iff_ne.mpr hts
      clear hq hts
      go_wp2_with (first | (go_at_call 62; with_reducible refine (manifest_nameOf.calls kk s d z _ HN.out).mono ?_; rintro e w2 ⟨rfl, hb⟩; have n_ := Aside0.mk (HS.out.below hb); clear HS; have HS := n_; clear n_; clear hb) | (at_lookup; refine wpList_look_S _ rfl _ _ 93 rfl Try.underlying93 gm lk d z t true rfl (HS.out.m.alloc _) rfl HD.out HZ.out HLF.out ?_) | (at_mapUpdate; refine wpList_put_B _ rfl _ _ _ 96 rfl Try.underlying96 gc c d z rfl (HS.out.mb.alloc _) rfl rfl HD.out HZ.out HCL.out ?_; intro w8 hM3 hg3; have B12 := Aside0.mk (blk_grown (heap_alloc_new w2 (.cells #[.int .i64 d, .int .i64 z] 78)) hg3 (by obtain ⟨es_, n_, q_⟩ := (HS.out.mb.alloc (.cells #[.int .i64 d, .int .i64 z] 78)).obj; exact map_ne_blk q_ (heap_alloc_new w2 (.cells #[.int .i64 d, .int .i64 z] 78)))); have n_ := Aside0.mk (ReM.putB (HS.out.alloc (.cells #[.int .i64 d, .int .i64 z] 78)) hM3 hg3); clear HS; have HS := n_; clear n_; clear hM3 hg3; have hc12_0 : w8.cell? ⟨w2.heap.size, 0, none⟩ = some (.int .i64 d) := (blk_cell B12.out 0).trans rfl; have hc12_1 : w8.cell? ⟨w2.heap.size, 1, none⟩ = some (.int .i64 z) := (blk_cell B12.out 1).trans rfl) | (at_mapUpdate; refine wpList_put_S _ rfl _ _ _ 93 rfl Try.underlying93 gm lk d z s rfl HS.out.m rfl rfl HD.out HZ.out hnm.out HML.out HSZ.out ?_; intro w3 hM3 hg3; have n_ := Aside0.mk (ReM.putS HS.out hM3 hg3); clear HS; have HS := n_; clear n_; clear hM3 hg3 hc12_0 hc12_1))
      go_roundw
      case rel => exact ⟨k + 1, c ++ [(d, z)], by omega, by simp, ⟨by rw [HT.out]; exact HS.out⟩, HQ, by have := HCK.out; simp only [List.length_append, List.length_singleton]; omega⟩
      case measure => simp only [intOf]; omega
   case neg =>
    obtain rfl : k = l2.length := by omega
    rw [List.take_length] at HS
    have hq := HH.out
    rw [List.take_length, List.drop_length, reC] at hq
    have HQ : Aside0 (reGo l2 c (([] : List UInt8)) (l1.drop 0) = (r1, r2)) := ⟨hq⟩
    clear HH hq hlt hk
    have hc2_0 : wr.cell? ⟨g2, 0, none⟩ = some (.int .i64 a0) := (blk_cell HS.out.b2 0).trans rfl
    have hc2_1 : wr.cell? ⟨g2, 1, none⟩ = some (.slice A1 l1.length c1) := (blk_cell HS.out.b2 1).trans rfl
    go_wp2_with (first | ((with_reducible refine gate_dst (N := 14) rfl ?_); refine Kd.event_run ?hg (v := .pointer (some ⟨wr.heap.size, 0, none⟩)) (w1 := wr.alloc (.cells #[.pointer none, .slice none 0 0] 99)) ?hr ?_; (case hg => rfl); (case hr => first | (go_simp; done) | (go_simp; rfl)); obtain ⟨gB, hgB⟩ : ∃ g_, wr.heap.size = g_ := ⟨_, rfl⟩; obtain ⟨w9, hw9⟩ : ∃ w_, wr.alloc (.cells #[.pointer none, .slice none 0 0] 99) = w_ := ⟨_, rfl⟩; have n_ : Aside0 (ReW w w9 g2 gm gc gB a0 (.slice A1 l1.length c1) l2 c []) := ⟨by rw [← hw9, ← hgB]; exact ⟨HS.out.alloc _, Lib.fresh_isBuilder 99 5 wr, blk_lt HS.out.b2, HS.out.m.lt, HS.out.mb.lt, HS.out.hb.size, by rw [World.size_alloc]; exact Nat.le_succ _⟩⟩; rw [hw9, hgB]; clear HS hc2_0 hc2_1 hw9 hgB; have HS := n_; clear n_; have hc2_0 : w9.cell? ⟨g2, 0, none⟩ = some (.int .i64 a0) := (blk_cell HS.out.r.b2 0).trans rfl; have hc2_1 : w9.cell? ⟨g2, 1, none⟩ = some (.slice A1 l1.length c1) := (blk_cell HS.out.r.b2 1).trans rfl))
    go_loopw [55] (fun v55 wr => ∃ (k : Nat) (acc : List UInt8), k ≤ l1.length ∧ v55 = .int .i64 k ∧ Aside0 (ReW w wr g2 gm gc gB a0 (.slice A1 l1.length c1) l2 c acc) ∧ Aside0 (reGo l2 c acc (l1.drop k) = (r1, r2)) ∧ acc.length ≤ k * 1000000) (fun v55 _ => l1.length - (intOf v55).toNat)
    case atStart => exact ⟨0, [], Nat.zero_le _, rfl, HS, HQ, Nat.zero_le _⟩
    case round =>
     clear HS HQ
     obtain ⟨k, acc, hk, rfl, HS, HQ, hacc⟩ := hrel
     by_cases hlt : k < l1.length
     case pos =>
      obtain ⟨ad, ead, hx0, hx1⟩ := at_T78 HR1.out (k : Int) (by omega) (by omega)
      cases ead
      replace hx0 := (HS.out.r.hb.cell (World.block_lt_of_cell? w _ hx0)).trans hx0
      replace hx1 := (HS.out.r.hb.cell (World.block_lt_of_cell? w _ hx1)).trans hx1
      simp only [Int.toNat_natCast] at hx0 hx1
      have hsk : l1[k] = rd_T78 l1 (k : Int) := by simp [rd_T78, List.getD, hlt]
      obtain ⟨wd, wz, wb⟩ := HW1.out (l1[k]) (List.getElem_mem hlt)
      have hq := HQ.out
      rw [List.drop_eq_getElem_cons hlt, reGo] at hq
      rw [hsk] at hq wd wz wb
      obtain ⟨d, hd⟩ : ∃ d, (rd_T78 l1 (k : Int)).f0 = d := ⟨_, rfl⟩
      obtain ⟨z, hz⟩ : ∃ z, (rd_T78 l1 (k : Int)).f1 = z := ⟨_, rfl⟩
      rw [hd] at hx0 hq wd
      rw [hz] at hx1 hq wz wb
      have HWB := Aside0.mk wb
      have HD := Aside0.mk wd
      have HZ := Aside0.mk wz
      have HAC := Aside0.mk hacc
      clear hsk hd hz wd wz wb hacc HQ
      cases hlo : lookS l2 d z with
      | none =>
       have hf : map_look.f l2 d z = some (⟨#[]⟩, false) := by unfold map_look.f; rw [hlo]
       simp only [hlo, Prod.mk.injEq] at hq
       obtain ⟨rfl, rfl⟩ := hq
       have HLF := Aside0.mk hf
       clear hf hlo
       go_wp2_with (first | (at_lookup; refine wpList_look_S _ rfl _ _ 93 rfl Try.underlying93 gm l2 d z ⟨#[]⟩ false rfl (HS.out.r.m.alloc _) rfl HD.out HZ.out HLF.out ?_))
       go_ret2
       exact ⟨rfl, below_alloc HS.out.r.hb _⟩
      | some t =>
       have hf : map_look.f l2 d z = some (t, true) := by unfold map_look.f; rw [hlo]
       have hts : t.size ≤ 1000000 := by
        have h1_ := (HW2.out t (by
         unfold lookS at hlo
         have := List.mem_of_find?_eq_some hlo
         simpa using this)).2
        rw [lookS_of_nm hlo] at h1_
        have := HWB.out
        simp only at h1_
        omega
       simp only [hlo] at hq
       have HLF := Aside0.mk hf
       clear hf hlo
       by_cases hcl : (d, z) ∈ c
       ·rw [if_pos hcl] at hq
        simp only [Prod.mk.injEq] at hq
        obtain ⟨rfl, rfl⟩ := hq
        have HCB := Aside0.mk (decide_eq_true hcl)
        clear hcl
        go_wp2_with (first | (at_lookup; refine wpList_look_S _ rfl _ _ 93 rfl Try.underlying93 gm l2 d z t true rfl (HS.out.r.m.alloc _) rfl HD.out HZ.out HLF.out ?_; have hlk := (HS.out.r.mb.alloc (.cells #[.int .i64 d, .int .i64 z] 78)).look HD.out HZ.out 96 Try.underlying96; rw [HCB.out] at hlk))
        go_ret2
        exact ⟨rfl, below_alloc HS.out.r.hb _⟩
       ·rw [if_neg hcl] at hq
        have HQ := Aside0.mk hq
        have HCB := Aside0.mk (decide_eq_false hcl)
        have HTS := Aside0.mk hts
        clear hcl hq hts
        go_wp2_with (first | (at_lookup; refine wpList_look_S _ rfl _ _ 93 rfl Try.underlying93 gm l2 d z t true rfl (HS.out.r.m.alloc _) rfl HD.out HZ.out HLF.out ?_; have hlk := (HS.out.r.mb.alloc (.cells #[.int .i64 d, .int .i64 z] 78)).look HD.out HZ.out 96 Try.underlying96; rw [HCB.out] at hlk) | (go_at_call 63; refine (write_any gB gB (Lib.byteCells acc) t _ (HS.out.alloc _).bu ?hL (HS.out.alloc _).ks).mono ?_; (case hL => rw [Lib.byteCells_length]; have := HAC.out; have := HTS.out; omega); rintro e w10 ⟨rfl, hu, hb⟩; rw [byteCells_str] at hu; have n_ := Aside0.mk (ReW.write (HS.out.alloc (.cells #[.int .i64 d, .int .i64 z] 78)) hb hu); clear HS; have HS := n_; clear n_; clear hu hb hlk))
        go_roundw
        case rel => exact ⟨k + 1, _, by omega, by simp, HS, HQ, by have := HAC.out; have := HTS.out; have h2_ : t.data.toList.length = t.size := data_length t; rw [List.length_append]; omega⟩
        case measure => simp only [intOf]; omega
     case neg =>
      obtain rfl : k = l1.length := by omega
      have hq := HQ.out
      rw [List.drop_length, reGo, Prod.mk.injEq] at hq
      obtain ⟨rfl, rfl⟩ := hq
      clear HQ
      go_wp2_with (first | (go_at_call 64; refine (string_any gB gB acc _ HS.out.bu HS.out.ks).mono ?_; rintro e w11 ⟨rfl, hb⟩; have HB2 := Aside0.mk (HS.out.r.low hb HS.out.k2 HS.out.km HS.out.kc HS.out.kw).hb; clear HS hb))
      go_ret2
      exact ⟨rfl, HB2.out⟩
end Go.Proofs.Ytodhkbahjomfhaa.Q

namespace Go.Proofs.Ytodhkbahjomfhaa.Q
open Go.RowKit Go.Proofs.YtodhkbahjomfhaaW.PrintWords Go.Proofs.YtodhkbahjomfhaaW.PrintLast Go.Proofs.YtodhkbahjomfhaaW.PrintMore Go.Proofs.Ytodhkbahjomfhaa.Gput Go.Proofs.Ytodhkbahjomfhaa.Gputl
attribute [local go_sem] max2_int min2_int max_two min_two max_three min_three max_four min_four   -- for this text's walks alone
set_option linter.unusedVariables false
set_option linter.unusedSimpArgs false
noncomputable def manifest_Size.l0 : Nat → Int → List (S78) → Int → Int → Option (Int × Int)
 | 0, _, _, _, _ => none
 | k + 1, x5, x14, x15, x16 => if x16 < x15 then (if 0 ≤ x16 then (if x16 < (x14.length : Int) then (manifest_Size.l0 k (wrap64 (x5 + ((rd_T78 x14 x16).f1))) x14 x15 (wrap64 (x16 + 1))) else (none)) else (none)) else (some (x5, 0))
noncomputable def manifest_Size.f (k : Nat) (a0_0 : Int) (l0_1 : List (S78)) : Option (Int × Int) := (manifest_Check.f k a0_0 l0_1).bind fun t125 => (if t125 = 0 then (manifest_Size.l0 k 0 l0_1 (l0_1.length : Int) 0) else (some (0, t125)))
set_option maxHeartbeats 8000000 in
set_option maxRecDepth 100000 in
theorem manifest_Size.calls (k : Nat) (a0_0 : Int) (A0_1 : Option Addr) (c0_1 : Nat) (l0_1 : List (S78)) (r1 : Int) (r2 : Int) (w : World) (hr0_1 : Kd.C k78 w A0_1 l0_1.length l0_1) (hc0_1 : l0_1.length ≤ c0_1) (h : manifest_Size.f k a0_0 l0_1 = some (r1, r2)) :
 Calls Try.prog 22 #[.agg #[.int .i64 a0_0, .slice A0_1 l0_1.length c0_1]] w fun e w' => e = .returned (.tuple #[.int .i64 r1, .int .i64 r2]) ∧ Below w.heap.size w w' := by
 have hu32 := Try.underlying32
 have hu78 := Try.underlying78
 have HR0_1 := Aside0.mk hr0_1
 have HC0_1 := Aside0.mk hc0_1
 clear hr0_1 hc0_1
 have HB := Aside0.mk (Below.refl w.heap.size w)
 have H : ((manifest_Check.f k a0_0 l0_1).bind fun t125 => (if t125 = 0 then (manifest_Size.l0 k 0 l0_1 (l0_1.length : Int) 0) else (some (0, t125)))) = some (r1, r2) := h
 clear h
 replace H := Option.bind_eq_some_iff.mp H
 obtain ⟨t125, A20, H⟩ := H
 replace H : (if t125 = 0 then (manifest_Size.l0 k 0 l0_1 (l0_1.length : Int) 0) else (some (0, t125))) = some (r1, r2) := H
 have A2 := Aside0.mk A20
 clear A20
 by_cases c3 : t125 = 0
 ·rw [if_pos c3] at H
  have c3b0 : (t125 == 0) = true := beq_iff_eq.mpr c3
  have c3b1 : (t125 != 0) = false := bne_eq_false_iff_eq.mpr c3
  clear c3
  have H' := Aside0.mk H
  clear H
  go_enter Try.func22, Try.ntmps22
  go_wp2_with (first | ((with_reducible refine gate_dst (N := 1) rfl ?_); refine box_event ?hg (N := 1) ?hd (cs := #[.int .i64 a0_0, .slice A0_1 l0_1.length c0_1]) (t := 32) ?hr ?_; (case hd => rfl); (case hg => rfl); (case hr => first | (go_simp; done) | (go_simp; rfl)); intro gb124 hg w4 hbox hb; have n0_ := Aside0.mk (below_step (by repeat (first | (with_reducible first | exact HB.out | apply below_alloc | apply pw_below_drewN | apply below_drew1) | exact HB.out)) hb); have n1_ := Aside0.mk (hbox); have n2_ := Aside0.mk ((by rw [hg]; exact (below_size (by repeat (first | (with_reducible first | exact HB.out | apply below_alloc | apply pw_below_drewN | apply below_drew1) | exact HB.out))) : w.heap.size ≤ gb124)); have n3_ := Aside0.mk ((by rw [hg]; exact (below_size (by repeat (first | (with_reducible first | exact HB.out | apply below_alloc | apply pw_below_drewN | apply below_drew1) | exact HB.out))) : w.heap.size ≤ gb124)); clear HB; have HB := n0_; have BK124 := n1_; have GW124 := n2_; have GE124 := n3_; clear n0_ n1_ n2_ n3_; clear hb hbox hg; have hcz5_0 : w4.cell? ⟨gb124, 0, none⟩ = some (.int .i64 a0_0) := (blk_cell BK124.out 0).trans rfl; have hcz5_1 : w4.cell? ⟨gb124, 1, none⟩ = some (.slice A0_1 l0_1.length c0_1) := (blk_cell BK124.out 1).trans rfl; have hfz5_0 := blk_frozen BK124.out 0; have hfz5_1 := blk_frozen BK124.out 1) | ((with_reducible refine gate_callee (f := 56) rfl ?_); refine goesL_ (some 9) rfl rfl Try.func56 (by kernel_rfl) rfl #[.agg #[.int .i64 a0_0, .slice A0_1 l0_1.length c0_1]] rfl (by (try simp only [List.map_toArray, List.map_cons, List.map_nil]); first | done | rfl | (simp only [List.length_drop, List.length_take]; rfl)) ?_; (with_reducible refine (manifest_Check.calls k a0_0 _ _ l0_1 t125 _ ?side1 ?side2 A2.out).mono ?_); (case side1 => repeat (first | exact (Kd.C_below HR0_1.out HB.out) | (with_reducible refine Kd.C_alloc ?_ _) | (with_reducible refine Kd.C_drewN ?_ _) | (with_reducible refine Kd.C_drew ?_))); (case side2 => exact HC0_1.out); rintro e w6 ⟨rfl, hb⟩; refine ⟨_, rfl, ?_⟩; have n0_ := Aside0.mk (blk_below (g := gb124) (o := .cells #[.int .i64 a0_0, .slice A0_1 l0_1.length c0_1] 32 (0, 0)) (by (with_reducible repeat (first | refine blk_drewN ?_ _ | refine blk_drew ?_ | refine blk_alloc ?_ _)); exact BK124.out) hb); have n1_ := Aside0.mk (below_step (by repeat (first | (with_reducible first | exact HB.out | apply below_alloc | apply pw_below_drewN | apply below_drew1 | refine below_set ?_ GE124.out) | exact HB.out)) hb); clear BK124; clear HB; have BK124 := n0_; have HB := n1_; clear n0_ n1_; (try clear hb); (try clear hb2); (try clear hk); (try clear hi); have hcz7_0 : w6.cell? ⟨gb124, 0, none⟩ = some (.int .i64 a0_0) := (blk_cell BK124.out 0).trans rfl; have hcz7_1 : w6.cell? ⟨gb124, 1, none⟩ = some (.slice A0_1 l0_1.length c0_1) := (blk_cell BK124.out 1).trans rfl; have hfz7_0 := blk_frozen BK124.out 0; have hfz7_1 := blk_frozen BK124.out 1))
  go_loopg [5, 16] k (fun kq v5 v16 w' => ∃ (x5_1 : Int) (x16_1 : Int), v5 = .int .i64 x5_1 ∧ v16 = .int .i64 x16_1 ∧ Aside0 (manifest_Size.l0 kq x5_1 l0_1 (l0_1.length : Int) x16_1 = some (r1, r2)) ∧ Aside0 (kq ≤ k) ∧ Aside0 (w'.heap[gb124]? = some (.cells #[.int .i64 a0_0, (.slice A0_1 l0_1.length c0_1)] 32 (0, 0))) ∧ Aside0 (Below w.heap.size w w'))
  case atStart => exact ⟨(0), (0), (by first | rfl | (simp; done) | (simp [*]; done)), (by first | rfl | (simp; done) | (simp [*]; done)), H', ⟨Nat.le_refl _⟩, ⟨by (with_reducible repeat (first | refine blk_drewN ?_ _ | refine blk_drew ?_ | refine blk_alloc ?_ _)); exact BK124.out⟩, ⟨by repeat (first | (with_reducible first | exact HB.out | apply below_alloc | apply pw_below_drewN | apply below_drew1 | refine below_set ?_ GE124.out) | exact HB.out)⟩⟩
  case round =>
   clear H'
   try clear c2
   try clear p2
   try clear c3
   try clear c3b0
   try clear c3b1
   try clear c5
   try clear hcz5_0
   try clear hcz5_1
   try clear hcz7_0
   try clear hcz7_1
   try clear hfz5_0
   try clear hfz5_1
   try clear hfz7_0
   try clear hfz7_1
   obtain ⟨x5_1, x16_1, rfl, rfl, HA, HK1, BK124, HB⟩ := hrel
   cases gk with
   | zero => exact absurd HA.out (by simp [manifest_Size.l0])
   | succ k1 =>
    have H := HA.out
    clear HA
    simp only [manifest_Size.l0] at H
    by_cases c8 : x16_1 < (l0_1.length : Int)
    ·rw [if_pos c8] at H
     have c8b0 : decide (x16_1 < (l0_1.length : Int)) = true := decide_eq_true c8
     clear c8
     by_cases c9 : 0 ≤ x16_1
     ·rw [if_pos c9] at H
      have c9b0 : decide (0 ≤ x16_1) = true := decide_eq_true c9
      clear c9
      by_cases c10 : x16_1 < (l0_1.length : Int)
      ·rw [if_pos c10] at H
       have c10b0 : decide (x16_1 < (l0_1.length : Int)) = true := decide_eq_true c10
       clear c10
       have H' := Aside0.mk H
       clear H
       have p126 : 0 ≤ (x16_1 : Int) := of_decide_eq_true (by first | (with_reducible assumption) | assumption)
       have q126 : x16_1 < (l0_1.length : Int) := of_decide_eq_true (by first | (with_reducible assumption) | assumption)
       obtain ⟨ad126, e126, hx126_0, hx126_1⟩ := at_T78 HR0_1.out x16_1 p126 q126
       cases e126
       replace hx126_0 := (HB.out.cell (World.block_lt_of_cell? w _ hx126_0)).trans hx126_0
       replace hx126_1 := (HB.out.cell (World.block_lt_of_cell? w _ hx126_1)).trans hx126_1
       replace p126 := eq_true p126
       replace q126 := eq_true q126
       go_wp2_with (first | ((with_reducible refine gate_dst (N := 7) rfl ?_); refine box_event ?hg (N := 7) ?hd (cs := #[.int .i64 0, .int .i64 0]) (t := 78) ?hr ?_; (case hd => rfl); (case hg => rfl); (case hr => first | (go_simp; done) | (go_simp; rfl)); intro gb127 hg w11 hbox hb; have n0_ := Aside0.mk (blk_below (g := gb124) (o := .cells #[.int .i64 a0_0, .slice (some ad126) l0_1.length c0_1] 32 (0, 0)) (by (with_reducible repeat (first | refine blk_drewN ?_ _ | refine blk_drew ?_ | refine blk_alloc ?_ _)); exact BK124.out) hb); have n1_ := Aside0.mk (below_step (by repeat (first | (with_reducible first | exact HB.out | apply below_alloc | apply pw_below_drewN | apply below_drew1 | refine below_set ?_ GE124.out) | exact HB.out)) hb); have n2_ := Aside0.mk (hbox); have n3_ := Aside0.mk ((by rw [hg]; exact (below_size (by repeat (first | (with_reducible first | exact HB.out | apply below_alloc | apply pw_below_drewN | apply below_drew1 | refine below_set ?_ GE124.out) | exact HB.out))) : w.heap.size ≤ gb127)); have n4_ := Aside0.mk ((by rw [hg]; exact (below_size (by repeat (first | (with_reducible first | exact HB.out | apply below_alloc | apply pw_below_drewN | apply below_drew1 | refine below_set ?_ GE124.out) | exact HB.out))) : w.heap.size ≤ gb127)); have n5_ := Aside0.mk ((by rw [hg]; exact Nat.ne_of_lt (blk_lt (g := gb124) (o := .cells #[.int .i64 a0_0, .slice (some ad126) l0_1.length c0_1] 32 (0, 0)) (by (with_reducible repeat (first | refine blk_drewN ?_ _ | refine blk_drew ?_ | refine blk_alloc ?_ _)); exact BK124.out)) : gb124 ≠ gb127)); have n6_ := Aside0.mk ((by rw [hg]; exact Nat.ne_of_gt (blk_lt (g := gb124) (o := .cells #[.int .i64 a0_0, .slice (some ad126) l0_1.length c0_1] 32 (0, 0)) (by (with_reducible repeat (first | refine blk_drewN ?_ _ | refine blk_drew ?_ | refine blk_alloc ?_ _)); exact BK124.out)) : gb127 ≠ gb124)); clear BK124; clear HB; have BK124 := n0_; have HB := n1_; have BK127 := n2_; have GW127 := n3_; have GE127 := n4_; have NB124_127 := n5_; have NB127_124 := n6_; clear n0_ n1_ n2_ n3_ n4_ n5_ n6_; clear hb hbox hg; have hnb12 := NB127_124.out; have hnc12 := NB124_127.out; have hcz13_0 : w11.cell? ⟨gb127, 0, none⟩ = some (.int .i64 0) := (blk_cell BK127.out 0).trans rfl; have hcz13_1 : w11.cell? ⟨gb127, 1, none⟩ = some (.int .i64 0) := (blk_cell BK127.out 1).trans rfl; have hfz13_0 := blk_frozen BK127.out 0; have hfz13_1 := blk_frozen BK127.out 1))
       go_roundg k1
       case measure => have := HK1.out; omega
       case rel => exact ⟨(wrap64 (x5_1 + ((rd_T78 l0_1 x16_1).f1))), (wrap64 (x16_1 + 1)), (by first | rfl | (simp; done) | (simp [*]; done)), (by first | rfl | (simp; done) | (simp [*]; done)), H', ⟨by have := HK1.out; omega⟩, ⟨by (with_reducible repeat (first | refine blk_drewN ?_ _ | refine blk_drew ?_ | refine blk_alloc ?_ _)); refine blk_far ?_ NB124_127.out _; (with_reducible repeat (first | refine blk_drewN ?_ _ | refine blk_drew ?_ | refine blk_alloc ?_ _)); refine blk_far ?_ NB124_127.out _; (with_reducible repeat (first | refine blk_drewN ?_ _ | refine blk_drew ?_ | refine blk_alloc ?_ _)); exact BK124.out⟩, ⟨by repeat (first | (with_reducible first | exact HB.out | apply below_alloc | apply pw_below_drewN | apply below_drew1 | refine below_set ?_ GE124.out | refine below_set ?_ GE127.out) | exact HB.out)⟩⟩
      ·rw [if_neg c10] at H
       exact absurd H (by simp)
     ·rw [if_neg c9] at H
      exact absurd H (by simp)
    ·rw [if_neg c8] at H
     have c8b0 : decide (x16_1 < (l0_1.length : Int)) = false := decide_eq_false c8
     clear c8
     simp only [Option.some.injEq, Prod.mk.injEq] at H
     obtain ⟨rfl, rfl⟩ := H
     go_wp2
     go_ret2
     exact ⟨by first | rfl | (simp [errW_none, errW_some] <;> rfl) | (simp [*, errW_none, errW_some] <;> rfl), by repeat (first | (with_reducible first | exact HB.out | apply below_alloc | apply pw_below_drewN | apply below_drew1 | refine below_set ?_ GE124.out) | exact HB.out)⟩
 ·rw [if_neg c3] at H
  have c3b0 : (t125 == 0) = false := beq_eq_false_iff_ne.mpr c3
  have c3b1 : (t125 != 0) = true := bne_iff_ne.mpr c3
  simp only [Option.some.injEq, Prod.mk.injEq] at H
  obtain ⟨rfl, rfl⟩ := H
  go_enter Try.func22, Try.ntmps22
  go_wp2_with (first | ((with_reducible refine gate_dst (N := 1) rfl ?_); refine box_event ?hg (N := 1) ?hd (cs := #[.int .i64 a0_0, .slice A0_1 l0_1.length c0_1]) (t := 32) ?hr ?_; (case hd => rfl); (case hg => rfl); (case hr => first | (go_simp; done) | (go_simp; rfl)); intro gb124 hg w14 hbox hb; have n0_ := Aside0.mk (below_step (by repeat (first | (with_reducible first | exact HB.out | apply below_alloc | apply pw_below_drewN | apply below_drew1) | exact HB.out)) hb); have n1_ := Aside0.mk (hbox); have n2_ := Aside0.mk ((by rw [hg]; exact (below_size (by repeat (first | (with_reducible first | exact HB.out | apply below_alloc | apply pw_below_drewN | apply below_drew1) | exact HB.out))) : w.heap.size ≤ gb124)); have n3_ := Aside0.mk ((by rw [hg]; exact (below_size (by repeat (first | (with_reducible first | exact HB.out | apply below_alloc | apply pw_below_drewN | apply below_drew1) | exact HB.out))) : w.heap.size ≤ gb124)); clear HB; have HB := n0_; have BK124 := n1_; have GW124 := n2_; have GE124 := n3_; clear n0_ n1_ n2_ n3_; clear hb hbox hg; have hcz15_0 : w14.cell? ⟨gb124, 0, none⟩ = some (.int .i64 a0_0) := (blk_cell BK124.out 0).trans rfl; have hcz15_1 : w14.cell? ⟨gb124, 1, none⟩ = some (.slice A0_1 l0_1.length c0_1) := (blk_cell BK124.out 1).trans rfl; have hfz15_0 := blk_frozen BK124.out 0; have hfz15_1 := blk_frozen BK124.out 1) | ((with_reducible refine gate_callee (f := 56) rfl ?_); refine goesL_ (some 9) rfl rfl Try.func56 (by kernel_rfl) rfl #[.agg #[.int .i64 a0_0, .slice A0_1 l0_1.length c0_1]] rfl (by (try simp only [List.map_toArray, List.map_cons, List.map_nil]); first | done | rfl | (simp only [List.length_drop, List.length_take]; rfl)) ?_; (with_reducible refine (manifest_Check.calls k a0_0 _ _ l0_1 t125 _ ?side1 ?side2 A2.out).mono ?_); (case side1 => repeat (first | exact (Kd.C_below HR0_1.out HB.out) | (with_reducible refine Kd.C_alloc ?_ _) | (with_reducible refine Kd.C_drewN ?_ _) | (with_reducible refine Kd.C_drew ?_))); (case side2 => exact HC0_1.out); rintro e w16 ⟨rfl, hb⟩; refine ⟨_, rfl, ?_⟩; have n0_ := Aside0.mk (blk_below (g := gb124) (o := .cells #[.int .i64 a0_0, .slice A0_1 l0_1.length c0_1] 32 (0, 0)) (by (with_reducible repeat (first | refine blk_drewN ?_ _ | refine blk_drew ?_ | refine blk_alloc ?_ _)); exact BK124.out) hb); have n1_ := Aside0.mk (below_step (by repeat (first | (with_reducible first | exact HB.out | apply below_alloc | apply pw_below_drewN | apply below_drew1 | refine below_set ?_ GE124.out) | exact HB.out)) hb); clear BK124; clear HB; have BK124 := n0_; have HB := n1_; clear n0_ n1_; (try clear hb); (try clear hb2); (try clear hk); (try clear hi)))
  go_ret2
  exact ⟨by first | rfl | (simp [errW_none, errW_some] <;> rfl) | (simp [*, errW_none, errW_some] <;> rfl), by repeat (first | (with_reducible first | exact HB.out | apply below_alloc | apply pw_below_drewN | apply below_drew1 | refine below_set ?_ GE124.out) | exact HB.out)⟩
end Go.Proofs.Ytodhkbahjomfhaa.Q

namespace Go.Proofs.Ytodhkbahjomfhaa.Q
open Go.RowKit Go.Proofs.YtodhkbahjomfhaaW.PrintWords Go.Proofs.YtodhkbahjomfhaaW.PrintLast Go.Proofs.YtodhkbahjomfhaaW.PrintMore Go.Proofs.Ytodhkbahjomfhaa.Gput Go.Proofs.Ytodhkbahjomfhaa.Gputl
attribute [local go_sem] max2_int min2_int max_two min_two max_three min_three max_four min_four   -- for this text's walks alone
set_option linter.unusedVariables false
set_option linter.unusedSimpArgs false
noncomputable def manifest_Encode.l0 : Nat → List Int → List (S78) → Int → Int → Int → List (S78) → Option (ByteArray × Int)
 | 0, _, _, _, _, _, _ => none
 | k + 1, x5, x14, x15, x16, x129000, x129001 => if x16 < x15 then (if 0 ≤ x16 then (if x16 < (x14.length : Int) then ((some (([(rd_T78 x14 x16).f0, (rd_T78 x14 x16).f1] : List Int) : List Int)).bind fun y132 => (if x5.length + y132.length < 17592186044416 then (manifest_Encode.l0 k (x5 ++ y132) x14 x15 (wrap64 (x16 + 1)) x129000 x129001) else (none))) else (none)) else (none)) else ((wire_PutInt.f (⟨#[]⟩ : ByteArray) x129000).bind fun t138 => ((wire_PutList.f t138 x5).bind fun t139 => (some (t139, 0))))
noncomputable def manifest_Encode.f (k : Nat) (a0_0 : Int) (l0_1 : List (S78)) : Option (ByteArray × Int) := (manifest_Check.f k a0_0 l0_1).bind fun t129 => (if t129 = 0 then (manifest_Encode.l0 k ([] : List Int) l0_1 (l0_1.length : Int) 0 a0_0 l0_1) else (some ((⟨#[]⟩ : ByteArray), t129)))
set_option maxHeartbeats 8000000 in
set_option maxRecDepth 100000 in
theorem manifest_Encode.calls (k : Nat) (a0_0 : Int) (A0_1 : Option Addr) (c0_1 : Nat) (l0_1 : List (S78)) (r1 : ByteArray) (r2 : Int) (w : World) (hr0_1 : Kd.C k78 w A0_1 l0_1.length l0_1) (hc0_1 : l0_1.length ≤ c0_1) (h : manifest_Encode.f k a0_0 l0_1 = some (r1, r2)) :
 Calls Try.prog 38 #[.agg #[.int .i64 a0_0, .slice A0_1 l0_1.length c0_1]] w fun e w' => e = .returned (.tuple #[.string r1, .int .i64 r2]) ∧ Below w.heap.size w w' := by
 have hu32 := Try.underlying32
 have hu78 := Try.underlying78
 have HR0_1 := Aside0.mk hr0_1
 have HC0_1 := Aside0.mk hc0_1
 clear hr0_1 hc0_1
 have HB := Aside0.mk (Below.refl w.heap.size w)
 have H : ((manifest_Check.f k a0_0 l0_1).bind fun t129 => (if t129 = 0 then (manifest_Encode.l0 k ([] : List Int) l0_1 (l0_1.length : Int) 0 a0_0 l0_1) else (some ((⟨#[]⟩ : ByteArray), t129)))) = some (r1, r2) := h
 clear h
 replace H := Option.bind_eq_some_iff.mp H
 obtain ⟨t129, A20, H⟩ := H
 replace H : (if t129 = 0 then (manifest_Encode.l0 k ([] : List Int) l0_1 (l0_1.length : Int) 0 a0_0 l0_1) else (some ((⟨#[]⟩ : ByteArray), t129))) = some (r1, r2) := H
 have A2 := Aside0.mk A20
 clear A20
 by_cases c3 : t129 = 0
 ·rw [if_pos c3] at H
  have c3b0 : (t129 == 0) = true := beq_iff_eq.mpr c3
  have c3b1 : (t129 != 0) = false := bne_eq_false_iff_eq.mpr c3
  clear c3
  have H' := Aside0.mk H
  clear H
  go_enter Try.func38, Try.ntmps38
  go_wp2_with (first | ((with_reducible refine gate_dst (N := 1) rfl ?_); refine box_event ?hg (N := 1) ?hd (cs := #[.int .i64 a0_0, .slice A0_1 l0_1.length c0_1]) (t := 32) ?hr ?_; (case hd => rfl); (case hg => rfl); (case hr => first | (go_simp; done) | (go_simp; rfl)); intro gb128 hg w4 hbox hb; have n0_ := Aside0.mk (below_step (by repeat (first | (with_reducible first | exact HB.out | apply below_alloc | apply pw_below_drewN | apply below_drew1) | exact HB.out)) hb); have n1_ := Aside0.mk (hbox); have n2_ := Aside0.mk ((by rw [hg]; exact (below_size (by repeat (first | (with_reducible first | exact HB.out | apply below_alloc | apply pw_below_drewN | apply below_drew1) | exact HB.out))) : w.heap.size ≤ gb128)); have n3_ := Aside0.mk ((by rw [hg]; exact (below_size (by repeat (first | (with_reducible first | exact HB.out | apply below_alloc | apply pw_below_drewN | apply below_drew1) | exact HB.out))) : w.heap.size ≤ gb128)); clear HB; have HB := n0_; have BK128 := n1_; have GW128 := n2_; have GE128 := n3_; clear n0_ n1_ n2_ n3_; clear hb hbox hg; have hcz5_0 : w4.cell? ⟨gb128, 0, none⟩ = some (.int .i64 a0_0) := (blk_cell BK128.out 0).trans rfl; have hcz5_1 : w4.cell? ⟨gb128, 1, none⟩ = some (.slice A0_1 l0_1.length c0_1) := (blk_cell BK128.out 1).trans rfl; have hfz5_0 := blk_frozen BK128.out 0; have hfz5_1 := blk_frozen BK128.out 1) | ((with_reducible refine gate_callee (f := 56) rfl ?_); refine goesL_ (some 9) rfl rfl Try.func56 (by kernel_rfl) rfl #[.agg #[.int .i64 a0_0, .slice A0_1 l0_1.length c0_1]] rfl (by (try simp only [List.map_toArray, List.map_cons, List.map_nil]); first | done | rfl | (simp only [List.length_drop, List.length_take]; rfl)) ?_; (with_reducible refine (manifest_Check.calls k a0_0 _ _ l0_1 t129 _ ?side1 ?side2 A2.out).mono ?_); (case side1 => repeat (first | exact (Kd.C_below HR0_1.out HB.out) | (with_reducible refine Kd.C_alloc ?_ _) | (with_reducible refine Kd.C_drewN ?_ _) | (with_reducible refine Kd.C_drew ?_))); (case side2 => exact HC0_1.out); rintro e w6 ⟨rfl, hb⟩; refine ⟨_, rfl, ?_⟩; have n0_ := Aside0.mk (blk_below (g := gb128) (o := .cells #[.int .i64 a0_0, .slice A0_1 l0_1.length c0_1] 32 (0, 0)) (by (with_reducible repeat (first | refine blk_drewN ?_ _ | refine blk_drew ?_ | refine blk_alloc ?_ _)); exact BK128.out) hb); have n1_ := Aside0.mk (below_step (by repeat (first | (with_reducible first | exact HB.out | apply below_alloc | apply pw_below_drewN | apply below_drew1 | refine below_set ?_ GE128.out) | exact HB.out)) hb); clear BK128; clear HB; have BK128 := n0_; have HB := n1_; clear n0_ n1_; (try clear hb); (try clear hb2); (try clear hk); (try clear hi); have hcz7_0 : w6.cell? ⟨gb128, 0, none⟩ = some (.int .i64 a0_0) := (blk_cell BK128.out 0).trans rfl; have hcz7_1 : w6.cell? ⟨gb128, 1, none⟩ = some (.slice A0_1 l0_1.length c0_1) := (blk_cell BK128.out 1).trans rfl; have hfz7_0 := blk_frozen BK128.out 0; have hfz7_1 := blk_frozen BK128.out 1))
  go_loopg [5, 16] k (fun kq v5 v16 w' => ∃ (x5_1 : List Int) (x16_1 : Int), v16 = .int .i64 x16_1 ∧ Aside0 (manifest_Encode.l0 kq x5_1 l0_1 (l0_1.length : Int) x16_1 a0_0 l0_1 = some (r1, r2)) ∧ Aside0 (kq ≤ k) ∧ Aside0 (Kd.R (Kd.int .i64) 3 w' w.heap.size (fun _ => True) v5 x5_1) ∧ Aside0 (w'.heap[gb128]? = some (.cells #[.int .i64 a0_0, (.slice A0_1 l0_1.length c0_1)] 32 (0, 0))) ∧ Aside0 (Below w.heap.size w w'))
  case atStart => exact ⟨(([] : List Int)), (0), (by first | rfl | (simp; done) | (simp [*]; done)), H', ⟨Nat.le_refl _⟩, ⟨by first | exact Kd.R_nil _ _ _ _ _ | exact Kd.N_nil _ _ _ _ _ | exact Kd.V_nil _ _ _ _ _ | exact Kd.Q_nil _ _ _ _ _ | exact Kd.S_nil _ _ _ _ _⟩, ⟨by (with_reducible repeat (first | refine blk_drewN ?_ _ | refine blk_drew ?_ | refine blk_alloc ?_ _)); exact BK128.out⟩, ⟨by repeat (first | (with_reducible first | exact HB.out | apply below_alloc | apply pw_below_drewN | apply below_drew1 | refine below_set ?_ GE128.out) | exact HB.out)⟩⟩
  case round =>
   clear H'
   try clear p2
   try clear c3
   try clear c3b0
   try clear c3b1
   try clear c5
   try clear hcz5_0
   try clear hcz5_1
   try clear hcz7_0
   try clear hcz7_1
   try clear hfz5_0
   try clear hfz5_1
   try clear hfz7_0
   try clear hfz7_1
   obtain ⟨x5_1, x16_1, rfl, HA, HK1, HO_5, BK128, HB⟩ := hrel
   cases gk with
   | zero => exact absurd HA.out (by simp [manifest_Encode.l0])
   | succ k1 =>
    have H := HA.out
    clear HA
    simp only [manifest_Encode.l0] at H
    by_cases c8 : x16_1 < (l0_1.length : Int)
    ·rw [if_pos c8] at H
     have c8b0 : decide (x16_1 < (l0_1.length : Int)) = true := decide_eq_true c8
     clear c8
     by_cases c9 : 0 ≤ x16_1
     ·rw [if_pos c9] at H
      have c9b0 : decide (0 ≤ x16_1) = true := decide_eq_true c9
      clear c9
      by_cases c10 : x16_1 < (l0_1.length : Int)
      ·rw [if_pos c10] at H
       have c10b0 : decide (x16_1 < (l0_1.length : Int)) = true := decide_eq_true c10
       clear c10
       obtain ⟨y132, hy132⟩ : ∃ y_ : List Int, y_ = (([(rd_T78 l0_1 x16_1).f0, (rd_T78 l0_1 x16_1).f1] : List Int)) := ⟨_, rfl⟩
       replace H : (if x5_1.length + y132.length < 17592186044416 then (manifest_Encode.l0 k1 (x5_1 ++ y132) l0_1 (l0_1.length : Int) (wrap64 (x16_1 + 1)) a0_0 l0_1) else (none)) = some (r1, r2) := by first | (rw [hy132]; with_reducible exact H) | (have H2_ := (Option.bind_some _ _).symm.trans H; rw [hy132]; with_reducible exact H2_) | (have H2_ := (Option.bind_some _ _).symm.trans H; with_reducible exact H2_) | with_reducible exact H | (rw [hy132]; exact H) | exact H
       have Ny132 := Aside0.mk hy132
       clear hy132
       by_cases c11 : x5_1.length + y132.length < 17592186044416
       ·rw [if_pos c11] at H
        have LMc11 := Aside0.mk c11
        clear c11
        obtain ⟨y135, hy135⟩ : ∃ y_ : List Int, y_ = (x5_1 ++ y132) := ⟨_, rfl⟩
        replace H : (manifest_Encode.l0 k1 y135 l0_1 (l0_1.length : Int) (wrap64 (x16_1 + 1)) a0_0 l0_1) = some (r1, r2) := by first | (rw [hy135]; with_reducible exact H) | (have H2_ := (Option.bind_some _ _).symm.trans H; rw [hy135]; with_reducible exact H2_) | (have H2_ := (Option.bind_some _ _).symm.trans H; with_reducible exact H2_) | with_reducible exact H | (rw [hy135]; exact H) | exact H
        have Ny135 := Aside0.mk hy135
        clear hy135
        have H' := Aside0.mk H
        clear H
        have p130 : 0 ≤ (x16_1 : Int) := of_decide_eq_true (by first | (with_reducible assumption) | assumption)
        have q130 : x16_1 < (l0_1.length : Int) := of_decide_eq_true (by first | (with_reducible assumption) | assumption)
        obtain ⟨ad130, e130, hx130_0, hx130_1⟩ := at_T78 HR0_1.out x16_1 p130 q130
        cases e130
        replace hx130_0 := (HB.out.cell (World.block_lt_of_cell? w _ hx130_0)).trans hx130_0
        replace hx130_1 := (HB.out.cell (World.block_lt_of_cell? w _ hx130_1)).trans hx130_1
        replace p130 := eq_true p130
        replace q130 := eq_true q130
        go_wp2_with (first | ((with_reducible refine gate_dst (N := 7) rfl ?_); refine box_event ?hg (N := 7) ?hd (cs := #[.int .i64 0, .int .i64 0]) (t := 78) ?hr ?_; (case hd => rfl); (case hg => rfl); (case hr => first | (go_simp; done) | (go_simp; rfl)); intro gb131 hg w12 hbox hb; have n0_ := Aside0.mk (Kd.R_below (by (with_reducible repeat (first | apply Kd.R_alloc | apply Kd.R_drewN | apply Kd.R_drew)); exact HO_5.out) hb); have n1_ := Aside0.mk (blk_below (g := gb128) (o := .cells #[.int .i64 a0_0, .slice (some ad130) l0_1.length c0_1] 32 (0, 0)) (by (with_reducible repeat (first | refine blk_drewN ?_ _ | refine blk_drew ?_ | refine blk_alloc ?_ _)); exact BK128.out) hb); have n2_ := Aside0.mk (below_step (by repeat (first | (with_reducible first | exact HB.out | apply below_alloc | apply pw_below_drewN | apply below_drew1 | refine below_set ?_ GE128.out) | exact HB.out)) hb); have n3_ := Aside0.mk (hbox); have n4_ := Aside0.mk ((by rw [hg]; exact (below_size (by repeat (first | (with_reducible first | exact HB.out | apply below_alloc | apply pw_below_drewN | apply below_drew1 | refine below_set ?_ GE128.out) | exact HB.out))) : w.heap.size ≤ gb131)); have n5_ := Aside0.mk ((by rw [hg]; exact (below_size (by repeat (first | (with_reducible first | exact HB.out | apply below_alloc | apply pw_below_drewN | apply below_drew1 | refine below_set ?_ GE128.out) | exact HB.out))) : w.heap.size ≤ gb131)); have n6_ := Aside0.mk ((by rw [hg]; exact Nat.ne_of_lt (blk_lt (g := gb128) (o := .cells #[.int .i64 a0_0, .slice (some ad130) l0_1.length c0_1] 32 (0, 0)) (by (with_reducible repeat (first | refine blk_drewN ?_ _ | refine blk_drew ?_ | refine blk_alloc ?_ _)); exact BK128.out)) : gb128 ≠ gb131)); have n7_ := Aside0.mk ((by rw [hg]; exact Nat.ne_of_gt (blk_lt (g := gb128) (o := .cells #[.int .i64 a0_0, .slice (some ad130) l0_1.length c0_1] 32 (0, 0)) (by (with_reducible repeat (first | refine blk_drewN ?_ _ | refine blk_drew ?_ | refine blk_alloc ?_ _)); exact BK128.out)) : gb131 ≠ gb128)); clear HO_5; clear BK128; clear HB; have HO_5 := n0_; have BK128 := n1_; have HB := n2_; have BK131 := n3_; have GW131 := n4_; have GE131 := n5_; have NB128_131 := n6_; have NB131_128 := n7_; clear n0_ n1_ n2_ n3_ n4_ n5_ n6_ n7_; clear hb hbox hg; have hnb13 := NB131_128.out; have hnc13 := NB128_131.out; have hcz14_0 : w12.cell? ⟨gb131, 0, none⟩ = some (.int .i64 0) := (blk_cell BK131.out 0).trans rfl; have hcz14_1 : w12.cell? ⟨gb131, 1, none⟩ = some (.int .i64 0) := (blk_cell BK131.out 1).trans rfl; have hfz14_0 := blk_frozen BK131.out 0; have hfz14_1 := blk_frozen BK131.out 1) | ((with_reducible refine gate_dst (N := 25) rfl ?_); refine Kd.R_lit (Kd.int .i64) _ 3 ?hg (N := 25) ?hd (xs := ([(rd_T78 l0_1 x16_1).f0, (rd_T78 l0_1 x16_1).f1] : List Int)) (inner := [.int .i64 ((rd_T78 l0_1 x16_1).f0), .int .i64 ((rd_T78 l0_1 x16_1).f1)]) (ok := fun _ => True) (okp := fun _ => True) ?hr ?hp (fun _ hk => hk) trivial (Below.refl _ _) (Nat.le_refl _) (by simp) ?_; (case hd => rfl); (case hg => rfl); (case hr => first | (go_simp; done) | (go_simp; rfl)); (case hp => exact (Reps.one (show Kd.M (Kd.int .i64) _ _ _ ((rd_T78 l0_1 x16_1).f0) [.int .i64 ((rd_T78 l0_1 x16_1).f0)] from rfl) (Reps.one (show Kd.M (Kd.int .i64) _ _ _ ((rd_T78 l0_1 x16_1).f1) [.int .i64 ((rd_T78 l0_1 x16_1).f1)] from rfl) (Reps.none _ _)))); intro v133 w15 ho16 hb hg_ hnew_; clear hg_ hnew_; (first | rw [← Ny132.out] at ho16 | (simp only [Int.reduceToNat] at ho16; rw [← Ny132.out] at ho16)); have n0_ := Aside0.mk (Kd.R_elder' (by (with_reducible repeat (first | apply Kd.R_alloc | apply Kd.R_drewN | apply Kd.R_drew)); exact (Kd.R_mono (Kd.R_far (p := ⟨gb131, 1, none⟩) (Kd.R_far (p := ⟨gb131, 0, none⟩) (Kd.R_types HO_5.out BK131.out (by decide)) (fun _ hk => hk.2) (.int .i64 ((rd_T78 l0_1 x16_1).f0))) (fun _ hk => hk.2) (.int .i64 ((rd_T78 l0_1 x16_1).f1))) (fun _ h_ => h_.1))) (Kd.R_base ho16) hb); have n1_ := Aside0.mk (Kd.R_lower (Kd.R_new' ho16 (Kd.R_lt (by (with_reducible repeat (first | apply Kd.R_alloc | apply Kd.R_drewN | apply Kd.R_drew)); exact (Kd.R_mono (Kd.R_far (p := ⟨gb131, 1, none⟩) (Kd.R_far (p := ⟨gb131, 0, none⟩) (Kd.R_types HO_5.out BK131.out (by decide)) (fun _ hk => hk.2) (.int .i64 ((rd_T78 l0_1 x16_1).f0))) (fun _ hk => hk.2) (.int .i64 ((rd_T78 l0_1 x16_1).f1))) (fun _ h_ => h_.1))))) (below_size (by repeat (first | (with_reducible first | exact HB.out | apply below_alloc | apply pw_below_drewN | apply below_drew1 | refine below_set ?_ GE128.out | refine below_set ?_ GE131.out) | exact HB.out)))); have n2_ := Aside0.mk (blk_below (g := gb128) (o := .cells #[.int .i64 a0_0, .slice (some ad130) l0_1.length c0_1] 32 (0, 0)) (by (with_reducible repeat (first | refine blk_drewN ?_ _ | refine blk_drew ?_ | refine blk_alloc ?_ _)); refine blk_far ?_ NB128_131.out _; (with_reducible repeat (first | refine blk_drewN ?_ _ | refine blk_drew ?_ | refine blk_alloc ?_ _)); refine blk_far ?_ NB128_131.out _; (with_reducible repeat (first | refine blk_drewN ?_ _ | refine blk_drew ?_ | refine blk_alloc ?_ _)); exact BK128.out) hb); have n3_ := Aside0.mk (blk_below (g := gb131) (o := .cells #[.int .i64 ((rd_T78 l0_1 x16_1).f0), .int .i64 ((rd_T78 l0_1 x16_1).f1)] 78 (0, 0)) (by (with_reducible repeat (first | refine blk_drewN ?_ _ | refine blk_drew ?_ | refine blk_alloc ?_ _)); refine blk_put (cs := #[.int .i64 ((rd_T78 l0_1 x16_1).f0), .int .i64 0]) ?_ 1 _ rfl; (with_reducible repeat (first | refine blk_drewN ?_ _ | refine blk_drew ?_ | refine blk_alloc ?_ _)); refine blk_put (cs := #[.int .i64 0, .int .i64 0]) ?_ 0 _ rfl; (with_reducible repeat (first | refine blk_drewN ?_ _ | refine blk_drew ?_ | refine blk_alloc ?_ _)); exact BK131.out) hb); have n4_ := Aside0.mk (below_step (by repeat (first | (with_reducible first | exact HB.out | apply below_alloc | apply pw_below_drewN | apply below_drew1 | refine below_set ?_ GE128.out | refine below_set ?_ GE131.out) | exact HB.out)) hb); clear HO_5; clear BK128; clear BK131; clear HB; have HO_5 := n0_; have HO134 := n1_; have BK128 := n2_; have BK131 := n3_; have HB := n4_; clear n0_ n1_ n2_ n3_ n4_; clear hb ho16; obtain ⟨Ao18, co18, eo18⟩ := Kd.R_slice HO134.out; subst eo18) | ((with_reducible refine gate_builtin (b := .append) (xs := #[.tmp 20, .tmp 25]) rfl ?_); at_builtin; refine Kd.R_append_rows (Kd.int .i64) (w0 := w) w.heap.size rfl (.tmp 20) (.tmp 25) 22 3 (.int .i64 0) 8 rfl Try.underlying22 info3 rfl (by decide) (by omega) u5 x5_1 y132 _ _ _ (fun k_ => some k_ ≠ (.slice Ao18 y132.length co18 : Value).ownBlock) (fun _ => False) rfl rfl ?aO ?aR (fun _ _ h => h) (fun _ h => h.elim) ?aF ?aB ?aS ?aL ?_; (case aR => repeat (first | exact (Kd.R_reads' HO134.out).2.2 | (with_reducible refine Kd.C_alloc ?_ _) | (with_reducible refine Kd.C_drewN ?_ _) | (with_reducible refine Kd.C_drew ?_))); (case aB => exact (by repeat (first | (with_reducible first | exact HB.out | apply below_alloc | apply pw_below_drewN | apply below_drew1 | refine below_set ?_ GE128.out | refine below_set ?_ GE131.out) | exact HB.out))); (case aF => exact (fun k_ hk => Kd.fresh' (Kd.R_lt (by (with_reducible repeat (first | apply Kd.R_alloc | apply Kd.R_drewN | apply Kd.R_drew)); exact HO134.out)) k_ hk)); (case aO => exact (by (with_reducible repeat (first | apply Kd.R_alloc | apply Kd.R_drewN | apply Kd.R_drew)); exact Kd.R_mono HO_5.out (fun _ hk => hk.2))); (case aS => exact (below_size (by repeat (first | (with_reducible first | exact HB.out | apply below_alloc | apply pw_below_drewN | apply below_drew1 | refine below_set ?_ GE128.out | refine below_set ?_ GE131.out) | exact HB.out)))); (case aL => have := LMc11.out; omega); intro v136 w17 ho hb hg hat; rw [← Ny135.out] at ho; have n0_ := Aside0.mk (blk_grown (g := gb128) (o := .cells #[.int .i64 a0_0, .slice (some ad130) l0_1.length c0_1] 32 (0, 0)) (by (with_reducible repeat (first | refine blk_drewN ?_ _ | refine blk_drew ?_ | refine blk_alloc ?_ _)); exact BK128.out) hg (Kd.R_ne HO_5.out BK128.out (by decide))); have n1_ := Aside0.mk (blk_grown (g := gb131) (o := .cells #[.int .i64 ((rd_T78 l0_1 x16_1).f0), .int .i64 ((rd_T78 l0_1 x16_1).f1)] 78 (0, 0)) (by (with_reducible repeat (first | refine blk_drewN ?_ _ | refine blk_drew ?_ | refine blk_alloc ?_ _)); exact BK131.out) hg (Kd.R_ne HO_5.out BK131.out (by decide))); have n2_ := Aside0.mk (Kd.R_after (ok := (fun _ => True)) (by (with_reducible repeat (first | apply Kd.R_alloc | apply Kd.R_drewN | apply Kd.R_drew)); exact HO134.out) hg hat); have n3_ := Aside0.mk (hb); have n4_ := Aside0.mk (ho); clear BK128; clear BK131; clear HO134; clear HB; clear HO_5; have BK128 := n0_; have BK131 := n1_; have HO134 := n2_; have HB := n3_; have HO137 := n4_; clear n0_ n1_ n2_ n3_ n4_; clear ho hb hg hat))
        go_roundg k1
        case measure => have := HK1.out; omega
        case rel => exact ⟨(y135), (wrap64 (x16_1 + 1)), (by first | rfl | (simp; done) | (simp [*]; done)), H', ⟨by have := HK1.out; omega⟩, ⟨by (with_reducible repeat (first | apply Kd.R_alloc | apply Kd.R_drewN | apply Kd.R_drew)); exact Kd.R_mono HO137.out (fun _ hk => trivial)⟩, ⟨by (with_reducible repeat (first | refine blk_drewN ?_ _ | refine blk_drew ?_ | refine blk_alloc ?_ _)); exact BK128.out⟩, ⟨by repeat (first | (with_reducible first | exact HB.out | apply below_alloc | apply pw_below_drewN | apply below_drew1 | refine below_set ?_ GE128.out | refine below_set ?_ GE131.out) | exact HB.out)⟩⟩
       ·rw [if_neg c11] at H
        exact absurd H (by simp)
      ·rw [if_neg c10] at H
       exact absurd H (by simp)
     ·rw [if_neg c9] at H
      exact absurd H (by simp)
    ·rw [if_neg c8] at H
     have c8b0 : decide (x16_1 < (l0_1.length : Int)) = false := decide_eq_false c8
     clear c8
     replace H := Option.bind_eq_some_iff.mp H
     obtain ⟨t138, A190, H⟩ := H
     replace H : ((wire_PutList.f t138 x5_1).bind fun t139 => (some (t139, 0))) = some (r1, r2) := H
     have A19 := Aside0.mk A190
     clear A190
     replace H := Option.bind_eq_some_iff.mp H
     obtain ⟨t139, A200, H⟩ := H
     replace H : (some (t139, 0)) = some (r1, r2) := H
     have A20 := Aside0.mk A200
     clear A200
     simp only [Option.some.injEq, Prod.mk.injEq] at H
     obtain ⟨rfl, rfl⟩ := H
     have hcz21_0 : wr.cell? ⟨gb128, 0, none⟩ = some (.int .i64 a0_0) := (blk_cell BK128.out 0).trans rfl
     have hcz21_1 : wr.cell? ⟨gb128, 1, none⟩ = some (.slice A0_1 l0_1.length c0_1) := (blk_cell BK128.out 1).trans rfl
     have hfz21_0 := blk_frozen BK128.out 0
     have hfz21_1 := blk_frozen BK128.out 1
     go_wp2_with (first | ((with_reducible refine gate_callee (f := 65) rfl ?_); refine goesL_ (some 30) rfl rfl Try.func65 (by kernel_rfl) rfl #[.string (⟨#[]⟩ : ByteArray), .int .i64 a0_0] rfl (by (try simp only [List.map_toArray, List.map_cons, List.map_nil]); first | done | rfl | (simp only [List.length_drop, List.length_take]; rfl)) ?_; (with_reducible refine (wire_PutInt.calls (⟨#[]⟩ : ByteArray) a0_0 t138 _ A19.out).mono ?_); rintro e w22 ⟨rfl, hb⟩; refine ⟨_, rfl, ?_⟩; have n0_ := Aside0.mk (Kd.R_below (by (with_reducible repeat (first | apply Kd.R_alloc | apply Kd.R_drewN | apply Kd.R_drew)); exact HO_5.out) hb); have n1_ := Aside0.mk (blk_below (g := gb128) (o := .cells #[.int .i64 a0_0, .slice A0_1 l0_1.length c0_1] 32 (0, 0)) (by (with_reducible repeat (first | refine blk_drewN ?_ _ | refine blk_drew ?_ | refine blk_alloc ?_ _)); exact BK128.out) hb); have n2_ := Aside0.mk (below_step (by repeat (first | (with_reducible first | exact HB.out | apply below_alloc | apply pw_below_drewN | apply below_drew1 | refine below_set ?_ GE128.out) | exact HB.out)) hb); clear HO_5; clear BK128; clear HB; have HO_5 := n0_; have BK128 := n1_; have HB := n2_; clear n0_ n1_ n2_; (try clear hb); (try clear hb2); (try clear hk); (try clear hi); obtain ⟨Ao23, co23, eo23⟩ := Kd.R_slice HO_5.out; subst eo23) | ((with_reducible refine gate_callee (f := 73) rfl ?_); refine goesL_ (some 32) rfl rfl Try.func73 (by kernel_rfl) rfl #[.string t138, .slice Ao23 x5_1.length co23] rfl (by (try simp only [List.map_toArray, List.map_cons, List.map_nil]); first | done | rfl | (simp only [List.length_drop, List.length_take]; rfl)) ?_; (with_reducible refine (wire_PutList.calls t138 _ _ x5_1 t139 _ ?side1 ?side2 A20.out).mono ?_); (case side1 => repeat (first | exact (Kd.R_reads' HO_5.out).2.2 | (with_reducible refine Kd.C_alloc ?_ _) | (with_reducible refine Kd.C_drewN ?_ _) | (with_reducible refine Kd.C_drew ?_))); (case side2 => exact (Kd.R_reads' HO_5.out).2.1); rintro e w24 ⟨rfl, hb⟩; refine ⟨_, rfl, ?_⟩; have n0_ := Aside0.mk (Kd.R_below (by (with_reducible repeat (first | apply Kd.R_alloc | apply Kd.R_drewN | apply Kd.R_drew)); exact HO_5.out) hb); have n1_ := Aside0.mk (blk_below (g := gb128) (o := .cells #[.int .i64 a0_0, .slice A0_1 l0_1.length c0_1] 32 (0, 0)) (by (with_reducible repeat (first | refine blk_drewN ?_ _ | refine blk_drew ?_ | refine blk_alloc ?_ _)); exact BK128.out) hb); have n2_ := Aside0.mk (below_step (by repeat (first | (with_reducible first | exact HB.out | apply below_alloc | apply pw_below_drewN | apply below_drew1 | refine below_set ?_ GE128.out) | exact HB.out)) hb); clear HO_5; clear BK128; clear HB; have HO_5 := n0_; have BK128 := n1_; have HB := n2_; clear n0_ n1_ n2_; (try clear hb); (try clear hb2); (try clear hk); (try clear hi)))
     go_ret2
     exact ⟨by first | rfl | (simp [errW_none, errW_some] <;> rfl) | (simp [*, errW_none, errW_some] <;> rfl), by repeat (first | (with_reducible first | exact HB.out | apply below_alloc | apply pw_below_drewN | apply below_drew1 | refine below_set ?_ GE128.out) | exact HB.out)⟩
 ·rw [if_neg c3] at H
  have c3b0 : (t129 == 0) = false := beq_eq_false_iff_ne.mpr c3
  have c3b1 : (t129 != 0) = true := bne_iff_ne.mpr c3
  simp only [Option.some.injEq, Prod.mk.injEq] at H
  obtain ⟨rfl, rfl⟩ := H
  go_enter Try.func38, Try.ntmps38
  go_wp2_with (first | ((with_reducible refine gate_dst (N := 1) rfl ?_); refine box_event ?hg (N := 1) ?hd (cs := #[.int .i64 a0_0, .slice A0_1 l0_1.length c0_1]) (t := 32) ?hr ?_; (case hd => rfl); (case hg => rfl); (case hr => first | (go_simp; done) | (go_simp; rfl)); intro gb128 hg w25 hbox hb; have n0_ := Aside0.mk (below_step (by repeat (first | (with_reducible first | exact HB.out | apply below_alloc | apply pw_below_drewN | apply below_drew1) | exact HB.out)) hb); have n1_ := Aside0.mk (hbox); have n2_ := Aside0.mk ((by rw [hg]; exact (below_size (by repeat (first | (with_reducible first | exact HB.out | apply below_alloc | apply pw_below_drewN | apply below_drew1) | exact HB.out))) : w.heap.size ≤ gb128)); have n3_ := Aside0.mk ((by rw [hg]; exact (below_size (by repeat (first | (with_reducible first | exact HB.out | apply below_alloc | apply pw_below_drewN | apply below_drew1) | exact HB.out))) : w.heap.size ≤ gb128)); clear HB; have HB := n0_; have BK128 := n1_; have GW128 := n2_; have GE128 := n3_; clear n0_ n1_ n2_ n3_; clear hb hbox hg; have hcz26_0 : w25.cell? ⟨gb128, 0, none⟩ = some (.int .i64 a0_0) := (blk_cell BK128.out 0).trans rfl; have hcz26_1 : w25.cell? ⟨gb128, 1, none⟩ = some (.slice A0_1 l0_1.length c0_1) := (blk_cell BK128.out 1).trans rfl; have hfz26_0 := blk_frozen BK128.out 0; have hfz26_1 := blk_frozen BK128.out 1) | ((with_reducible refine gate_callee (f := 56) rfl ?_); refine goesL_ (some 9) rfl rfl Try.func56 (by kernel_rfl) rfl #[.agg #[.int .i64 a0_0, .slice A0_1 l0_1.length c0_1]] rfl (by (try simp only [List.map_toArray, List.map_cons, List.map_nil]); first | done | rfl | (simp only [List.length_drop, List.length_take]; rfl)) ?_; (with_reducible refine (manifest_Check.calls k a0_0 _ _ l0_1 t129 _ ?side1 ?side2 A2.out).mono ?_); (case side1 => repeat (first | exact (Kd.C_below HR0_1.out HB.out) | (with_reducible refine Kd.C_alloc ?_ _) | (with_reducible refine Kd.C_drewN ?_ _) | (with_reducible refine Kd.C_drew ?_))); (case side2 => exact HC0_1.out); rintro e w27 ⟨rfl, hb⟩; refine ⟨_, rfl, ?_⟩; have n0_ := Aside0.mk (blk_below (g := gb128) (o := .cells #[.int .i64 a0_0, .slice A0_1 l0_1.length c0_1] 32 (0, 0)) (by (with_reducible repeat (first | refine blk_drewN ?_ _ | refine blk_drew ?_ | refine blk_alloc ?_ _)); exact BK128.out) hb); have n1_ := Aside0.mk (below_step (by repeat (first | (with_reducible first | exact HB.out | apply below_alloc | apply pw_below_drewN | apply below_drew1 | refine below_set ?_ GE128.out) | exact HB.out)) hb); clear BK128; clear HB; have BK128 := n0_; have HB := n1_; clear n0_ n1_; (try clear hb); (try clear hb2); (try clear hk); (try clear hi)))
  go_ret2
  exact ⟨by first | rfl | (simp [errW_none, errW_some] <;> rfl) | (simp [*, errW_none, errW_some] <;> rfl), by repeat (first | (with_reducible first | exact HB.out | apply below_alloc | apply pw_below_drewN | apply below_drew1 | refine below_set ?_ GE128.out) | exact HB.out)⟩
end Go.Proofs.Ytodhkbahjomfhaa.Q

namespace Go.Proofs.Ytodhkbahjomfhaa.Q
open Go.RowKit Go.Proofs.YtodhkbahjomfhaaW.PrintWords Go.Proofs.YtodhkbahjomfhaaW.PrintLast Go.Proofs.YtodhkbahjomfhaaW.PrintMore Go.Proofs.Ytodhkbahjomfhaa.Gput Go.Proofs.Ytodhkbahjomfhaa.Gputl
attribute [local go_sem] max2_int min2_int max_two min_two max_three min_three max_four min_four   -- for this text's walks alone
set_option linter.unusedVariables false
set_option linter.unusedSimpArgs false
noncomputable def storagebarterlaw08_sane.f (k : Nat)  : Option (Bool) := (manifest_Of.f 1 ([] : List ByteArray)).bind fun bt140 => ((manifest_Encode.f k bt140.1 bt140.2.1).bind fun bt146 => ((manifest_Of.f 2 (([(⟨#[97, 98]⟩ : ByteArray), (⟨#[99]⟩ : ByteArray), (⟨#[97, 98]⟩ : ByteArray)] : List ByteArray))).bind fun bt151 => ((manifest_Restore.f bt151.1 bt151.2.1 (([(⟨#[99]⟩ : ByteArray), (⟨#[97, 98]⟩ : ByteArray)] : List ByteArray))).bind fun bt160 => ((manifest_Size.f k bt151.1 bt151.2.1).bind fun bt162 => (if bt140.2.2 = 0 then (if bt146.2 = 0 then (if bt151.2.2 = 0 then (if bt160.2 = 0 then (if bt162.2 = 0 then (if bt146.1.toList = ([2, 0] : List UInt8) then (if bt160.1.toList = ([97, 98, 99, 97, 98] : List UInt8) then (some (bt162.1 == 5)) else (some false)) else (some false)) else (some false)) else (some false)) else (some false)) else (some false)) else (some false))))))
set_option maxHeartbeats 8000000 in
set_option maxRecDepth 100000 in
theorem storagebarterlaw08_sane.calls (k : Nat)  (r : Bool) (w : World) (h : storagebarterlaw08_sane.f k  = some r) :
 Calls Try.prog 13 #[] w fun e w' => e = .returned (.bool r) ∧ Below w.heap.size w w' := by
 have hu32 := Try.underlying32
 have HB := Aside0.mk (Below.refl w.heap.size w)
 have H : ((manifest_Of.f 1 ([] : List ByteArray)).bind fun bt140 => ((manifest_Encode.f k bt140.1 bt140.2.1).bind fun bt146 => ((manifest_Of.f 2 (([(⟨#[97, 98]⟩ : ByteArray), (⟨#[99]⟩ : ByteArray), (⟨#[97, 98]⟩ : ByteArray)] : List ByteArray))).bind fun bt151 => ((manifest_Restore.f bt151.1 bt151.2.1 (([(⟨#[99]⟩ : ByteArray), (⟨#[97, 98]⟩ : ByteArray)] : List ByteArray))).bind fun bt160 => ((manifest_Size.f k bt151.1 bt151.2.1).bind fun bt162 => (if bt140.2.2 = 0 then (if bt146.2 = 0 then (if bt151.2.2 = 0 then (if bt160.2 = 0 then (if bt162.2 = 0 then (if bt146.1.toList = ([2, 0] : List UInt8) then (if bt160.1.toList = ([97, 98, 99, 97, 98] : List UInt8) then (some (bt162.1 == 5)) else (some false)) else (some false)) else (some false)) else (some false)) else (some false)) else (some false)) else (some false))))))) = some r := h
 clear h
 replace H := Option.bind_eq_some_iff.mp H
 obtain ⟨⟨t140, t141, t144⟩, A10, H⟩ := H
 try dsimp only at H
 have A1 := Aside0.mk A10
 clear A10
 replace H := Option.bind_eq_some_iff.mp H
 obtain ⟨⟨t146, t147⟩, A20, H⟩ := H
 try dsimp only at H
 have A2 := Aside0.mk A20
 clear A20
 obtain ⟨y148, hy148⟩ : ∃ y_ : List ByteArray, y_ = (([(⟨#[97, 98]⟩ : ByteArray), (⟨#[99]⟩ : ByteArray), (⟨#[97, 98]⟩ : ByteArray)] : List ByteArray)) := ⟨_, rfl⟩
 replace H : ((manifest_Of.f 2 y148).bind fun bt151 => ((manifest_Restore.f bt151.1 bt151.2.1 (([(⟨#[99]⟩ : ByteArray), (⟨#[97, 98]⟩ : ByteArray)] : List ByteArray))).bind fun bt160 => ((manifest_Size.f k bt151.1 bt151.2.1).bind fun bt162 => (if t144 = 0 then (if t147 = 0 then (if bt151.2.2 = 0 then (if bt160.2 = 0 then (if bt162.2 = 0 then (if t146.toList = ([2, 0] : List UInt8) then (if bt160.1.toList = ([97, 98, 99, 97, 98] : List UInt8) then (some (bt162.1 == 5)) else (some false)) else (some false)) else (some false)) else (some false)) else (some false)) else (some false)) else (some false))))) = some r := by first | (rw [hy148]; with_reducible exact H) | (have H2_ := (Option.bind_some _ _).symm.trans H; rw [hy148]; with_reducible exact H2_) | (have H2_ := (Option.bind_some _ _).symm.trans H; with_reducible exact H2_) | with_reducible exact H | (rw [hy148]; exact H) | exact H
 have Ny148 := Aside0.mk hy148
 clear hy148
 replace H := Option.bind_eq_some_iff.mp H
 obtain ⟨⟨t151, t152, t155⟩, A30, H⟩ := H
 try dsimp only at H
 have A3 := Aside0.mk A30
 clear A30
 obtain ⟨y157, hy157⟩ : ∃ y_ : List ByteArray, y_ = (([(⟨#[99]⟩ : ByteArray), (⟨#[97, 98]⟩ : ByteArray)] : List ByteArray)) := ⟨_, rfl⟩
 replace H : ((manifest_Restore.f t151 t152 y157).bind fun bt160 => ((manifest_Size.f k t151 t152).bind fun bt162 => (if t144 = 0 then (if t147 = 0 then (if t155 = 0 then (if bt160.2 = 0 then (if bt162.2 = 0 then (if t146.toList = ([2, 0] : List UInt8) then (if bt160.1.toList = ([97, 98, 99, 97, 98] : List UInt8) then (some (bt162.1 == 5)) else (some false)) else (some false)) else (some false)) else (some false)) else (some false)) else (some false)) else (some false)))) = some r := by first | (rw [hy157]; with_reducible exact H) | (have H2_ := (Option.bind_some _ _).symm.trans H; rw [hy157]; with_reducible exact H2_) | (have H2_ := (Option.bind_some _ _).symm.trans H; with_reducible exact H2_) | with_reducible exact H | (rw [hy157]; exact H) | exact H
 have Ny157 := Aside0.mk hy157
 clear hy157
 replace H := Option.bind_eq_some_iff.mp H
 obtain ⟨⟨t160, t161⟩, A40, H⟩ := H
 try dsimp only at H
 have A4 := Aside0.mk A40
 clear A40
 replace H := Option.bind_eq_some_iff.mp H
 obtain ⟨⟨t162, t163⟩, A50, H⟩ := H
 try dsimp only at H
 have A5 := Aside0.mk A50
 clear A50
 by_cases c6 : t144 = 0
 focus
  rw [if_pos c6] at H
  have c6b0 : (t144 == 0) = true := beq_iff_eq.mpr c6
  have c6b1 : (t144 != 0) = false := bne_eq_false_iff_eq.mpr c6
  clear c6
  by_cases c7 : t147 = 0
  focus
   rw [if_pos c7] at H
   have c7b0 : (t147 == 0) = true := beq_iff_eq.mpr c7
   have c7b1 : (t147 != 0) = false := bne_eq_false_iff_eq.mpr c7
   clear c7
   by_cases c8 : t155 = 0
   focus
    rw [if_pos c8] at H
    have c8b0 : (t155 == 0) = true := beq_iff_eq.mpr c8
    have c8b1 : (t155 != 0) = false := bne_eq_false_iff_eq.mpr c8
    clear c8
    by_cases c9 : t161 = 0
    focus
     rw [if_pos c9] at H
     have c9b0 : (t161 == 0) = true := beq_iff_eq.mpr c9
     have c9b1 : (t161 != 0) = false := bne_eq_false_iff_eq.mpr c9
     clear c9
     by_cases c10 : t163 = 0
     focus
      rw [if_pos c10] at H
      have c10b0 : (t163 == 0) = true := beq_iff_eq.mpr c10
      have c10b1 : (t163 != 0) = false := bne_eq_false_iff_eq.mpr c10
      clear c10
      by_cases c11 : t146.toList = ([2, 0] : List UInt8)
      focus
       rw [if_pos c11] at H
       have c11b0 : (t146.toList == ([2, 0] : List UInt8)) = true := beq_iff_eq.mpr c11
       have c11b1 : (t146.toList != ([2, 0] : List UInt8)) = false := bne_eq_false_iff_eq.mpr c11
       clear c11
       by_cases c12 : t160.toList = ([97, 98, 99, 97, 98] : List UInt8)
       focus
        rw [if_pos c12] at H
        have c12b0 : (t160.toList == ([97, 98, 99, 97, 98] : List UInt8)) = true := beq_iff_eq.mpr c12
        have c12b1 : (t160.toList != ([97, 98, 99, 97, 98] : List UInt8)) = false := bne_eq_false_iff_eq.mpr c12
        clear c12
        obtain rfl := Option.some.inj H
       rotate_left 1
       focus
        rw [if_neg c12] at H
        have c12b0 : (t160.toList == ([97, 98, 99, 97, 98] : List UInt8)) = false := beq_eq_false_iff_ne.mpr c12
        have c12b1 : (t160.toList != ([97, 98, 99, 97, 98] : List UInt8)) = true := bne_iff_ne.mpr c12
        obtain rfl := Option.some.inj H
       rotate_left 1
      rotate_left 2
      focus
       rw [if_neg c11] at H
       have c11b0 : (t146.toList == ([2, 0] : List UInt8)) = false := beq_eq_false_iff_ne.mpr c11
       have c11b1 : (t146.toList != ([2, 0] : List UInt8)) = true := bne_iff_ne.mpr c11
       obtain rfl := Option.some.inj H
      rotate_left 1
     rotate_left 3
     focus
      rw [if_neg c10] at H
      have c10b0 : (t163 == 0) = false := beq_eq_false_iff_ne.mpr c10
      have c10b1 : (t163 != 0) = true := bne_iff_ne.mpr c10
      obtain rfl := Option.some.inj H
     rotate_left 1
    rotate_left 4
    focus
     rw [if_neg c9] at H
     have c9b0 : (t161 == 0) = false := beq_eq_false_iff_ne.mpr c9
     have c9b1 : (t161 != 0) = true := bne_iff_ne.mpr c9
     obtain rfl := Option.some.inj H
    rotate_left 1
   rotate_left 5
   focus
    rw [if_neg c8] at H
    have c8b0 : (t155 == 0) = false := beq_eq_false_iff_ne.mpr c8
    have c8b1 : (t155 != 0) = true := bne_iff_ne.mpr c8
    obtain rfl := Option.some.inj H
   rotate_left 1
  rotate_left 6
  focus
   rw [if_neg c7] at H
   have c7b0 : (t147 == 0) = false := beq_eq_false_iff_ne.mpr c7
   have c7b1 : (t147 != 0) = true := bne_iff_ne.mpr c7
   obtain rfl := Option.some.inj H
  rotate_left 1
 rotate_left 7
 focus
  rw [if_neg c6] at H
  have c6b0 : (t144 == 0) = false := beq_eq_false_iff_ne.mpr c6
  have c6b1 : (t144 != 0) = true := bne_iff_ne.mpr c6
  obtain rfl := Option.some.inj H
 rotate_left 1
 all_goals (go_enter Try.func13, Try.ntmps13)
 all_goals (go_wp2_with (first | ((with_reducible refine gate_callee (f := 18) rfl ?_); refine goesL_ (some 12) rfl rfl Try.func18 (by kernel_rfl) rfl #[.int .i64 1, .slice none 0 0] rfl (by (try simp only [List.map_toArray, List.map_cons, List.map_nil]); first | done | rfl | (simp only [List.length_drop, List.length_take]; rfl)) ?_; (refine (manifest_Of.calls 1 _ _ ([] : List ByteArray) t140 t141 t144 _ ?side1 ?side2 A1.out).mono ?_); (case side1 => exact Kd.C_nil _ _); (case side2 => exact Nat.le_refl _); rintro e wz0 ⟨vz1, rfl, hoz2, hb⟩; refine ⟨_, rfl, ?_⟩; have n0_ := Aside0.mk (Kd.R_lower hoz2 (below_size (by repeat (first | (with_reducible first | exact HB.out | apply below_alloc | apply pw_below_drewN | apply below_drew1) | exact HB.out)))); have n1_ := Aside0.mk (below_step (by repeat (first | (with_reducible first | exact HB.out | apply below_alloc | apply pw_below_drewN | apply below_drew1) | exact HB.out)) hb); clear HB; have HOz3 := n0_; have HB := n1_; clear n0_ n1_; (try clear hb); (try clear hb2); (try clear hk); (try clear hi); (try clear hoz2)) | ((with_reducible refine gate_dst (N := 1) rfl ?_); refine box_event ?hg (N := 1) ?hd (cs := #[.int .i64 0, .slice none 0 0]) (t := 32) ?hr ?_; (case hd => rfl); (case hg => rfl); (case hr => first | (go_simp; done) | (go_simp; rfl)); intro gbz4 hg wz5 hbox hb; have n0_ := Aside0.mk (Kd.R_below (by (with_reducible repeat (first | apply Kd.R_alloc | apply Kd.R_drewN | apply Kd.R_drew)); exact HOz3.out) hb); have n1_ := Aside0.mk (below_step (by repeat (first | (with_reducible first | exact HB.out | apply below_alloc | apply pw_below_drewN | apply below_drew1) | exact HB.out)) hb); have n2_ := Aside0.mk (hbox); have n3_ := Aside0.mk ((by rw [hg]; exact (below_size (by repeat (first | (with_reducible first | exact HB.out | apply below_alloc | apply pw_below_drewN | apply below_drew1) | exact HB.out))) : w.heap.size ≤ gbz4)); have n4_ := Aside0.mk ((by rw [hg]; exact (below_size (by repeat (first | (with_reducible first | exact HB.out | apply below_alloc | apply pw_below_drewN | apply below_drew1) | exact HB.out))) : w.heap.size ≤ gbz4)); clear HOz3; clear HB; have HOz3 := n0_; have HB := n1_; have BKz6 := n2_; have GWz7 := n3_; have GEz8 := n4_; clear n0_ n1_ n2_ n3_ n4_; clear hb hbox hg; have hczz9 : wz5.cell? ⟨gbz4, 0, none⟩ = some (.int .i64 0) := (blk_cell BKz6.out 0).trans rfl; have hczz10 : wz5.cell? ⟨gbz4, 1, none⟩ = some (.slice none 0 0) := (blk_cell BKz6.out 1).trans rfl; have hfzz11 := blk_frozen BKz6.out 0; have hfzz12 := blk_frozen BKz6.out 1; obtain ⟨Aoz13, coz14, eoz15⟩ := Kd.R_slice HOz3.out; subst eoz15) | ((with_reducible refine gate_callee (f := 38) rfl ?_); refine goesL_ (some 17) rfl rfl Try.func38 (by kernel_rfl) rfl #[.agg #[.int .i64 t140, .slice Aoz13 t141.length coz14]] rfl (by (try simp only [List.map_toArray, List.map_cons, List.map_nil]); first | done | rfl | (simp only [List.length_drop, List.length_take]; rfl)) ?_; (with_reducible refine (manifest_Encode.calls k t140 _ _ t141 t146 t147 _ ?side1 ?side2 A2.out).mono ?_); (case side1 => refine (Kd.R_reads' (e := 78) (base := w.heap.size) (ok := fun k_ => True) (n := t141.length) (c := coz14) ?_).2.2; exact (by (with_reducible repeat (first | apply Kd.R_alloc | apply Kd.R_drewN | apply Kd.R_drew)); exact (Kd.R_mono (Kd.R_far (p := ⟨gbz4, 1, none⟩) (Kd.R_far (p := ⟨gbz4, 0, none⟩) (Kd.R_types HOz3.out BKz6.out (by decide)) (fun _ hk => hk.2) (.int .i64 t140)) (fun _ hk => hk.2) (.slice Aoz13 t141.length coz14)) (fun _ h_ => h_.1)))); (case side2 => exact (Kd.R_reads' HOz3.out).2.1); rintro e wz16 ⟨rfl, hb⟩; refine ⟨_, rfl, ?_⟩; have n0_ := Aside0.mk (Kd.R_below (by (with_reducible repeat (first | apply Kd.R_alloc | apply Kd.R_drewN | apply Kd.R_drew)); exact (Kd.R_mono (Kd.R_far (p := ⟨gbz4, 1, none⟩) (Kd.R_far (p := ⟨gbz4, 0, none⟩) (Kd.R_types HOz3.out BKz6.out (by decide)) (fun _ hk => hk.2) (.int .i64 t140)) (fun _ hk => hk.2) (.slice Aoz13 t141.length coz14)) (fun _ h_ => h_.1))) hb); have n1_ := Aside0.mk (blk_below (g := gbz4) (o := .cells #[.int .i64 t140, .slice Aoz13 t141.length coz14] 32 (0, 0)) (by (with_reducible repeat (first | refine blk_drewN ?_ _ | refine blk_drew ?_ | refine blk_alloc ?_ _)); refine blk_put (cs := #[.int .i64 t140, .slice none 0 0]) ?_ 1 _ rfl; (with_reducible repeat (first | refine blk_drewN ?_ _ | refine blk_drew ?_ | refine blk_alloc ?_ _)); refine blk_put (cs := #[.int .i64 0, .slice none 0 0]) ?_ 0 _ rfl; (with_reducible repeat (first | refine blk_drewN ?_ _ | refine blk_drew ?_ | refine blk_alloc ?_ _)); exact BKz6.out) hb); have n2_ := Aside0.mk (below_step (by repeat (first | (with_reducible first | exact HB.out | apply below_alloc | apply pw_below_drewN | apply below_drew1 | refine below_set ?_ GEz8.out) | exact HB.out)) hb); clear HOz3; clear BKz6; clear HB; have HOz3 := n0_; have BKz6 := n1_; have HB := n2_; clear n0_ n1_ n2_; (try clear hb); (try clear hb2); (try clear hk); (try clear hi)) | ((with_reducible refine gate_dst (N := 21) rfl ?_); refine Kd.R_lit Kd.string _ 9 ?hg (N := 21) ?hd (xs := ([(⟨#[97, 98]⟩ : ByteArray), (⟨#[99]⟩ : ByteArray), (⟨#[97, 98]⟩ : ByteArray)] : List ByteArray)) (inner := [.string (⟨#[97, 98]⟩ : ByteArray), .string (⟨#[99]⟩ : ByteArray), .string (⟨#[97, 98]⟩ : ByteArray)]) (ok := fun _ => True) (okp := fun _ => True) ?hr ?hp (fun _ hk => hk) trivial (Below.refl _ _) (Nat.le_refl _) (by simp) ?_; (case hd => rfl); (case hg => rfl); (case hr => first | (go_simp; done) | (go_simp; rfl)); (case hp => exact (Reps.one (show Kd.M Kd.string _ _ _ (⟨#[97, 98]⟩ : ByteArray) [.string (⟨#[97, 98]⟩ : ByteArray)] from rfl) (Reps.one (show Kd.M Kd.string _ _ _ (⟨#[99]⟩ : ByteArray) [.string (⟨#[99]⟩ : ByteArray)] from rfl) (Reps.one (show Kd.M Kd.string _ _ _ (⟨#[97, 98]⟩ : ByteArray) [.string (⟨#[97, 98]⟩ : ByteArray)] from rfl) (Reps.none _ _))))); intro vz17 wz18 hoz19 hb hg_ hnew_; clear hg_ hnew_; (first | rw [← Ny148.out] at hoz19 | (simp only [Int.reduceToNat] at hoz19; rw [← Ny148.out] at hoz19)); have n0_ := Aside0.mk (Kd.R_below (by (with_reducible repeat (first | apply Kd.R_alloc | apply Kd.R_drewN | apply Kd.R_drew)); exact HOz3.out) hb); have n1_ := Aside0.mk (Kd.R_lower hoz19 (below_size (by repeat (first | (with_reducible first | exact HB.out | apply below_alloc | apply pw_below_drewN | apply below_drew1 | refine below_set ?_ GEz8.out) | exact HB.out)))); have n2_ := Aside0.mk (blk_below (g := gbz4) (o := .cells #[.int .i64 t140, .slice Aoz13 t141.length coz14] 32 (0, 0)) (by (with_reducible repeat (first | refine blk_drewN ?_ _ | refine blk_drew ?_ | refine blk_alloc ?_ _)); exact BKz6.out) hb); have n3_ := Aside0.mk (below_step (by repeat (first | (with_reducible first | exact HB.out | apply below_alloc | apply pw_below_drewN | apply below_drew1 | refine below_set ?_ GEz8.out) | exact HB.out)) hb); clear HOz3; clear BKz6; clear HB; have HOz3 := n0_; have HOz20 := n1_; have BKz6 := n2_; have HB := n3_; clear n0_ n1_ n2_ n3_; clear hb hoz19; obtain ⟨Aoz21, coz22, eoz23⟩ := Kd.R_slice HOz20.out; subst eoz23) | ((with_reducible refine gate_callee (f := 18) rfl ?_); refine goesL_ (some 22) rfl rfl Try.func18 (by kernel_rfl) rfl #[.int .i64 2, .slice Aoz21 y148.length coz22] rfl (by (try simp only [List.map_toArray, List.map_cons, List.map_nil]); first | done | rfl | (simp only [List.length_drop, List.length_take]; rfl)) ?_; (with_reducible refine (manifest_Of.calls 2 _ _ y148 t151 t152 t155 _ ?side1 ?side2 A3.out).mono ?_); (case side1 => repeat (first | exact (Kd.R_reads' HOz20.out).2.2 | (with_reducible refine Kd.C_alloc ?_ _) | (with_reducible refine Kd.C_drewN ?_ _) | (with_reducible refine Kd.C_drew ?_))); (case side2 => exact (Kd.R_reads' HOz20.out).2.1); rintro e wz24 ⟨vz25, rfl, hoz2, hb⟩; refine ⟨_, rfl, ?_⟩; have n0_ := Aside0.mk (Kd.R_elder' (by (with_reducible repeat (first | apply Kd.R_alloc | apply Kd.R_drewN | apply Kd.R_drew)); exact HOz3.out) (Kd.R_base hoz2) hb); have n1_ := Aside0.mk (Kd.R_below (by (with_reducible repeat (first | apply Kd.R_alloc | apply Kd.R_drewN | apply Kd.R_drew)); exact HOz20.out) hb); have n2_ := Aside0.mk (Kd.R_lower (Kd.R_new' hoz2 (Kd.R_lt (by (with_reducible repeat (first | apply Kd.R_alloc | apply Kd.R_drewN | apply Kd.R_drew)); exact HOz3.out))) (below_size (by repeat (first | (with_reducible first | exact HB.out | apply below_alloc | apply pw_below_drewN | apply below_drew1 | refine below_set ?_ GEz8.out) | exact HB.out)))); have n3_ := Aside0.mk (blk_below (g := gbz4) (o := .cells #[.int .i64 t140, .slice Aoz13 t141.length coz14] 32 (0, 0)) (by (with_reducible repeat (first | refine blk_drewN ?_ _ | refine blk_drew ?_ | refine blk_alloc ?_ _)); exact BKz6.out) hb); have n4_ := Aside0.mk (below_step (by repeat (first | (with_reducible first | exact HB.out | apply below_alloc | apply pw_below_drewN | apply below_drew1 | refine below_set ?_ GEz8.out) | exact HB.out)) hb); clear HOz3; clear HOz20; clear BKz6; clear HB; have HOz3 := n0_; have HOz20 := n1_; have HOz26 := n2_; have BKz6 := n3_; have HB := n4_; clear n0_ n1_ n2_ n3_ n4_; (try clear hb); (try clear hb2); (try clear hk); (try clear hi); (try clear hoz2)) | ((with_reducible refine gate_dst (N := 5) rfl ?_); refine box_event ?hg (N := 5) ?hd (cs := #[.int .i64 0, .slice none 0 0]) (t := 32) ?hr ?_; (case hd => rfl); (case hg => rfl); (case hr => first | (go_simp; done) | (go_simp; rfl)); intro gbz27 hg wz28 hbox hb; have n0_ := Aside0.mk (Kd.R_below (by (with_reducible repeat (first | apply Kd.R_alloc | apply Kd.R_drewN | apply Kd.R_drew)); exact HOz3.out) hb); have n1_ := Aside0.mk (Kd.R_below (by (with_reducible repeat (first | apply Kd.R_alloc | apply Kd.R_drewN | apply Kd.R_drew)); exact HOz20.out) hb); have n2_ := Aside0.mk (Kd.R_below (by (with_reducible repeat (first | apply Kd.R_alloc | apply Kd.R_drewN | apply Kd.R_drew)); exact HOz26.out) hb); have n3_ := Aside0.mk (blk_below (g := gbz4) (o := .cells #[.int .i64 t140, .slice Aoz13 t141.length coz14] 32 (0, 0)) (by (with_reducible repeat (first | refine blk_drewN ?_ _ | refine blk_drew ?_ | refine blk_alloc ?_ _)); exact BKz6.out) hb); have n4_ := Aside0.mk (below_step (by repeat (first | (with_reducible first | exact HB.out | apply below_alloc | apply pw_below_drewN | apply below_drew1 | refine below_set ?_ GEz8.out) | exact HB.out)) hb); have n5_ := Aside0.mk (hbox); have n6_ := Aside0.mk ((by rw [hg]; exact (below_size (by repeat (first | (with_reducible first | exact HB.out | apply below_alloc | apply pw_below_drewN | apply below_drew1 | refine below_set ?_ GEz8.out) | exact HB.out))) : w.heap.size ≤ gbz27)); have n7_ := Aside0.mk ((by rw [hg]; exact (below_size (by repeat (first | (with_reducible first | exact HB.out | apply below_alloc | apply pw_below_drewN | apply below_drew1 | refine below_set ?_ GEz8.out) | exact HB.out))) : w.heap.size ≤ gbz27)); have n8_ := Aside0.mk ((by rw [hg]; exact Nat.ne_of_lt (blk_lt (g := gbz4) (o := .cells #[.int .i64 t140, .slice Aoz13 t141.length coz14] 32 (0, 0)) (by (with_reducible repeat (first | refine blk_drewN ?_ _ | refine blk_drew ?_ | refine blk_alloc ?_ _)); exact BKz6.out)) : gbz4 ≠ gbz27)); have n9_ := Aside0.mk ((by rw [hg]; exact Nat.ne_of_gt (blk_lt (g := gbz4) (o := .cells #[.int .i64 t140, .slice Aoz13 t141.length coz14] 32 (0, 0)) (by (with_reducible repeat (first | refine blk_drewN ?_ _ | refine blk_drew ?_ | refine blk_alloc ?_ _)); exact BKz6.out)) : gbz27 ≠ gbz4)); clear HOz3; clear HOz20; clear HOz26; clear BKz6; clear HB; have HOz3 := n0_; have HOz20 := n1_; have HOz26 := n2_; have BKz6 := n3_; have HB := n4_; have BKz29 := n5_; have GWz30 := n6_; have GEz31 := n7_; have NBz32 := n8_; have NBz33 := n9_; clear n0_ n1_ n2_ n3_ n4_ n5_ n6_ n7_ n8_ n9_; clear hb hbox hg; have hnbz34 := NBz33.out; have hncz35 := NBz32.out; have hczz36 : wz28.cell? ⟨gbz27, 0, none⟩ = some (.int .i64 0) := (blk_cell BKz29.out 0).trans rfl; have hczz37 : wz28.cell? ⟨gbz27, 1, none⟩ = some (.slice none 0 0) := (blk_cell BKz29.out 1).trans rfl; have hfzz38 := blk_frozen BKz29.out 0; have hfzz39 := blk_frozen BKz29.out 1; obtain ⟨Aoz40, coz41, eoz42⟩ := Kd.R_slice HOz26.out; subst eoz42) | ((with_reducible refine gate_dst (N := 27) rfl ?_); refine Kd.R_lit Kd.string _ 9 ?hg (N := 27) ?hd (xs := ([(⟨#[99]⟩ : ByteArray), (⟨#[97, 98]⟩ : ByteArray)] : List ByteArray)) (inner := [.string (⟨#[99]⟩ : ByteArray), .string (⟨#[97, 98]⟩ : ByteArray)]) (ok := fun _ => True) (okp := fun _ => True) ?hr ?hp (fun _ hk => hk) trivial (Below.refl _ _) (Nat.le_refl _) (by simp) ?_; (case hd => rfl); (case hg => rfl); (case hr => first | (go_simp; done) | (go_simp; rfl)); (case hp => exact (Reps.one (show Kd.M Kd.string _ _ _ (⟨#[99]⟩ : ByteArray) [.string (⟨#[99]⟩ : ByteArray)] from rfl) (Reps.one (show Kd.M Kd.string _ _ _ (⟨#[97, 98]⟩ : ByteArray) [.string (⟨#[97, 98]⟩ : ByteArray)] from rfl) (Reps.none _ _)))); intro vz43 wz44 hoz45 hb hg_ hnew_; clear hg_ hnew_; (first | rw [← Ny157.out] at hoz45 | (simp only [Int.reduceToNat] at hoz45; rw [← Ny157.out] at hoz45)); have n0_ := Aside0.mk (Kd.R_below (by (with_reducible repeat (first | apply Kd.R_alloc | apply Kd.R_drewN | apply Kd.R_drew)); exact (Kd.R_mono (Kd.R_far (p := ⟨gbz27, 1, none⟩) (Kd.R_far (p := ⟨gbz27, 0, none⟩) (Kd.R_types HOz3.out BKz29.out (by decide)) (fun _ hk => hk.2) (.int .i64 t151)) (fun _ hk => hk.2) (.slice Aoz40 t152.length coz41)) (fun _ h_ => h_.1))) hb); have n1_ := Aside0.mk (Kd.R_elder' (by (with_reducible repeat (first | apply Kd.R_alloc | apply Kd.R_drewN | apply Kd.R_drew)); exact (Kd.R_mono (Kd.R_far (p := ⟨gbz27, 1, none⟩) (Kd.R_far (p := ⟨gbz27, 0, none⟩) (Kd.R_types HOz20.out BKz29.out (by decide)) (fun _ hk => hk.2) (.int .i64 t151)) (fun _ hk => hk.2) (.slice Aoz40 t152.length coz41)) (fun _ h_ => h_.1))) (Kd.R_base hoz45) hb); have n2_ := Aside0.mk (Kd.R_below (by (with_reducible repeat (first | apply Kd.R_alloc | apply Kd.R_drewN | apply Kd.R_drew)); exact (Kd.R_mono (Kd.R_far (p := ⟨gbz27, 1, none⟩) (Kd.R_far (p := ⟨gbz27, 0, none⟩) (Kd.R_types HOz26.out BKz29.out (by decide)) (fun _ hk => hk.2) (.int .i64 t151)) (fun _ hk => hk.2) (.slice Aoz40 t152.length coz41)) (fun _ h_ => h_.1))) hb); have n3_ := Aside0.mk (Kd.R_lower (Kd.R_new' hoz45 (Kd.R_lt (by (with_reducible repeat (first | apply Kd.R_alloc | apply Kd.R_drewN | apply Kd.R_drew)); exact (Kd.R_mono (Kd.R_far (p := ⟨gbz27, 1, none⟩) (Kd.R_far (p := ⟨gbz27, 0, none⟩) (Kd.R_types HOz20.out BKz29.out (by decide)) (fun _ hk => hk.2) (.int .i64 t151)) (fun _ hk => hk.2) (.slice Aoz40 t152.length coz41)) (fun _ h_ => h_.1))))) (below_size (by repeat (first | (with_reducible first | exact HB.out | apply below_alloc | apply pw_below_drewN | apply below_drew1 | refine below_set ?_ GEz8.out | refine below_set ?_ GEz31.out) | exact HB.out)))); have n4_ := Aside0.mk (blk_below (g := gbz4) (o := .cells #[.int .i64 t140, .slice Aoz13 t141.length coz14] 32 (0, 0)) (by (with_reducible repeat (first | refine blk_drewN ?_ _ | refine blk_drew ?_ | refine blk_alloc ?_ _)); refine blk_far ?_ NBz32.out _; (with_reducible repeat (first | refine blk_drewN ?_ _ | refine blk_drew ?_ | refine blk_alloc ?_ _)); refine blk_far ?_ NBz32.out _; (with_reducible repeat (first | refine blk_drewN ?_ _ | refine blk_drew ?_ | refine blk_alloc ?_ _)); exact BKz6.out) hb); have n5_ := Aside0.mk (blk_below (g := gbz27) (o := .cells #[.int .i64 t151, .slice Aoz40 t152.length coz41] 32 (0, 0)) (by (with_reducible repeat (first | refine blk_drewN ?_ _ | refine blk_drew ?_ | refine blk_alloc ?_ _)); refine blk_put (cs := #[.int .i64 t151, .slice none 0 0]) ?_ 1 _ rfl; (with_reducible repeat (first | refine blk_drewN ?_ _ | refine blk_drew ?_ | refine blk_alloc ?_ _)); refine blk_put (cs := #[.int .i64 0, .slice none 0 0]) ?_ 0 _ rfl; (with_reducible repeat (first | refine blk_drewN ?_ _ | refine blk_drew ?_ | refine blk_alloc ?_ _)); exact BKz29.out) hb); have n6_ := Aside0.mk (below_step (by repeat (first | (with_reducible first | exact HB.out | apply below_alloc | apply pw_below_drewN | apply below_drew1 | refine below_set ?_ GEz8.out | refine below_set ?_ GEz31.out) | exact HB.out)) hb); clear HOz3; clear HOz20; clear HOz26; clear BKz6; clear BKz29; clear HB; have HOz3 := n0_; have HOz20 := n1_; have HOz26 := n2_; have HOz46 := n3_; have BKz6 := n4_; have BKz29 := n5_; have HB := n6_; clear n0_ n1_ n2_ n3_ n4_ n5_ n6_; clear hb hoz45; obtain ⟨Aoz47, coz48, eoz49⟩ := Kd.R_slice HOz46.out; subst eoz49) | ((with_reducible refine gate_callee (f := 20) rfl ?_); refine goesL_ (some 28) rfl rfl Try.func20 (by kernel_rfl) rfl #[.agg #[.int .i64 t151, .slice Aoz40 t152.length coz41], .slice Aoz47 y157.length coz48] rfl (by (try simp only [List.map_toArray, List.map_cons, List.map_nil]); first | done | rfl | (simp only [List.length_drop, List.length_take]; rfl)) ?_; (with_reducible refine (manifest_Restore.calls t151 _ _ t152 _ _ y157 t160 t161 _ ?side1 ?side2 ?side3 ?side4 A4.out).mono ?_); (case side1 => repeat (first | exact (Kd.R_reads' HOz26.out).2.2 | (with_reducible refine Kd.C_alloc ?_ _) | (with_reducible refine Kd.C_drewN ?_ _) | (with_reducible refine Kd.C_drew ?_))); (case side2 => exact (Kd.R_reads' HOz26.out).2.1); (case side3 => repeat (first | exact (Kd.R_reads' HOz46.out).2.2 | (with_reducible refine Kd.C_alloc ?_ _) | (with_reducible refine Kd.C_drewN ?_ _) | (with_reducible refine Kd.C_drew ?_))); (case side4 => exact (Kd.R_reads' HOz46.out).2.1); rintro e wz50 ⟨rfl, hb⟩; refine ⟨_, rfl, ?_⟩; have n0_ := Aside0.mk (Kd.R_below (by (with_reducible repeat (first | apply Kd.R_alloc | apply Kd.R_drewN | apply Kd.R_drew)); exact HOz3.out) hb); have n1_ := Aside0.mk (Kd.R_below (by (with_reducible repeat (first | apply Kd.R_alloc | apply Kd.R_drewN | apply Kd.R_drew)); exact HOz20.out) hb); have n2_ := Aside0.mk (Kd.R_below (by (with_reducible repeat (first | apply Kd.R_alloc | apply Kd.R_drewN | apply Kd.R_drew)); exact HOz26.out) hb); have n3_ := Aside0.mk (Kd.R_below (by (with_reducible repeat (first | apply Kd.R_alloc | apply Kd.R_drewN | apply Kd.R_drew)); exact HOz46.out) hb); have n4_ := Aside0.mk (blk_below (g := gbz4) (o := .cells #[.int .i64 t140, .slice Aoz13 t141.length coz14] 32 (0, 0)) (by (with_reducible repeat (first | refine blk_drewN ?_ _ | refine blk_drew ?_ | refine blk_alloc ?_ _)); exact BKz6.out) hb); have n5_ := Aside0.mk (blk_below (g := gbz27) (o := .cells #[.int .i64 t151, .slice Aoz40 t152.length coz41] 32 (0, 0)) (by (with_reducible repeat (first | refine blk_drewN ?_ _ | refine blk_drew ?_ | refine blk_alloc ?_ _)); exact BKz29.out) hb); have n6_ := Aside0.mk (below_step (by repeat (first | (with_reducible first | exact HB.out | apply below_alloc | apply pw_below_drewN | apply below_drew1 | refine below_set ?_ GEz8.out | refine below_set ?_ GEz31.out) | exact HB.out)) hb); clear HOz3; clear HOz20; clear HOz26; clear HOz46; clear BKz6; clear BKz29; clear HB; have HOz3 := n0_; have HOz20 := n1_; have HOz26 := n2_; have HOz46 := n3_; have BKz6 := n4_; have BKz29 := n5_; have HB := n6_; clear n0_ n1_ n2_ n3_ n4_ n5_ n6_; (try clear hb); (try clear hb2); (try clear hk); (try clear hi); have hczz51 : wz50.cell? ⟨gbz27, 0, none⟩ = some (.int .i64 t151) := (blk_cell BKz29.out 0).trans rfl; have hczz52 : wz50.cell? ⟨gbz27, 1, none⟩ = some (.slice Aoz40 t152.length coz41) := (blk_cell BKz29.out 1).trans rfl; have hfzz53 := blk_frozen BKz29.out 0; have hfzz54 := blk_frozen BKz29.out 1) | ((with_reducible refine gate_callee (f := 22) rfl ?_); refine goesL_ (some 33) rfl rfl Try.func22 (by kernel_rfl) rfl #[.agg #[.int .i64 t151, .slice Aoz40 t152.length coz41]] rfl (by (try simp only [List.map_toArray, List.map_cons, List.map_nil]); first | done | rfl | (simp only [List.length_drop, List.length_take]; rfl)) ?_; (with_reducible refine (manifest_Size.calls k t151 _ _ t152 t162 t163 _ ?side1 ?side2 A5.out).mono ?_); (case side1 => repeat (first | exact (Kd.R_reads' HOz26.out).2.2 | (with_reducible refine Kd.C_alloc ?_ _) | (with_reducible refine Kd.C_drewN ?_ _) | (with_reducible refine Kd.C_drew ?_))); (case side2 => exact (Kd.R_reads' HOz26.out).2.1); rintro e wz55 ⟨rfl, hb⟩; refine ⟨_, rfl, ?_⟩; have n0_ := Aside0.mk (Kd.R_below (by (with_reducible repeat (first | apply Kd.R_alloc | apply Kd.R_drewN | apply Kd.R_drew)); exact HOz3.out) hb); have n1_ := Aside0.mk (Kd.R_below (by (with_reducible repeat (first | apply Kd.R_alloc | apply Kd.R_drewN | apply Kd.R_drew)); exact HOz20.out) hb); have n2_ := Aside0.mk (Kd.R_below (by (with_reducible repeat (first | apply Kd.R_alloc | apply Kd.R_drewN | apply Kd.R_drew)); exact HOz26.out) hb); have n3_ := Aside0.mk (Kd.R_below (by (with_reducible repeat (first | apply Kd.R_alloc | apply Kd.R_drewN | apply Kd.R_drew)); exact HOz46.out) hb); have n4_ := Aside0.mk (blk_below (g := gbz4) (o := .cells #[.int .i64 t140, .slice Aoz13 t141.length coz14] 32 (0, 0)) (by (with_reducible repeat (first | refine blk_drewN ?_ _ | refine blk_drew ?_ | refine blk_alloc ?_ _)); exact BKz6.out) hb); have n5_ := Aside0.mk (blk_below (g := gbz27) (o := .cells #[.int .i64 t151, .slice Aoz40 t152.length coz41] 32 (0, 0)) (by (with_reducible repeat (first | refine blk_drewN ?_ _ | refine blk_drew ?_ | refine blk_alloc ?_ _)); exact BKz29.out) hb); have n6_ := Aside0.mk (below_step (by repeat (first | (with_reducible first | exact HB.out | apply below_alloc | apply pw_below_drewN | apply below_drew1 | refine below_set ?_ GEz8.out | refine below_set ?_ GEz31.out) | exact HB.out)) hb); clear HOz3; clear HOz20; clear HOz26; clear HOz46; clear BKz6; clear BKz29; clear HB; have HOz3 := n0_; have HOz20 := n1_; have HOz26 := n2_; have HOz46 := n3_; have BKz6 := n4_; have BKz29 := n5_; have HB := n6_; clear n0_ n1_ n2_ n3_ n4_ n5_ n6_; (try clear hb); (try clear hb2); (try clear hk); (try clear hi))))
 all_goals ((go_ret); (exact ⟨by first | rfl | (simp [errW_none, errW_some] <;> rfl) | (simp [*, errW_none, errW_some] <;> rfl), by repeat (first | (with_reducible first | exact HB.out | apply below_alloc | apply pw_below_drewN | apply below_drew1 | refine below_set ?_ GEz8.out | refine below_set ?_ GEz31.out) | exact HB.out)⟩))
end Go.Proofs.Ytodhkbahjomfhaa.Q

namespace Go.Proofs.Ytodhkbahjomfhaa.Q
open Go.RowKit Go.Proofs.YtodhkbahjomfhaaW.PrintWords Go.Proofs.YtodhkbahjomfhaaW.PrintLast Go.Proofs.YtodhkbahjomfhaaW.PrintMore Go.Proofs.Ytodhkbahjomfhaa.Gput Go.Proofs.Ytodhkbahjomfhaa.Gputl
attribute [local go_sem] max2_int min2_int max_two min_two max_three min_three max_four min_four   -- for this text's walks alone
set_option linter.unusedVariables false
set_option linter.unusedSimpArgs false
noncomputable def storagebarterlaw08_small.l0 : Nat → Int → List ByteArray → Int → Int → Option (Bool)
 | 0, _, _, _, _ => none
 | k + 1, x3, x6, x7, x8 => if x8 < x7 then (if 0 ≤ x8 then (if x8 < (x6.length : Int) then (storagebarterlaw08_small.l0 k (wrap64 (x3 + (wrap64 (1 + ((rdOf ByteArray.empty x6 x8).size : Int))))) x6 x7 (wrap64 (x8 + 1))) else (none)) else (none)) else (some (decide (x3 < 2000)))
noncomputable def storagebarterlaw08_small.f (k : Nat) (l0 : List ByteArray) : Option (Bool) := storagebarterlaw08_small.l0 k 0 l0 (l0.length : Int) 0
set_option maxHeartbeats 8000000 in
set_option maxRecDepth 100000 in
theorem storagebarterlaw08_small.calls (k : Nat) (A0 : Option Addr) (c0 : Nat) (l0 : List ByteArray) (r : Bool) (w : World) (hr0 : Kd.C Kd.string w A0 l0.length l0) (hc0 : l0.length ≤ c0) (h : storagebarterlaw08_small.f k l0 = some r) :
 Calls Try.prog 15 #[.slice A0 l0.length c0] w fun e w' => e = .returned (.bool r) ∧ Drawn0 w w' := by
 have HR0 := Aside0.mk hr0
 have HC0 := Aside0.mk hc0
 clear hr0 hc0
 have H : (storagebarterlaw08_small.l0 k 0 l0 (l0.length : Int) 0) = some r := h
 clear h
 have H' := Aside0.mk H
 clear H
 go_enter Try.func15, Try.ntmps15
 go_wp2
 go_loopg [3, 8] k (fun kq v3 v8 w' => ∃ (x3_1 : Int) (x8_1 : Int), v3 = .int .i64 x3_1 ∧ v8 = .int .i64 x8_1 ∧ Aside0 (storagebarterlaw08_small.l0 kq x3_1 l0 (l0.length : Int) x8_1 = some r) ∧ Aside0 (kq ≤ k) ∧ Drawn0 w w')
 case atStart => exact ⟨(0), (0), (by first | rfl | (simp; done) | (simp [*]; done)), (by first | rfl | (simp; done) | (simp [*]; done)), H', ⟨Nat.le_refl _⟩, by repeat (first | exact Drawn0.refl _ | apply Drawn0.step)⟩
 case round =>
  clear H'
  try clear c1
  obtain ⟨x3_1, x8_1, rfl, rfl, HA, HK1, ⟨m1, rfl⟩⟩ := hrel
  cases gk with
  | zero => exact absurd HA.out (by simp [storagebarterlaw08_small.l0])
  | succ k1 =>
   have H := HA.out
   clear HA
   simp only [storagebarterlaw08_small.l0] at H
   by_cases c2 : x8_1 < (l0.length : Int)
   ·rw [if_pos c2] at H
    have c2b0 : decide (x8_1 < (l0.length : Int)) = true := decide_eq_true c2
    clear c2
    by_cases c3 : 0 ≤ x8_1
    ·rw [if_pos c3] at H
     have c3b0 : decide (0 ≤ x8_1) = true := decide_eq_true c3
     clear c3
     by_cases c4 : x8_1 < (l0.length : Int)
     ·rw [if_pos c4] at H
      have c4b0 : decide (x8_1 < (l0.length : Int)) = true := decide_eq_true c4
      clear c4
      have H' := Aside0.mk H
      clear H
      have p164 : 0 ≤ (x8_1 : Int) := of_decide_eq_true (by first | (with_reducible assumption) | assumption)
      have q164 : x8_1 < (l0.length : Int) := of_decide_eq_true (by first | (with_reducible assumption) | assumption)
      obtain ⟨ad164, e164, hx164_0⟩ := Kd.at_string HR0.out x8_1 p164 q164
      cases e164
      replace p164 := eq_true p164
      replace q164 := eq_true q164
      go_wp2
      go_roundg k1
      case measure => have := HK1.out; omega
      case rel => exact ⟨(wrap64 (x3_1 + (wrap64 (1 + ((rdOf ByteArray.empty l0 x8_1).size : Int))))), (wrap64 (x8_1 + 1)), (by first | rfl | (simp; done) | (simp [*]; done)), (by first | rfl | (simp; done) | (simp [*]; done)), H', ⟨by have := HK1.out; omega⟩, by repeat (first | exact Drawn0.refl _ | apply Drawn0.step)⟩
     ·rw [if_neg c4] at H
      exact absurd H (by simp)
    ·rw [if_neg c3] at H
     exact absurd H (by simp)
   ·rw [if_neg c2] at H
    have c2b0 : decide (x8_1 < (l0.length : Int)) = false := decide_eq_false c2
    clear c2
    obtain rfl := Option.some.inj H
    go_wp2
    go_ret
    exact ⟨by first | rfl | (simp; done) | (simp [*]; done), by repeat (first | exact Drawn0.refl _ | apply Drawn0.step)⟩
end Go.Proofs.Ytodhkbahjomfhaa.Q

namespace Go.Proofs.Ytodhkbahjomfhaa.Q
open Go.RowKit Go.Proofs.YtodhkbahjomfhaaW.PrintWords Go.Proofs.YtodhkbahjomfhaaW.PrintLast Go.Proofs.YtodhkbahjomfhaaW.PrintMore Go.Proofs.Ytodhkbahjomfhaa.Gput Go.Proofs.Ytodhkbahjomfhaa.Gputl
attribute [local go_sem] max2_int min2_int max_two min_two max_three min_three max_four min_four   -- for this text's walks alone
set_option linter.unusedVariables false
set_option linter.unusedSimpArgs false
noncomputable def storagebartermake_Few.f (l0 : List Int) : Option (Bool) := some (decide ((l0.length : Int) ≤ 500))
set_option maxHeartbeats 8000000 in
set_option maxRecDepth 100000 in
theorem storagebartermake_Few.calls (A0 : Option Addr) (c0 : Nat) (l0 : List Int) (r : Bool) (w : World) (hr0 : Kd.C (Kd.int .i64) w A0 l0.length l0) (hc0 : l0.length ≤ c0) (h : storagebartermake_Few.f l0 = some r) :
 Calls Try.prog 14 #[.slice A0 l0.length c0] w fun e w' => e = .returned (.bool r) ∧ Drawn0 w w' := by
 have HR0 := Aside0.mk hr0
 have HC0 := Aside0.mk hc0
 clear hr0 hc0
 have H : (some (decide ((l0.length : Int) ≤ 500))) = some r := h
 clear h
 obtain rfl := Option.some.inj H
 go_enter Try.func14, Try.ntmps14
 go_wp2
 go_ret
 exact ⟨by first | rfl | (simp; done) | (simp [*]; done), by repeat (first | exact Drawn0.refl _ | apply Drawn0.step)⟩
end Go.Proofs.Ytodhkbahjomfhaa.Q

namespace Go.Proofs.Ytodhkbahjomfhaa.Q
open Go.RowKit Go.Proofs.YtodhkbahjomfhaaW.PrintWords Go.Proofs.YtodhkbahjomfhaaW.PrintLast Go.Proofs.YtodhkbahjomfhaaW.PrintMore Go.Proofs.Ytodhkbahjomfhaa.Gput Go.Proofs.Ytodhkbahjomfhaa.Gputl
attribute [local go_sem] max2_int min2_int max_two min_two max_three min_three max_four min_four   -- for this text's walks alone
set_option linter.unusedVariables false
set_option linter.unusedSimpArgs false
noncomputable def IsS86 (w0 W : World) (g : Nat) (f0 : List Int) (f1 : Int) : Prop := ∃ A0 c0, W.heap[g]? = some (.cells #[.slice A0 f0.length c0, .int .i64 f1] 86 (0, 0)) ∧ w0.heap.size ≤ g ∧ Kd.C (Kd.int .i64) w0 A0 f0.length f0
theorem IsS86.grown {w0 W : World} {g : Nat} {f0 : List Int} {f1 : Int} {W1 : World} {row : Option Nat} (h : IsS86 w0 W g f0 f1) (hw : W.grownBy W1 row) (hne : some g ≠ row) : IsS86 w0 W1 g f0 f1 := by
 obtain ⟨A0, c0, hb, hg, hr0⟩ := h
 exact ⟨A0, c0, blk_grown hb hw hne, hg, hr0⟩
theorem IsS86.kept {w0 W : World} {g : Nat} {f0 : List Int} {f1 : Int} {W1 : World} {S : Nat → Prop} (h : IsS86 w0 W g f0 f1) (hk : Kept W W1 S) (hne : ¬ S g) : IsS86 w0 W1 g f0 f1 := by
 obtain ⟨A0, c0, hb, hg, hr0⟩ := h
 exact ⟨A0, c0, blk_kept hb hk hne, hg, hr0⟩
theorem IsS86.below {w0 W : World} {g : Nat} {f0 : List Int} {f1 : Int} {W1 : World} (h : IsS86 w0 W g f0 f1) (hw : Below W.heap.size W W1) : IsS86 w0 W1 g f0 f1 := h.grown (grown_of_below hw none) (by simp)
theorem IsS86.alloc {w0 W : World} {g : Nat} {f0 : List Int} {f1 : Int} (h : IsS86 w0 W g f0 f1) (o : Obj) : IsS86 w0 (W.alloc o) g f0 f1 := h.below (below_alloc (Below.refl _ _) o)
theorem IsS86.drewN {w0 W : World} {g : Nat} {f0 : List Int} {f1 : Int} (h : IsS86 w0 W g f0 f1) (m : Nat) : IsS86 w0 (W.drewN m) g f0 f1 := h
theorem IsS86.drew {w0 W : World} {g : Nat} {f0 : List Int} {f1 : Int} (h : IsS86 w0 W g f0 f1) : IsS86 w0 W.drew g f0 f1 := h
theorem IsS86.at_ {w0 W : World} {g : Nat} {f0 : List Int} {f1 : Int} {w' : World} {m : Nat} (hq : W.drewN m = w') (h : IsS86 w0 W g f0 f1) : IsS86 w0 w' g f0 f1 := by subst hq; exact IsS86.drewN h m
theorem IsS86.apart {w0 W : World} {g : Nat} {f0 : List Int} {f1 : Int} {α : Type} {d : Kd α} {e : Nat} {base : Nat} {ok : Nat → Prop} {v : Value} {xs : List α} (h : IsS86 w0 W g f0 f1) (ho : d.R e W base ok v xs) (ht : ∀ q, q ∈ e :: d.E → q ≠ 86) : d.R e W base (fun k => ok k ∧ k ≠ g) v xs := by
 obtain ⟨A0, c0, hb, hg, hr0⟩ := h
 exact Kd.R_types ho hb ht
theorem IsS86.own_ne {w0 W : World} {g : Nat} {f0 : List Int} {f1 : Int} {α : Type} {d : Kd α} {e : Nat} {base : Nat} {ok : Nat → Prop} {v : Value} {xs : List α} (h : IsS86 w0 W g f0 f1) (ho : d.R e W base ok v xs) (ht : e ≠ 86) : some g ≠ v.ownBlock := by
 obtain ⟨A0, c0, hb, hg, hr0⟩ := h
 exact Kd.R_ne ho hb ht
theorem IsS86.lt {w0 W : World} {g : Nat} {f0 : List Int} {f1 : Int} (h : IsS86 w0 W g f0 f1) : g < W.heap.size := by
 obtain ⟨A0, c0, hb, hg, hr0⟩ := h
 exact blk_lt hb
theorem IsS86.ge {w0 W : World} {g : Nat} {f0 : List Int} {f1 : Int} (h : IsS86 w0 W g f0 f1) : w0.heap.size ≤ g := by
 obtain ⟨A0, c0, hb, hg, hr0⟩ := h
 exact hg
theorem IsS86.far {w0 W : World} {g : Nat} {f0 : List Int} {f1 : Int} {p : Addr} (h : IsS86 w0 W g f0 f1) (hne : g ≠ p.block) (u : Value) : IsS86 w0 (W.setCell p u) g f0 f1 := by
 obtain ⟨A0, c0, hb, hg, hr0⟩ := h
 exact ⟨A0, c0, blk_far hb hne u, hg, hr0⟩
theorem cellS86_0 {W : World} {g : Nat} {A0 : Option Addr} {c0 : Nat} {f0 : List Int} {f1 : Int} (h : W.heap[g]? = some (.cells #[.slice A0 f0.length c0, .int .i64 f1] 86 (0, 0))) : W.cell? ⟨g, 0, none⟩ = some (.slice A0 f0.length c0) := (blk_cell h 0).trans rfl
theorem cellS86_1 {W : World} {g : Nat} {A0 : Option Addr} {c0 : Nat} {f0 : List Int} {f1 : Int} (h : W.heap[g]? = some (.cells #[.slice A0 f0.length c0, .int .i64 f1] 86 (0, 0))) : W.cell? ⟨g, 1, none⟩ = some (.int .i64 f1) := (blk_cell h 1).trans rfl
theorem IsS86.set_1 {w0 W : World} {g : Nat} {f0 : List Int} {f1 : Int} (h : IsS86 w0 W g f0 f1) (x : Int) : IsS86 w0 (W.setCell ⟨g, 1, none⟩ (.int .i64 x)) g f0 x := by
 obtain ⟨A0, c0, hb, hg, hr0⟩ := h
 exact ⟨A0, c0, by simpa using blk_set hb 1 (.int .i64 x), hg, hr0⟩
theorem IsS86.new (w0 W : World) (A0 : Option Addr) (c0 : Nat) (f0 : List Int) (f1 : Int) (hB : Below w0.heap.size w0 W) (hr0 : Kd.C (Kd.int .i64) w0 A0 f0.length f0) : IsS86 w0 (W.alloc (.cells #[.slice A0 f0.length c0, .int .i64 f1] 86)) W.heap.size f0 f1 := ⟨A0, c0, by simpa using heap_alloc_new W _, hB.size, hr0⟩
noncomputable def storagebartermake_New.f (l0 : List Int) : Option (List Int × Int) := some (l0, 0)
set_option maxHeartbeats 8000000 in
set_option maxRecDepth 100000 in
theorem storagebartermake_New.calls (A0 : Option Addr) (c0 : Nat) (l0 : List Int) (r1 : List Int) (r2 : Int) (w0 w : World) (hB : Below w0.heap.size w0 w) (hr0 : Kd.C (Kd.int .i64) w0 A0 l0.length l0) (hc0 : l0.length ≤ c0) (h : storagebartermake_New.f l0 = some (r1, r2)) :
 Calls Try.prog 16 #[.slice A0 l0.length c0] w fun e w' => ∃ g_ : Nat, e = .returned (.pointer (some ⟨g_, 0, none⟩)) ∧ IsS86 w0 w' g_ r1 r2 ∧ Below w0.heap.size w0 w' ∧ Below w.heap.size w w' := by
 have hu86 := Try.underlying86
 have HR0 := Aside0.mk hr0
 have HC0 := Aside0.mk hc0
 clear hr0 hc0
 have HBW := Aside0.mk (Below.refl w.heap.size w)
 have HW0 := Aside0.mk hB.size
 have HB := Aside0.mk hB
 clear hB
 have H : (some (l0, 0)) = some (r1, r2) := h
 clear h
 simp only [Option.some.injEq, Prod.mk.injEq] at H
 obtain ⟨rfl, rfl⟩ := H
 go_enter Try.func16, Try.ntmps16
 go_wp2_with (first | ((with_reducible refine gate_dst (N := 5) rfl ?_); refine box_event ?hg (N := 5) ?hd (cs := #[.slice A0 l0.length c0, .int .i64 0]) (t := 86) ?hr ?_; (case hd => rfl); (case hg => rfl); (case hr => first | (go_simp; done) | (go_simp; rfl)); intro gb165 hg w2 hbox hb; have n0_ := Aside0.mk (below_step HBW.out hb); have n1_ := Aside0.mk (below_step (by repeat (first | (with_reducible first | exact HB.out | apply below_alloc | apply pw_below_drewN | apply below_drew1) | exact HB.out)) hb); have n2_ := Aside0.mk (hbox); have n3_ := Aside0.mk ((by rw [hg]; exact (below_size (by repeat (first | (with_reducible first | exact HBW.out | apply below_alloc | apply pw_below_drewN | apply below_drew1) | exact HBW.out))) : w.heap.size ≤ gb165)); have n4_ := Aside0.mk ((Nat.le_trans HW0.out (by rw [hg]; exact (below_size (by repeat (first | (with_reducible first | exact HBW.out | apply below_alloc | apply pw_below_drewN | apply below_drew1) | exact HBW.out))) : w.heap.size ≤ gb165) : w0.heap.size ≤ gb165)); clear HBW; clear HB; have HBW := n0_; have HB := n1_; have BK165 := n2_; have GW165 := n3_; have GE165 := n4_; clear n0_ n1_ n2_ n3_ n4_; clear hb hbox hg))
 go_ret
 exact ⟨_, rfl, (show IsS86 w0 _ gb165 l0 0 from ⟨_, _, by (with_reducible repeat (first | refine blk_drewN ?_ _ | refine blk_drew ?_ | refine blk_alloc ?_ _)); exact BK165.out, GE165.out, HR0.out⟩), by repeat (first | (with_reducible first | exact HB.out | apply below_alloc | apply pw_below_drewN | apply below_drew1 | refine below_set ?_ GE165.out) | exact HB.out), by repeat (first | (with_reducible first | exact HBW.out | apply below_alloc | apply pw_below_drewN | apply below_drew1 | refine below_set ?_ GW165.out) | exact HBW.out)⟩
end Go.Proofs.Ytodhkbahjomfhaa.Q

namespace Go.Proofs.YtodhkbahjomfhaaW.PrintLast
open Go Go.RowKit Go.Proofs.YtodhkbahjomfhaaW.PrintWords
set_option linter.unusedVariables false
variable {P : Program} {md : Region.Mode} {ops : Array Oper} {Q : Exit → Act → World → Prop} {S : World → Prop} {ds : List Nat} {T : Bool × List (List Nat × List Nat)}
theorem pu (i K : Nat) {oi : Oper} {v : Value} {fuel : Nat} {l : Array Bool} {a : Act} {w : World} (HT : Aside0 (rtab md ops = T)) (hi : ops[i]? = some oi) (hN : oi.dst = some K) (hc : anyT T l.toList (l.setIfInBounds i true).toList i = true)
 (hQ : ∀ c a w, Q (.panic c) (a.put oi.dst v) w → Q (.panic c) a w) (hy : Yields P ops oi v a) {a' : Act} (ha : a.put (some K) v = a') (h : wpAnyLast P md ops Q S ds fuel (l.setIfInBounds i true) a' w) : wpAnyLast P md ops Q S ds (fuel + 1) l a w :=
 pure_ _ hi hN (any_of HT.out hc) hQ hy ha h
theorem tk {B : List Nat} (i K : Nat) {oi : Oper} {v : Value} {fuel : Nat} {l : Array Bool} {a : Act} {w : World} (HT : Aside0 (rtab md ops = T)) (HW : Aside0 (waitsOk T.2 B = true)) (hi : ops[i]? = some oi) (hN : oi.dst = some K) (hc : takeW T B ds l.toList (l.setIfInBounds i true).toList i = true)
 (hQ : ∀ c a w, Q (.panic c) (a.put oi.dst v) w → Q (.panic c) a w) (hy : YieldsIf P ops S oi v a) (hS : S w) {a' : Act} (ha : a.put (some K) v = a') (h : wpAnyLast P md ops Q S ds fuel (l.setIfInBounds i true) a' w) : wpAnyLast P md ops Q S ds (fuel + 1) l a w :=
 take_ _ hi hN (take_ofW HT.out HW.out hc) hQ hy hS ha h
theorem Sa (xs : List Value) (i : Nat) (v : Value) : (List.toArray xs).setIfInBounds i v = List.toArray (xs.set i v) := List.setIfInBounds_toArray ..
theorem Sz (x : Value) (xs : List Value) (v : Value) : (x :: xs).set 0 v = v :: xs := rfl
theorem Ss (x : Value) (xs : List Value) (i : Nat) (v : Value) : (x :: xs).set (i + 1) v = x :: xs.set i v := rfl
end Go.Proofs.YtodhkbahjomfhaaW.PrintLast

namespace Go.Proofs.Ytodhkbahjomfhaa.Q
open Go.RowKit Go.Proofs.YtodhkbahjomfhaaW.PrintWords Go.Proofs.YtodhkbahjomfhaaW.PrintLast Go.Proofs.YtodhkbahjomfhaaW.PrintMore Go.Proofs.Ytodhkbahjomfhaa.Gput Go.Proofs.Ytodhkbahjomfhaa.Gputl
attribute [local go_sem] max2_int min2_int max_two min_two max_three min_three max_four min_four   -- for this text's walks alone
set_option linter.unusedVariables false
set_option linter.unusedSimpArgs false
noncomputable def storagebarterref04_Check.f (a0_0 : Int) (a0_1 : Int) (a0_2 : Int) (a0_3 : Int) : Option (Int) := if a0_0 < 4 then (some 1) else (if a0_0 > a0_1 then (some 1) else (if a0_1 > 256 then (some 1) else (if a0_2 < 1 then (some 1) else (if a0_2 > a0_0 then (some 1) else (if a0_3 < 1 then (some 1) else (if a0_3 > 1024 then (some 1) else (some 0)))))))
set_option maxHeartbeats 8000000 in
set_option maxRecDepth 100000 in
theorem storagebarterref04_Check.calls (a0_0 : Int) (a0_1 : Int) (a0_2 : Int) (a0_3 : Int) (r : Int) (w : World) (h : storagebarterref04_Check.f a0_0 a0_1 a0_2 a0_3 = some r) :
 Calls Try.prog 110 #[.agg #[.int .i64 a0_0, .int .i64 a0_1, .int .i64 a0_2, .int .i64 a0_3]] w fun e w' => e = .returned (.int .i64 r) ∧ Below w.heap.size w w' := by
 have hu90 := Try.underlying90
 have HB := Aside0.mk (Below.refl w.heap.size w)
 have H : (if a0_0 < 4 then (some 1) else (if a0_0 > a0_1 then (some 1) else (if a0_1 > 256 then (some 1) else (if a0_2 < 1 then (some 1) else (if a0_2 > a0_0 then (some 1) else (if a0_3 < 1 then (some 1) else (if a0_3 > 1024 then (some 1) else (some 0)))))))) = some r := h
 clear h
 by_cases c2 : a0_0 < 4
 ·rw [if_pos c2] at H
  have c2b0 : decide (a0_0 < 4) = true := decide_eq_true c2
  clear c2
  obtain rfl := Option.some.inj H
  go_enter Try.func110, Try.ntmps110
  go_wp2_with (first | ((with_reducible refine gate_dst (N := 1) rfl ?_); refine box_event ?hg (N := 1) ?hd (cs := #[.int .i64 a0_0, .int .i64 a0_1, .int .i64 a0_2, .int .i64 a0_3]) (t := 90) ?hr ?_; (case hd => rfl); (case hg => rfl); (case hr => first | (go_simp; done) | (go_simp; rfl)); intro gb166 hg w3 hbox hb; have n0_ := Aside0.mk (below_step (by repeat (first | (with_reducible first | exact HB.out | apply below_alloc | apply pw_below_drewN | apply below_drew1) | exact HB.out)) hb); have n1_ := Aside0.mk (hbox); have n2_ := Aside0.mk ((by rw [hg]; exact (below_size (by repeat (first | (with_reducible first | exact HB.out | apply below_alloc | apply pw_below_drewN | apply below_drew1) | exact HB.out))) : w.heap.size ≤ gb166)); have n3_ := Aside0.mk ((by rw [hg]; exact (below_size (by repeat (first | (with_reducible first | exact HB.out | apply below_alloc | apply pw_below_drewN | apply below_drew1) | exact HB.out))) : w.heap.size ≤ gb166)); clear HB; have HB := n0_; have BK166 := n1_; have GW166 := n2_; have GE166 := n3_; clear n0_ n1_ n2_ n3_; clear hb hbox hg; have hcz4_0 : w3.cell? ⟨gb166, 0, none⟩ = some (.int .i64 a0_0) := (blk_cell BK166.out 0).trans rfl; have hcz4_1 : w3.cell? ⟨gb166, 1, none⟩ = some (.int .i64 a0_1) := (blk_cell BK166.out 1).trans rfl; have hcz4_2 : w3.cell? ⟨gb166, 2, none⟩ = some (.int .i64 a0_2) := (blk_cell BK166.out 2).trans rfl; have hcz4_3 : w3.cell? ⟨gb166, 3, none⟩ = some (.int .i64 a0_3) := (blk_cell BK166.out 3).trans rfl; have hfz4_0 := blk_frozen BK166.out 0; have hfz4_1 := blk_frozen BK166.out 1; have hfz4_2 := blk_frozen BK166.out 2; have hfz4_3 := blk_frozen BK166.out 3))
  go_ret
  exact ⟨by first | rfl | (simp [errW_none, errW_some] <;> rfl) | (simp [*, errW_none, errW_some] <;> rfl), by repeat (first | (with_reducible first | exact HB.out | apply below_alloc | apply pw_below_drewN | apply below_drew1 | refine below_set ?_ GE166.out) | exact HB.out)⟩
 ·rw [if_neg c2] at H
  have c2b0 : decide (a0_0 < 4) = false := decide_eq_false c2
  clear c2
  by_cases c5 : a0_0 > a0_1
  ·rw [if_pos c5] at H
   have c5b0 : decide (a0_1 < a0_0) = true := decide_eq_true c5
   clear c5
   obtain rfl := Option.some.inj H
   go_enter Try.func110, Try.ntmps110
   go_wp2_with (first | ((with_reducible refine gate_dst (N := 1) rfl ?_); refine box_event ?hg (N := 1) ?hd (cs := #[.int .i64 a0_0, .int .i64 a0_1, .int .i64 a0_2, .int .i64 a0_3]) (t := 90) ?hr ?_; (case hd => rfl); (case hg => rfl); (case hr => first | (go_simp; done) | (go_simp; rfl)); intro gb166 hg w6 hbox hb; have n0_ := Aside0.mk (below_step (by repeat (first | (with_reducible first | exact HB.out | apply below_alloc | apply pw_below_drewN | apply below_drew1) | exact HB.out)) hb); have n1_ := Aside0.mk (hbox); have n2_ := Aside0.mk ((by rw [hg]; exact (below_size (by repeat (first | (with_reducible first | exact HB.out | apply below_alloc | apply pw_below_drewN | apply below_drew1) | exact HB.out))) : w.heap.size ≤ gb166)); have n3_ := Aside0.mk ((by rw [hg]; exact (below_size (by repeat (first | (with_reducible first | exact HB.out | apply below_alloc | apply pw_below_drewN | apply below_drew1) | exact HB.out))) : w.heap.size ≤ gb166)); clear HB; have HB := n0_; have BK166 := n1_; have GW166 := n2_; have GE166 := n3_; clear n0_ n1_ n2_ n3_; clear hb hbox hg; have hcz7_0 : w6.cell? ⟨gb166, 0, none⟩ = some (.int .i64 a0_0) := (blk_cell BK166.out 0).trans rfl; have hcz7_1 : w6.cell? ⟨gb166, 1, none⟩ = some (.int .i64 a0_1) := (blk_cell BK166.out 1).trans rfl; have hcz7_2 : w6.cell? ⟨gb166, 2, none⟩ = some (.int .i64 a0_2) := (blk_cell BK166.out 2).trans rfl; have hcz7_3 : w6.cell? ⟨gb166, 3, none⟩ = some (.int .i64 a0_3) := (blk_cell BK166.out 3).trans rfl; have hfz7_0 := blk_frozen BK166.out 0; have hfz7_1 := blk_frozen BK166.out 1; have hfz7_2 := blk_frozen BK166.out 2; have hfz7_3 := blk_frozen BK166.out 3))
   go_ret
   exact ⟨by first | rfl | (simp [errW_none, errW_some] <;> rfl) | (simp [*, errW_none, errW_some] <;> rfl), by repeat (first | (with_reducible first | exact HB.out | apply below_alloc | apply pw_below_drewN | apply below_drew1 | refine below_set ?_ GE166.out) | exact HB.out)⟩
  ·rw [if_neg c5] at H
   have c5b0 : decide (a0_1 < a0_0) = false := decide_eq_false c5
   clear c5
   by_cases c8 : a0_1 > 256
   ·rw [if_pos c8] at H
    have c8b0 : decide (256 < a0_1) = true := decide_eq_true c8
    clear c8
    obtain rfl := Option.some.inj H
    go_enter Try.func110, Try.ntmps110
    go_wp2_with (first | ((with_reducible refine gate_dst (N := 1) rfl ?_); refine box_event ?hg (N := 1) ?hd (cs := #[.int .i64 a0_0, .int .i64 a0_1, .int .i64 a0_2, .int .i64 a0_3]) (t := 90) ?hr ?_; (case hd => rfl); (case hg => rfl); (case hr => first | (go_simp; done) | (go_simp; rfl)); intro gb166 hg w9 hbox hb; have n0_ := Aside0.mk (below_step (by repeat (first | (with_reducible first | exact HB.out | apply below_alloc | apply pw_below_drewN | apply below_drew1) | exact HB.out)) hb); have n1_ := Aside0.mk (hbox); have n2_ := Aside0.mk ((by rw [hg]; exact (below_size (by repeat (first | (with_reducible first | exact HB.out | apply below_alloc | apply pw_below_drewN | apply below_drew1) | exact HB.out))) : w.heap.size ≤ gb166)); have n3_ := Aside0.mk ((by rw [hg]; exact (below_size (by repeat (first | (with_reducible first | exact HB.out | apply below_alloc | apply pw_below_drewN | apply below_drew1) | exact HB.out))) : w.heap.size ≤ gb166)); clear HB; have HB := n0_; have BK166 := n1_; have GW166 := n2_; have GE166 := n3_; clear n0_ n1_ n2_ n3_; clear hb hbox hg; have hcz10_0 : w9.cell? ⟨gb166, 0, none⟩ = some (.int .i64 a0_0) := (blk_cell BK166.out 0).trans rfl; have hcz10_1 : w9.cell? ⟨gb166, 1, none⟩ = some (.int .i64 a0_1) := (blk_cell BK166.out 1).trans rfl; have hcz10_2 : w9.cell? ⟨gb166, 2, none⟩ = some (.int .i64 a0_2) := (blk_cell BK166.out 2).trans rfl; have hcz10_3 : w9.cell? ⟨gb166, 3, none⟩ = some (.int .i64 a0_3) := (blk_cell BK166.out 3).trans rfl; have hfz10_0 := blk_frozen BK166.out 0; have hfz10_1 := blk_frozen BK166.out 1; have hfz10_2 := blk_frozen BK166.out 2; have hfz10_3 := blk_frozen BK166.out 3))
    go_ret
    exact ⟨by first | rfl | (simp [errW_none, errW_some] <;> rfl) | (simp [*, errW_none, errW_some] <;> rfl), by repeat (first | (with_reducible first | exact HB.out | apply below_alloc | apply pw_below_drewN | apply below_drew1 | refine below_set ?_ GE166.out) | exact HB.out)⟩
   ·rw [if_neg c8] at H
    have c8b0 : decide (256 < a0_1) = false := decide_eq_false c8
    clear c8
    by_cases c11 : a0_2 < 1
    ·rw [if_pos c11] at H
     have c11b0 : decide (a0_2 < 1) = true := decide_eq_true c11
     clear c11
     obtain rfl := Option.some.inj H
     go_enter Try.func110, Try.ntmps110
     go_wp2_with (first | ((with_reducible refine gate_dst (N := 1) rfl ?_); refine box_event ?hg (N := 1) ?hd (cs := #[.int .i64 a0_0, .int .i64 a0_1, .int .i64 a0_2, .int .i64 a0_3]) (t := 90) ?hr ?_; (case hd => rfl); (case hg => rfl); (case hr => first | (go_simp; done) | (go_simp; rfl)); intro gb166 hg w12 hbox hb; have n0_ := Aside0.mk (below_step (by repeat (first | (with_reducible first | exact HB.out | apply below_alloc | apply pw_below_drewN | apply below_drew1) | exact HB.out)) hb); have n1_ := Aside0.mk (hbox); have n2_ := Aside0.mk ((by rw [hg]; exact (below_size (by repeat (first | (with_reducible first | exact HB.out | apply below_alloc | apply pw_below_drewN | apply below_drew1) | exact HB.out))) : w.heap.size ≤ gb166)); have n3_ := Aside0.mk ((by rw [hg]; exact (below_size (by repeat (first | (with_reducible first | exact HB.out | apply below_alloc | apply pw_below_drewN | apply below_drew1) | exact HB.out))) : w.heap.size ≤ gb166)); clear HB; have HB := n0_; have BK166 := n1_; have GW166 := n2_; have GE166 := n3_; clear n0_ n1_ n2_ n3_; clear hb hbox hg; have hcz13_0 : w12.cell? ⟨gb166, 0, none⟩ = some (.int .i64 a0_0) := (blk_cell BK166.out 0).trans rfl; have hcz13_1 : w12.cell? ⟨gb166, 1, none⟩ = some (.int .i64 a0_1) := (blk_cell BK166.out 1).trans rfl; have hcz13_2 : w12.cell? ⟨gb166, 2, none⟩ = some (.int .i64 a0_2) := (blk_cell BK166.out 2).trans rfl; have hcz13_3 : w12.cell? ⟨gb166, 3, none⟩ = some (.int .i64 a0_3) := (blk_cell BK166.out 3).trans rfl; have hfz13_0 := blk_frozen BK166.out 0; have hfz13_1 := blk_frozen BK166.out 1; have hfz13_2 := blk_frozen BK166.out 2; have hfz13_3 := blk_frozen BK166.out 3))
     go_ret
     exact ⟨by first | rfl | (simp [errW_none, errW_some] <;> rfl) | (simp [*, errW_none, errW_some] <;> rfl), by repeat (first | (with_reducible first | exact HB.out | apply below_alloc | apply pw_below_drewN | apply below_drew1 | refine below_set ?_ GE166.out) | exact HB.out)⟩
    ·rw [if_neg c11] at H
     have c11b0 : decide (a0_2 < 1) = false := decide_eq_false c11
     clear c11
     by_cases c14 : a0_2 > a0_0
     ·rw [if_pos c14] at H
      have c14b0 : decide (a0_0 < a0_2) = true := decide_eq_true c14
      clear c14
      obtain rfl := Option.some.inj H
      go_enter Try.func110, Try.ntmps110
      go_wp2_with (first | ((with_reducible refine gate_dst (N := 1) rfl ?_); refine box_event ?hg (N := 1) ?hd (cs := #[.int .i64 a0_0, .int .i64 a0_1, .int .i64 a0_2, .int .i64 a0_3]) (t := 90) ?hr ?_; (case hd => rfl); (case hg => rfl); (case hr => first | (go_simp; done) | (go_simp; rfl)); intro gb166 hg w15 hbox hb; have n0_ := Aside0.mk (below_step (by repeat (first | (with_reducible first | exact HB.out | apply below_alloc | apply pw_below_drewN | apply below_drew1) | exact HB.out)) hb); have n1_ := Aside0.mk (hbox); have n2_ := Aside0.mk ((by rw [hg]; exact (below_size (by repeat (first | (with_reducible first | exact HB.out | apply below_alloc | apply pw_below_drewN | apply below_drew1) | exact HB.out))) : w.heap.size ≤ gb166)); have n3_ := Aside0.mk ((by rw [hg]; exact (below_size (by repeat (first | (with_reducible first | exact HB.out | apply below_alloc | apply pw_below_drewN | apply below_drew1) | exact HB.out))) : w.heap.size ≤ gb166)); clear HB; have HB := n0_; have BK166 := n1_; have GW166 := n2_; have GE166 := n3_; clear n0_ n1_ n2_ n3_; clear hb hbox hg; have hcz16_0 : w15.cell? ⟨gb166, 0, none⟩ = some (.int .i64 a0_0) := (blk_cell BK166.out 0).trans rfl; have hcz16_1 : w15.cell? ⟨gb166, 1, none⟩ = some (.int .i64 a0_1) := (blk_cell BK166.out 1).trans rfl; have hcz16_2 : w15.cell? ⟨gb166, 2, none⟩ = some (.int .i64 a0_2) := (blk_cell BK166.out 2).trans rfl; have hcz16_3 : w15.cell? ⟨gb166, 3, none⟩ = some (.int .i64 a0_3) := (blk_cell BK166.out 3).trans rfl; have hfz16_0 := blk_frozen BK166.out 0; have hfz16_1 := blk_frozen BK166.out 1; have hfz16_2 := blk_frozen BK166.out 2; have hfz16_3 := blk_frozen BK166.out 3))
      go_ret
      exact ⟨by first | rfl | (simp [errW_none, errW_some] <;> rfl) | (simp [*, errW_none, errW_some] <;> rfl), by repeat (first | (with_reducible first | exact HB.out | apply below_alloc | apply pw_below_drewN | apply below_drew1 | refine below_set ?_ GE166.out) | exact HB.out)⟩
     ·rw [if_neg c14] at H
      have c14b0 : decide (a0_0 < a0_2) = false := decide_eq_false c14
      clear c14
      by_cases c17 : a0_3 < 1
      ·rw [if_pos c17] at H
       have c17b0 : decide (a0_3 < 1) = true := decide_eq_true c17
       clear c17
       obtain rfl := Option.some.inj H
       go_enter Try.func110, Try.ntmps110
       go_wp2_with (first | ((with_reducible refine gate_dst (N := 1) rfl ?_); refine box_event ?hg (N := 1) ?hd (cs := #[.int .i64 a0_0, .int .i64 a0_1, .int .i64 a0_2, .int .i64 a0_3]) (t := 90) ?hr ?_; (case hd => rfl); (case hg => rfl); (case hr => first | (go_simp; done) | (go_simp; rfl)); intro gb166 hg w18 hbox hb; have n0_ := Aside0.mk (below_step (by repeat (first | (with_reducible first | exact HB.out | apply below_alloc | apply pw_below_drewN | apply below_drew1) | exact HB.out)) hb); have n1_ := Aside0.mk (hbox); have n2_ := Aside0.mk ((by rw [hg]; exact (below_size (by repeat (first | (with_reducible first | exact HB.out | apply below_alloc | apply pw_below_drewN | apply below_drew1) | exact HB.out))) : w.heap.size ≤ gb166)); have n3_ := Aside0.mk ((by rw [hg]; exact (below_size (by repeat (first | (with_reducible first | exact HB.out | apply below_alloc | apply pw_below_drewN | apply below_drew1) | exact HB.out))) : w.heap.size ≤ gb166)); clear HB; have HB := n0_; have BK166 := n1_; have GW166 := n2_; have GE166 := n3_; clear n0_ n1_ n2_ n3_; clear hb hbox hg; have hcz19_0 : w18.cell? ⟨gb166, 0, none⟩ = some (.int .i64 a0_0) := (blk_cell BK166.out 0).trans rfl; have hcz19_1 : w18.cell? ⟨gb166, 1, none⟩ = some (.int .i64 a0_1) := (blk_cell BK166.out 1).trans rfl; have hcz19_2 : w18.cell? ⟨gb166, 2, none⟩ = some (.int .i64 a0_2) := (blk_cell BK166.out 2).trans rfl; have hcz19_3 : w18.cell? ⟨gb166, 3, none⟩ = some (.int .i64 a0_3) := (blk_cell BK166.out 3).trans rfl; have hfz19_0 := blk_frozen BK166.out 0; have hfz19_1 := blk_frozen BK166.out 1; have hfz19_2 := blk_frozen BK166.out 2; have hfz19_3 := blk_frozen BK166.out 3))
       go_ret
       exact ⟨by first | rfl | (simp [errW_none, errW_some] <;> rfl) | (simp [*, errW_none, errW_some] <;> rfl), by repeat (first | (with_reducible first | exact HB.out | apply below_alloc | apply pw_below_drewN | apply below_drew1 | refine below_set ?_ GE166.out) | exact HB.out)⟩
      ·rw [if_neg c17] at H
       have c17b0 : decide (a0_3 < 1) = false := decide_eq_false c17
       clear c17
       by_cases c20 : a0_3 > 1024
       ·rw [if_pos c20] at H
        have c20b0 : decide (1024 < a0_3) = true := decide_eq_true c20
        clear c20
        obtain rfl := Option.some.inj H
        go_enter Try.func110, Try.ntmps110
        go_wp2_with (first | ((with_reducible refine gate_dst (N := 1) rfl ?_); refine box_event ?hg (N := 1) ?hd (cs := #[.int .i64 a0_0, .int .i64 a0_1, .int .i64 a0_2, .int .i64 a0_3]) (t := 90) ?hr ?_; (case hd => rfl); (case hg => rfl); (case hr => first | (go_simp; done) | (go_simp; rfl)); intro gb166 hg w21 hbox hb; have n0_ := Aside0.mk (below_step (by repeat (first | (with_reducible first | exact HB.out | apply below_alloc | apply pw_below_drewN | apply below_drew1) | exact HB.out)) hb); have n1_ := Aside0.mk (hbox); have n2_ := Aside0.mk ((by rw [hg]; exact (below_size (by repeat (first | (with_reducible first | exact HB.out | apply below_alloc | apply pw_below_drewN | apply below_drew1) | exact HB.out))) : w.heap.size ≤ gb166)); have n3_ := Aside0.mk ((by rw [hg]; exact (below_size (by repeat (first | (with_reducible first | exact HB.out | apply below_alloc | apply pw_below_drewN | apply below_drew1) | exact HB.out))) : w.heap.size ≤ gb166)); clear HB; have HB := n0_; have BK166 := n1_; have GW166 := n2_; have GE166 := n3_; clear n0_ n1_ n2_ n3_; clear hb hbox hg; have hcz22_0 : w21.cell? ⟨gb166, 0, none⟩ = some (.int .i64 a0_0) := (blk_cell BK166.out 0).trans rfl; have hcz22_1 : w21.cell? ⟨gb166, 1, none⟩ = some (.int .i64 a0_1) := (blk_cell BK166.out 1).trans rfl; have hcz22_2 : w21.cell? ⟨gb166, 2, none⟩ = some (.int .i64 a0_2) := (blk_cell BK166.out 2).trans rfl; have hcz22_3 : w21.cell? ⟨gb166, 3, none⟩ = some (.int .i64 a0_3) := (blk_cell BK166.out 3).trans rfl; have hfz22_0 := blk_frozen BK166.out 0; have hfz22_1 := blk_frozen BK166.out 1; have hfz22_2 := blk_frozen BK166.out 2; have hfz22_3 := blk_frozen BK166.out 3))
        go_ret
        exact ⟨by first | rfl | (simp [errW_none, errW_some] <;> rfl) | (simp [*, errW_none, errW_some] <;> rfl), by repeat (first | (with_reducible first | exact HB.out | apply below_alloc | apply pw_below_drewN | apply below_drew1 | refine below_set ?_ GE166.out) | exact HB.out)⟩
       ·rw [if_neg c20] at H
        have c20b0 : decide (1024 < a0_3) = false := decide_eq_false c20
        clear c20
        obtain rfl := Option.some.inj H
        go_enter Try.func110, Try.ntmps110
        go_wp2_with (first | ((with_reducible refine gate_dst (N := 1) rfl ?_); refine box_event ?hg (N := 1) ?hd (cs := #[.int .i64 a0_0, .int .i64 a0_1, .int .i64 a0_2, .int .i64 a0_3]) (t := 90) ?hr ?_; (case hd => rfl); (case hg => rfl); (case hr => first | (go_simp; done) | (go_simp; rfl)); intro gb166 hg w23 hbox hb; have n0_ := Aside0.mk (below_step (by repeat (first | (with_reducible first | exact HB.out | apply below_alloc | apply pw_below_drewN | apply below_drew1) | exact HB.out)) hb); have n1_ := Aside0.mk (hbox); have n2_ := Aside0.mk ((by rw [hg]; exact (below_size (by repeat (first | (with_reducible first | exact HB.out | apply below_alloc | apply pw_below_drewN | apply below_drew1) | exact HB.out))) : w.heap.size ≤ gb166)); have n3_ := Aside0.mk ((by rw [hg]; exact (below_size (by repeat (first | (with_reducible first | exact HB.out | apply below_alloc | apply pw_below_drewN | apply below_drew1) | exact HB.out))) : w.heap.size ≤ gb166)); clear HB; have HB := n0_; have BK166 := n1_; have GW166 := n2_; have GE166 := n3_; clear n0_ n1_ n2_ n3_; clear hb hbox hg; have hcz24_0 : w23.cell? ⟨gb166, 0, none⟩ = some (.int .i64 a0_0) := (blk_cell BK166.out 0).trans rfl; have hcz24_1 : w23.cell? ⟨gb166, 1, none⟩ = some (.int .i64 a0_1) := (blk_cell BK166.out 1).trans rfl; have hcz24_2 : w23.cell? ⟨gb166, 2, none⟩ = some (.int .i64 a0_2) := (blk_cell BK166.out 2).trans rfl; have hcz24_3 : w23.cell? ⟨gb166, 3, none⟩ = some (.int .i64 a0_3) := (blk_cell BK166.out 3).trans rfl; have hfz24_0 := blk_frozen BK166.out 0; have hfz24_1 := blk_frozen BK166.out 1; have hfz24_2 := blk_frozen BK166.out 2; have hfz24_3 := blk_frozen BK166.out 3))
        go_ret
        exact ⟨by first | rfl | (simp [errW_none, errW_some] <;> rfl) | (simp [*, errW_none, errW_some] <;> rfl), by repeat (first | (with_reducible first | exact HB.out | apply below_alloc | apply pw_below_drewN | apply below_drew1 | refine below_set ?_ GE166.out) | exact HB.out)⟩
end Go.Proofs.Ytodhkbahjomfhaa.Q

namespace Go.Proofs.Ytodhkbahjomfhaa.Q
open Go.RowKit Go.Proofs.YtodhkbahjomfhaaW.PrintWords Go.Proofs.YtodhkbahjomfhaaW.PrintLast Go.Proofs.YtodhkbahjomfhaaW.PrintMore Go.Proofs.Ytodhkbahjomfhaa.Gput Go.Proofs.Ytodhkbahjomfhaa.Gputl
attribute [local go_sem] max2_int min2_int max_two min_two max_three min_three max_four min_four   -- for this text's walks alone
set_option linter.unusedVariables false
set_option linter.unusedSimpArgs false
noncomputable def storagebarterref04_Weight.l0 : Nat → ByteArray → Int → Int → Int → Option (Int)
 | 0, _, _, _, _ => none
 | k + 1, x0, x5, x6, x7 => if x7 < (x0.size : Int) then (if 0 ≤ x7 then (storagebarterref04_Weight.l0 k x0 x5 (wrap64 (x6 + (wrap64 ((wrap64 ((wrap64 (bt x0 x7)) + 1)) * (wrap64 ((wrap64 (x7 - x5)) + 1)))))) (wrap64 (x7 + 1))) else (none)) else (some x6)
noncomputable def storagebarterref04_Weight.f (k : Nat) (a0 : ByteArray) (a1 : Int) : Option (Int) := if a1 < 1 then (some 0) else (storagebarterref04_Weight.l0 k a0 (mx 0 (wrap64 ((a0.size : Int) - a1))) 0 (mx 0 (wrap64 ((a0.size : Int) - a1))))
set_option maxHeartbeats 8000000 in
set_option maxRecDepth 100000 in
theorem storagebarterref04_Weight.calls (k : Nat) (a0 : ByteArray) (a1 : Int) (r : Int) (w : World) (h : storagebarterref04_Weight.f k a0 a1 = some r) :
 Calls Try.prog 111 #[.string a0, .int .i64 a1] w fun e w' => e = .returned (.int .i64 r) ∧ Below w.heap.size w w' := by
 have HB := Aside0.mk (Below.refl w.heap.size w)
 have H : (if a1 < 1 then (some 0) else (storagebarterref04_Weight.l0 k a0 (mx 0 (wrap64 ((a0.size : Int) - a1))) 0 (mx 0 (wrap64 ((a0.size : Int) - a1))))) = some r := h
 clear h
 by_cases c3 : a1 < 1
 ·rw [if_pos c3] at H
  have c3b0 : decide (a1 < 1) = true := decide_eq_true c3
  clear c3
  obtain rfl := Option.some.inj H
  go_enter Try.func111, Try.ntmps111
  go_wp2
  go_ret
  exact ⟨by first | rfl | (simp [errW_none, errW_some] <;> rfl) | (simp [*, errW_none, errW_some] <;> rfl), by repeat (first | (with_reducible first | exact HB.out | apply below_alloc | apply pw_below_drewN | apply below_drew1) | exact HB.out)⟩
 ·rw [if_neg c3] at H
  have c3b0 : decide (a1 < 1) = false := decide_eq_false c3
  clear c3
  obtain ⟨ji4, hji4⟩ : ∃ j_ : Int, (mx 0 (wrap64 ((a0.size : Int) - a1))) = j_ := ⟨_, rfl⟩
  replace H : (storagebarterref04_Weight.l0 k a0 ji4 0 ji4) = some r := by first | (rw [hji4] at H; exact H) | (simp only [hji4] at H ⊢; exact H)
  (try (have hji4l : 0 ≤ ji4 := by (rw [← hji4]; unfold mx; (repeat' split) <;> omega)))
  (try (have hji4m : 0 ≤ ji4 := by omega))
  have hji4_ : (if 0 < (wrap64 ((a0.size : Int) - a1)) then (wrap64 ((a0.size : Int) - a1)) else 0) = ji4 := hji4
  have H' := Aside0.mk H
  clear H
  go_enter Try.func111, Try.ntmps111
  go_wp2
  go_loopg [6, 7] k (fun kq v6 v7 w' => ∃ (x6_1 : Int) (x7_1 : Int), v6 = .int .i64 x6_1 ∧ v7 = .int .i64 x7_1 ∧ Aside0 (storagebarterref04_Weight.l0 kq a0 ji4 x6_1 x7_1 = some r) ∧ Aside0 (kq ≤ k) ∧ Aside0 (Below w.heap.size w w'))
  case atStart => exact ⟨(0), (ji4), (by first | rfl | (simp; done) | (simp [*]; done)), (by first | rfl | (simp; done) | (simp only [← hji4] <;> (first | rfl | simp)) | (simp [*]; done)), H', ⟨Nat.le_refl _⟩, ⟨by repeat (first | (with_reducible first | exact HB.out | apply below_alloc | apply pw_below_drewN | apply below_drew1) | exact HB.out)⟩⟩
  case round =>
   clear H'
   try clear c1
   try clear p2
   try clear c3
   try clear c3b0
   obtain ⟨x6_1, x7_1, rfl, rfl, HA, HK1, HB⟩ := hrel
   cases gk with
   | zero => exact absurd HA.out (by simp [storagebarterref04_Weight.l0])
   | succ k1 =>
    have H := HA.out
    clear HA
    simp only [storagebarterref04_Weight.l0] at H
    by_cases c5 : x7_1 < (a0.size : Int)
    ·rw [if_pos c5] at H
     have c5b0 : decide (x7_1 < (a0.size : Int)) = true := decide_eq_true c5
     clear c5
     by_cases c6 : 0 ≤ x7_1
     ·rw [if_pos c6] at H
      have c6b0 : decide (0 ≤ x7_1) = true := decide_eq_true c6
      clear c6
      have H' := Aside0.mk H
      clear H
      have p7 : 0 ≤ (x7_1 : Int) := of_decide_eq_true (by first | (with_reducible assumption) | assumption)
      have q7 : x7_1 < (a0.size : Int) := of_decide_eq_true (by first | (with_reducible assumption) | assumption)
      have hx7 := bt_at a0 x7_1
      replace p7 := eq_true p7
      replace q7 := eq_true q7
      go_wp2
      go_roundg k1
      case measure => have := HK1.out; omega
      case rel => exact ⟨(wrap64 (x6_1 + (wrap64 ((wrap64 ((wrap64 (bt a0 x7_1)) + 1)) * (wrap64 ((wrap64 (x7_1 - ji4)) + 1)))))), (wrap64 (x7_1 + 1)), (by first | rfl | (simp; done) | (simp only [← hji4] <;> (first | rfl | simp)) | (simp [*]; done)), (by first | rfl | (simp; done) | (simp [*]; done)), H', ⟨by have := HK1.out; omega⟩, ⟨by repeat (first | (with_reducible first | exact HB.out | apply below_alloc | apply pw_below_drewN | apply below_drew1) | exact HB.out)⟩⟩
     ·rw [if_neg c6] at H
      exact absurd H (by simp)
    ·rw [if_neg c5] at H
     have c5b0 : decide (x7_1 < (a0.size : Int)) = false := decide_eq_false c5
     clear c5
     obtain rfl := Option.some.inj H
     go_wp2
     go_ret
     exact ⟨by first | rfl | (simp [errW_none, errW_some] <;> rfl) | (simp only [← hji4]; first | rfl | (simp [errW_none, errW_some] <;> rfl)) | (simp [*, errW_none, errW_some] <;> rfl), by repeat (first | (with_reducible first | exact HB.out | apply below_alloc | apply pw_below_drewN | apply below_drew1) | exact HB.out)⟩
end Go.Proofs.Ytodhkbahjomfhaa.Q
