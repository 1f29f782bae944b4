/- Which directories are valid, who is in them, all marks, and what verifies, or the error, for any arguments; and the row, whose second argument is a slice of structs. -/
import Derived.ProofKit
import Derived.Laws.Strings
import Derived.Test.YtcalkhlchjjalaaCMarkDoes2
import Derived.Test.YtcalkhlchjjalaaProg
import Derived.OpenShut
import Derived.Laws.BitsLemmas
import Derived.Below
import Derived.Deep.Draws
import Derived.Deep.AppendLies
import Derived.Maps.AppendAt
import Derived.OwnWalk
import Derived.Laws.BytesArg
import Derived.Laws.MakeOwn
import Derived.Laws.OwnMore
import Derived.Deep.OwnRows
import Derived.Tactics
import Derived.Lib.ConvBytes
import Derived.Laws.Slices
import Derived.WalkKit
import Derived.KernelRfl
import Derived.RowKit3
import Derived.Deep.LoopGhost
import Derived.Deep.QuietTactic
import Derived.BigQuiet
import Derived.WideLaws
import Derived.Deep.DeepCutAuto
import Derived.Deep.CutBlock
import Derived.Deep.RegionHeld3
import Derived.Laws.Rows
import Derived.Lib.AppendStr
import Derived.ArgAppend
import Derived.Laws.IdiomCopy
import Derived.OrdersHeld
import Derived.RowKit
import Derived.Test.YtcalkhlchjjalaaCMarkDoes1
import Derived.Test.YtcalkhlchjjalaaWWords
import Derived.Test.YtcalkhlchjjalaaWLast
import Derived.Test.YtcalkhlchjjalaaWTab
import Derived.Test.YtcalkhlchjjalaaWFour
import Derived.Test.YtcalkhlchjjalaaWQPut
import Derived.Test.YtcalkhlchjjalaaWApart
import Derived.Test.YtcalkhlchjjalaaWArr
import Derived.Test.YtcalkhlchjjalaaWZeros
import Derived.Test.YtcalkhlchjjalaaWFoot
import Derived.Test.YtcalkhlchjjalaaWKept
import Derived.Test.YtcalkhlchjjalaaWShare
import Derived.Test.YtcalkhlchjjalaaWN
import Derived.Test.YtcalkhlchjjalaaWFootNe
import Derived.Test.YtcalkhlchjjalaaWAt
import Derived.Test.YtcalkhlchjjalaaWEqStruct
import Derived.Test.YtcalkhlchjjalaaWRepsOne
import Derived.Test.YtcalkhlchjjalaaWInv
import Derived.Test.YtcalkhlchjjalaaWInvWords
import Derived.Test.YtcalkhlchjjalaaWGuard
import Derived.Test.YtcalkhlchjjalaaWNEv
import Derived.Test.YtcalkhlchjjalaaWMore
import Derived.Maps.OwnOps
import Derived.Carry
import Derived.Maps.Views
import Derived.WalkArith
import Derived.Lib.Hide
import Derived.Shelf.Abstract
/- Numbers as bytes: plain facts, no program in sight. -/
namespace Go.Proofs.Ytcalkhlchjjalaa.Gm

/-- The bytes of a number without a sign, the lowest group first. -/
def grp (u : Nat) : List UInt8 := if h : 127 < u then UInt8.ofNat (u % 128 + 128) :: grp (u / 128) else [UInt8.ofNat u]
termination_by u
decreasing_by omega

theorem grp_more {u : Nat} (h : 127 < u) : grp u = UInt8.ofNat (u % 128 + 128) :: grp (u / 128) := by rw [grp, dif_pos h]
theorem grp_last {u : Nat} (h : ¬ 127 < u) : grp u = [UInt8.ofNat u] := by rw [grp, dif_neg h]

/-- A number as one without a sign, and back. -/
def zig (n : Int) : Nat := if 0 ≤ n then (2 * n).toNat else (-2 * n - 1).toNat
def unzig (u : Nat) : Int := if u % 2 = 0 then ((u / 2 : Nat) : Int) else -((u / 2 : Nat) : Int) - 1

theorem unzig_zig (n : Int) : unzig (zig n) = n := by
  unfold unzig zig
  split <;> split <;> omega

theorem zig_unzig (u : Nat) : zig (unzig u) = u := by
  unfold unzig zig
  split <;> split <;> omega

theorem zig_inj {m n : Int} (h : zig m = zig n) : m = n := by rw [← unzig_zig m, ← unzig_zig n, h]

theorem unzig_range {u : Nat} (h : u < 18446744073709551616) : -9223372036854775808 ≤ unzig u ∧ unzig u ≤ 9223372036854775807 := by
  unfold unzig
  split <;> omega

theorem zig_range {n : Int} (h : -9223372036854775808 ≤ n ∧ n ≤ 9223372036854775807) : zig n < 18446744073709551616 := by
  unfold zig
  split <;> omega

def putI (n : Int) : List UInt8 := grp (zig n)

theorem grp_pos (u : Nat) : 0 < (grp u).length := by rw [grp]; split <;> simp

theorem grp_len (k u : Nat) (h : u < 128 ^ (k + 1)) : (grp u).length ≤ k + 1 := by
  induction k generalizing u with
  | zero => rw [grp_last (by omega)]; simp
  | succ k ih =>
    by_cases h127 : 127 < u
    · rw [grp_more h127]
      have := ih (u / 128) (by rw [Nat.pow_succ] at h; exact Nat.div_lt_of_lt_mul (by omega))
      simp; omega
    · rw [grp_last h127]; simp

theorem grp_len10 (u : Nat) (h : u < 18446744073709551616) : (grp u).length ≤ 10 := grp_len 9 u (by simp; omega)

/-- A list of numbers as bytes. -/
def putL (l : List Int) : List UInt8 := putI l.length ++ l.flatMap putI

theorem putI_pos (n : Int) : 0 < (putI n).length := grp_pos _
theorem putI_len {n : Int} (h : -9223372036854775808 ≤ n ∧ n ≤ 9223372036854775807) : (putI n).length ≤ 10 := grp_len10 _ (zig_range h)

theorem u8_ofNat (n : Nat) (h : n < 256) : (UInt8.ofNat n).toNat = n := UInt8.toNat_ofNat_of_lt' (by simpa using h)
theorem u8_eq {a b : UInt8} (h : a.toNat = b.toNat) : a = b := UInt8.toNat_inj.1 h

/-- What bytes mean: the number, how many bytes there are, the error; k bytes were read before, which make u. -/
def rdU : Nat → Nat → List UInt8 → Nat × Nat × Nat
  | _, _, [] => (0, 0, 3)
  | k, u, b :: l => if (k = 9 ∧ 1 < b.toNat) ∨ (0 < k ∧ b.toNat = 0) then (0, 0, 2)
    else if b.toNat < 128 then (u + b.toNat * 128 ^ k, k + 1, 0) else rdU (k + 1) (u + b.toNat % 128 * 128 ^ k) l

theorem pow_split {k : Nat} (h : k ≤ 9) : ∃ m, 18446744073709551616 = 128 ^ k * m ∧ 2 ≤ m ∧ (k < 9 → 256 ≤ m) := by
  refine ⟨2 * 128 ^ (9 - k), ?_, ?_, ?_⟩
  · rw [← Nat.mul_assoc, Nat.mul_comm (128 ^ k) 2, Nat.mul_assoc, ← Nat.pow_add, Nat.add_sub_cancel' h]
  · have : 0 < 128 ^ (9 - k) := Nat.pow_pos (by decide)
    omega
  · intro hk
    obtain ⟨j, hj⟩ : ∃ j, 9 - k = j + 1 := ⟨8 - k, by omega⟩
    rw [hj, Nat.pow_succ]
    have : 0 < 128 ^ j := Nat.pow_pos (by decide)
    omega

theorem small_k {k v : Nat} (hv : 1 ≤ v) (h : v * 128 ^ k < 18446744073709551616) : k ≤ 9 := by
  rcases Nat.lt_or_ge 9 k with h9 | h9
  · exfalso
    have h1 : 128 ^ 10 ≤ 128 ^ k := Nat.pow_le_pow_right (by decide) h9
    have h2 : 128 ^ k ≤ v * 128 ^ k := Nat.le_mul_of_pos_left _ hv
    have h3 : (128 : Nat) ^ 10 = 1180591620717411303424 := by decide
    omega
  · exact h9

theorem at9 {v : Nat} (h : v * 128 ^ 9 < 18446744073709551616) : v ≤ 1 := by
  have h3 : (128 : Nat) ^ 9 = 9223372036854775808 := by decide
  rw [h3] at h
  omega

theorem step_val (u v k : Nat) : u + v % 128 * 128 ^ k + v / 128 * 128 ^ (k + 1) = u + v * 128 ^ k := by
  have h := Nat.div_add_mod v 128
  rw [Nat.pow_succ, Nat.mul_comm (128 ^ k) 128, ← Nat.mul_assoc, Nat.add_assoc, ← Nat.add_mul]
  congr 2
  omega

/-- The bytes of a number are read back. -/
theorem rdU_grp (l : List UInt8) : ∀ (v k u : Nat), (0 < k → 1 ≤ v) → v * 128 ^ k < 18446744073709551616 → rdU k u (grp v ++ l) = (u + v * 128 ^ k, k + (grp v).length, 0) := by
  intro v
  induction v using Nat.strongRecOn with
  | _ v ih =>
  intro k u hk hv
  have h9 : k ≤ 9 := by
    rcases Nat.eq_zero_or_pos k with h | h
    · omega
    · exact small_k (hk h) hv
  by_cases h127 : 127 < v
  · have hn : ¬ ((k = 9 ∧ 1 < v % 128 + 128) ∨ (0 < k ∧ v % 128 + 128 = 0)) := by
      rintro (⟨rfl, _⟩ | ⟨_, h0⟩)
      · have := at9 hv; omega
      · omega
    have hval := step_val u v k
    have hle : v / 128 * 128 ^ (k + 1) ≤ v * 128 ^ k := by omega
    rw [grp_more h127, List.cons_append, rdU, u8_ofNat _ (by omega), if_neg hn, if_neg (by omega), show (v % 128 + 128) % 128 = v % 128 by omega, ih (v / 128) (by omega) (k + 1) _ (by omega) (by omega), hval]
    simp only [List.length_cons]
    congr 2
    omega
  · have hn : ¬ ((k = 9 ∧ 1 < v) ∨ (0 < k ∧ v = 0)) := by
      rintro (⟨rfl, h1⟩ | ⟨h0, h1⟩)
      · have := at9 hv; omega
      · have := hk h0; omega
    rw [grp_last h127, List.singleton_append, rdU, u8_ofNat _ (by omega), if_neg hn, if_pos (by omega)]
    rfl

/-- What is read is the bytes of a number. -/
theorem rdU_inv : ∀ (l : List UInt8) (k u r n : Nat), k ≤ 9 → rdU k u l = (r, n, 0) → ∃ v, r = u + v * 128 ^ k ∧ n = k + (grp v).length ∧ l.take (grp v).length = grp v ∧ (grp v).length ≤ l.length ∧ (0 < k → 1 ≤ v) ∧ v * 128 ^ k < 18446744073709551616
  | [], k, u, r, n, _, h => by simp [rdU] at h
  | b :: l, k, u, r, n, h9, h => by
    have hb := b.toNat_lt
    rw [rdU] at h
    split at h
    · simp at h
    rename_i hn
    have hbz : k = 9 → b.toNat ≤ 1 := fun e => by
      rcases Nat.lt_or_ge 1 b.toNat with h1 | h1
      · exact (hn (.inl ⟨e, h1⟩)).elim
      · exact h1
    obtain ⟨m, hm, hm2, hm9⟩ := pow_split h9
    split at h
    · rename_i h128
      simp only [Prod.mk.injEq, and_true] at h
      obtain ⟨rfl, rfl⟩ := h
      refine ⟨b.toNat, rfl, ?_⟩
      rw [grp_last (by omega)]
      refine ⟨rfl, by simp, by simp, fun hk => ?_, ?_⟩
      · rcases Nat.eq_zero_or_pos b.toNat with h0 | h0
        · exact (hn (.inr ⟨hk, h0⟩)).elim
        · exact h0
      · rw [hm, Nat.mul_comm]
        refine Nat.mul_lt_mul_of_pos_left ?_ (Nat.pow_pos (by decide))
        rcases Nat.lt_or_ge k 9 with hk | hk
        · have := hm9 hk; omega
        · have := hbz (by omega); omega
    · rename_i h128
      have hk9 : k < 9 := by
        rcases Nat.lt_or_ge k 9 with hk | hk
        · exact hk
        · have := hbz (by omega); omega
      obtain ⟨v, hr, hnn, ht, hl, hv1, hv2⟩ := rdU_inv l (k + 1) _ r n (by omega) h
      have hv1 := hv1 (by omega)
      have e1 : (b.toNat % 128 + 128 * v) % 128 = b.toNat % 128 := by omega
      have e2 : (b.toNat % 128 + 128 * v) / 128 = v := by omega
      have e3 : UInt8.ofNat (b.toNat % 128 + 128) = b := u8_eq (by rw [u8_ofNat _ (by omega)]; omega)
      refine ⟨b.toNat % 128 + 128 * v, ?_⟩
      have hs := step_val u (b.toNat % 128 + 128 * v) k
      rw [e1, e2] at hs
      rw [grp_more (by omega), e1, e2, e3]
      refine ⟨hr.trans hs, by simp; omega, by simp [ht], by simpa using hl, fun _ => by omega, ?_⟩
      have hs0 := step_val 0 (b.toNat % 128 + 128 * v) k
      rw [e1, e2] at hs0
      obtain ⟨m', hm', hm2', -⟩ := pow_split (show k + 1 ≤ 9 by omega)
      have hvm : v < m' := by
        rw [hm', Nat.mul_comm] at hv2
        exact Nat.lt_of_mul_lt_mul_left hv2
      have h1 : v * 128 ^ (k + 1) + 128 ^ (k + 1) ≤ 18446744073709551616 := by
        rw [hm', ← Nat.succ_mul, Nat.mul_comm]
        exact Nat.mul_le_mul_left _ hvm
      have h2 : b.toNat % 128 * 128 ^ k < 128 ^ (k + 1) := by
        rw [Nat.pow_succ, Nat.mul_comm]
        exact Nat.mul_lt_mul_of_pos_left (by omega) (Nat.pow_pos (by decide))
      omega

/-- Bytes of a number that are cut are too short. -/
theorem rdU_cut : ∀ (v k u j : Nat), (0 < k → 1 ≤ v) → v * 128 ^ k < 18446744073709551616 → j < (grp v).length → rdU k u ((grp v).take j) = (0, 0, 3) := by
  intro v
  induction v using Nat.strongRecOn with
  | _ v ih =>
  intro k u j hk hv hj
  cases j with
  | zero => rfl
  | succ j =>
    by_cases h127 : 127 < v
    · have hn : ¬ ((k = 9 ∧ 1 < v % 128 + 128) ∨ (0 < k ∧ v % 128 + 128 = 0)) := by
        rintro (⟨rfl, _⟩ | ⟨_, h0⟩)
        · have := at9 hv; omega
        · omega
      have hval := step_val u v k
      rw [grp_more h127] at hj ⊢
      rw [List.take_succ_cons, rdU, u8_ofNat _ (by omega), if_neg hn, if_neg (by omega)]
      exact ih (v / 128) (by omega) (k + 1) _ j (by omega) (by omega) (by simpa using hj)
    · rw [grp_last h127] at hj
      simp at hj

/-- No number's bytes begin with those of another one. -/
theorem grp_free {u v : Nat} (hu : u < 18446744073709551616) (hv : v < 18446744073709551616) (h : (grp v).take (grp u).length = grp u) : u = v := by
  have h1 := rdU_grp ((grp v).drop (grp u).length) u 0 0 (by omega) (by simpa using hu)
  have h2 := rdU_grp [] v 0 0 (by omega) (by simpa using hv)
  have h3 : grp u ++ (grp v).drop (grp u).length = grp v ++ [] := by
    rw [List.append_nil]
    have := List.take_append_drop (grp u).length (grp v)
    rw [h] at this
    exact this
  rw [h3, h2] at h1
  simp at h1
  exact h1.1.symm

/-! ### Texts as lists of bytes -/

def B (l : List UInt8) : ByteArray := ⟨l.toArray⟩

theorem B_data (l : List UInt8) : (B l).data.toList = l := rfl
theorem B_toList (l : List UInt8) : (B l).toList = l := by rw [ByteArray.toList_eq]; rfl
theorem B_size (l : List UInt8) : (B l).size = l.length := by simp [B, ByteArray.size]
theorem eq_B (s : ByteArray) : s = B s.data.toList := rfl
theorem exB (s : ByteArray) : ∃ l, s = B l := ⟨_, rfl⟩
theorem B_nil : (⟨#[]⟩ : ByteArray) = B [] := rfl
theorem B_inj {l m : List UInt8} : B l = B m ↔ l = m := ⟨fun h => by rw [← B_data l, h]; rfl, fun h => by rw [h]⟩
theorem B_append (l m : List UInt8) : B l ++ B m = B (l ++ m) := by
  apply ByteArray.ext
  simp [B]
theorem B_extract (l : List UInt8) (i j : Nat) : (B l).extract i j = B ((l.take j).drop i) := by
  apply ByteArray.ext
  rw [ByteArray.data_extract]
  simp [B, List.drop_take]

end Go.Proofs.Ytcalkhlchjjalaa.Gm

/- The bytes of numbers: 'wire.put', whose loop ranges over the function value that 'groups' hands back; 'PutInt', 'PutList'. -/
namespace Go.Proofs.Ytcalkhlchjjalaa.Gput
open Go Go.RowKit Go.Shelf Go.Proofs.Ytcalkhlchjjalaa.Gb Go.Proofs.Ytcalkhlchjjalaa.Gm
attribute [local go_sem] Oper.semAt_some
set_option linter.unusedVariables false

theorem groups_in (F : Fence) (n : Nat) (hF : F.fn 30) (hro : F.round = none) (u : Int) (w : World) :
    CallsIn F n Try.prog 30 #[.int .u64 u] w fun e w' => e = .returned (.func (.func 31) #[] #[.pointer (some ⟨w.heap.size, 0, none⟩)]) ∧ w' = w.alloc (.cells #[.int .u64 u] 59) := by
  refine callsIn_of_wp Try.func30 rfl hF ?_ hro
  simp only [Try.ntmps30, List.size_toArray, List.length_cons, List.length_nil, Nat.reduceAdd, Nat.reduceSub, Array.replicate_succ, Array.replicate_zero, List.push_toArray, List.append_toArray, List.nil_append, List.cons_append]
  gi_wp2
  go_ret
  exact ⟨rfl, rfl⟩

theorem or128_all : ∀ n : Nat, n < 256 → n ||| 128 = n % 128 + 128 := by decide +kernel

theorem or128 (u : Nat) : bits .or .u8 ((u : Int) % 256) 128 = ((u % 128 + 128 : Nat) : Int) := by
  have h := (bits_nat .u8 8 (by decide) wraps_u8 (u % 256) 128 (by omega) (by decide)).2
  rw [or128_all _ (by omega)] at h
  have e : ((u : Int) % 256) = ((u % 256 : Nat) : Int) := by omega
  rw [e]
  refine h.trans ?_
  omega

theorem enc8_ofNat (n : Nat) (h : n < 256) : enc8 (UInt8.ofNat n) = .int .u8 (n : Int) := by
  unfold enc8
  rw [UInt8.toNat_ofNat_of_lt' (by simpa using h)]

/-- What is left, read off the cell. -/
def left8 (B : Nat) (w : World) : Nat := match w.cell? ⟨B, 0, none⟩ with
  | some (.int _ n) => n.toNat
  | _ => 0

set_option maxRecDepth 100000 in
set_option maxHeartbeats 1000000 in
theorem groups1_seq (F : Fence) (n : Nat) (hF : F.fn 31) (hro : F.round = none) (hn : 1 ≤ n) (Bu u : Nat) (hu : u < 18446744073709551616) :
    SeqCell F n Try.prog 31 #[.pointer (some ⟨Bu, 0, none⟩)] (fun x => #[enc8 x]) Bu 59 (.int .u64 u) (grp u) := by
  intro l J W hB hA hset hY h0
  refine callsIn_of_wp Try.func31 rfl hF ?_ hro
  simp only [Try.ntmps31, List.size_toArray, List.length_cons, List.length_nil, Nat.reduceAdd, Nat.reduceSub, Array.replicate_succ, Array.replicate_zero, List.push_toArray, List.append_toArray, List.nil_append, List.cons_append]
  gi_wp2
  gi_loopw [] (fun wr => ∃ (pre : List UInt8) (u' : Nat), grp u = pre ++ grp u' ∧ u' < 18446744073709551616 ∧ Boxed wr Bu 59 (.int .u64 u') ∧ J pre wr)
    (fun wr => left8 Bu wr)
  case atStart =>
    exact ⟨[], u, rfl, hu, hB, h0⟩
  case round =>
    obtain ⟨pre, u', hg, hu', hb, hj⟩ := hrel
    have hc := hb.cell
    have hf := hb.frozen
    have hlen : pre.length < (grp u).length := by
      rw [hg]; have : 0 < (grp u').length := by rw [grp]; split <;> simp
      simp; omega
    by_cases h127 : 127 < u'
    · obtain ⟨fn, tmps, assign, body, hy, hR⟩ := hY pre (UInt8.ofNat (u' % 128 + 128)) wr hj hlen
      rw [enc8_ofNat _ (by omega), ← or128] at hy
      gi_wp2
      refine hR.mono ?_
      rintro e W3 ⟨rfl, hJ3, hk3⟩
      have hb3 := hk3 _ hb
      have hc3 := hb3.cell
      have hf3 := hb3.frozen
      gi_wp2
      go_roundw
      case rel =>
        refine ⟨pre ++ [UInt8.ofNat (u' % 128 + 128)], u' / 128, by rw [hg, grp_more h127]; simp, by omega, hb3.set _, hset _ _ _ _ hb3 hJ3⟩
      case measure =>
        have e1 : left8 Bu wr = u' := by unfold left8; rw [hc]; simp
        have e2 : ∀ v, left8 Bu (W3.setCell ⟨Bu, 0, none⟩ (.int .u64 v)) = v.toNat := fun v => by unfold left8; rw [(hb3.set _).cell]
        rw [e1, e2]
        omega
    · obtain ⟨fn, tmps, assign, body, hy, hR⟩ := hY pre (UInt8.ofNat u') wr hj hlen
      rw [enc8_ofNat _ (by omega)] at hy
      have h256 : ((u' : Int) % 256) = u' := by omega
      gi_wp2
      refine hR.mono ?_
      rintro e W3 ⟨rfl, hJ3, hk3⟩
      gi_wp2
      go_end0
      exact ⟨⟨_, rfl⟩, by rw [hg, grp_last h127]; exact hJ3⟩

theorem zig_lt (n : Int) (h : (Lit.int .i64 n).wf = true) : zig n < 18446744073709551616 := by
  have := bounds_i64 h
  unfold zig
  split <;> omega

theorem bits_xor64 (a b : Nat) : bits .xor .u64 (a : Int) (b : Int) = IntKind.u64.wrap ((BitVec.ofNat 64 a ^^^ BitVec.ofNat 64 b).toNat : Int) := by
  unfold bits
  simp only [BitVec.ofInt_natCast]
  rfl

theorem zig_bits (m : Int) (h : (Lit.int .i64 m).wf = true) : bits .xor .u64 (IntKind.u64.wrap (IntKind.u64.wrap m * 2)) (IntKind.u64.wrap (m / 9223372036854775808)) = (zig m : Int) := by
  have hb := bounds_i64 h
  have wr : ∀ x : Int, IntKind.u64.wrap x = x % 18446744073709551616 := fun x => by simp [IntKind.wrap, IntKind.bits, IntKind.signed]
  unfold zig
  by_cases h0 : 0 ≤ m
  · have e1 : IntKind.u64.wrap (IntKind.u64.wrap m * 2) = ((2 * m).toNat : Int) := by rw [wr, wr]; omega
    have e2 : IntKind.u64.wrap (m / 9223372036854775808) = ((0 : Nat) : Int) := by rw [wr]; omega
    rw [e1, e2, if_pos h0]
    have hlt : (2 * m).toNat < 2 ^ 64 := by simp; omega
    rw [bits_xor64, BitVec.toNat_xor, BitVec.toNat_ofNat, BitVec.toNat_ofNat, Nat.mod_eq_of_lt hlt, Nat.zero_mod, Nat.xor_zero, wr]
    omega
  · have e1 : IntKind.u64.wrap (IntKind.u64.wrap m * 2) = ((2 * m + 18446744073709551616).toNat : Int) := by rw [wr, wr]; omega
    have e2 : IntKind.u64.wrap (m / 9223372036854775808) = ((18446744073709551615 : Nat) : Int) := by rw [wr]; omega
    rw [e1, e2, if_neg h0]
    have hlt : (2 * m + 18446744073709551616).toNat < 2 ^ 64 := by simp; omega
    have hn : (BitVec.ofNat 64 18446744073709551615) = BitVec.allOnes 64 := by decide
    rw [bits_xor64, hn, BitVec.xor_allOnes, BitVec.toNat_not, BitVec.toNat_ofNat, Nat.mod_eq_of_lt hlt, wr]
    omega

theorem info_byte : (Try.prog.info? 5).map (fun i => (i.zero, i.size, i.bytes)) = some (some (.int .u8 0), 1, 1) := by kernel_rfl

set_option maxRecDepth 100000 in
set_option maxHeartbeats 2000000 in
theorem put_in (F : Fence) (n : Nat) (h46 : F.fn 29) (h54 : F.fn 30) (h57 : F.fn 31) (hro : F.round = none) (hn : 3 ≤ n)
    (base : Nat) (v : Value) (xs : List UInt8) (m : Int) (hm : (Lit.int .i64 m).wf = true) (w : World) (hrow : Own8 w base 5 v xs) (hb : base ≤ w.heap.size) (hlen : xs.length + 10 ≤ 140737488355328) (u : Nat) (hu : zig m = u) :
    CallsIn F n Try.prog 29 #[v, .int .i64 m] w fun e W' => ∃ v', e = .returned v' ∧ Own8 W' base 5 v' (xs ++ grp u) ∧ Below base w W' := by
  have h1 : 1 ≤ n := by omega
  obtain ⟨i0, hi, hz0, hz1, hz2⟩ := info_parts info_byte
  refine callsIn_of_wp_marks Try.func29 rfl h46 ?_ hro
  simp only [Try.ntmps29, List.size_toArray, List.length_cons, List.length_nil, Nat.reduceAdd, Nat.reduceSub, Array.replicate_succ, Array.replicate_zero, List.push_toArray, List.append_toArray, List.nil_append, List.cons_append]
  obtain ⟨g, cap, cur, fz, rfl, hrest⟩ := id hrow
  gi_wp2_with (gi_at_call 30; refine (groups_in F (n - 1) h54 hro _ _).mono ?_; rintro e w' ⟨rfl, rfl⟩)
  have hz := zig_bits m hm
  have hzl := zig_lt m hm
  rw [hu] at hz hzl
  rw [hz]
  clear hz hu
  have hrow' : Own8 w base 5 (.slice (some ⟨g, 0, none⟩) xs.length cap) xs := hrow
  have bB := Boxed.new w 43 (.slice (some ⟨g, 0, none⟩) xs.length cap)
  have bU := Boxed.new (w.alloc (.cells #[.slice (some ⟨g, 0, none⟩) xs.length cap] 43)) 59 (.int .u64 u)
  rw [World.size_alloc] at bU
  have hB0 : Below base w ((w.alloc (.cells #[.slice (some ⟨g, 0, none⟩) xs.length cap] 43)).alloc (.cells #[.int .u64 u] 59)) := ((Below.refl _ w).alloc hb _).alloc (by simp; omega) _
  have hgl := grp_len10 u hzl
  refine rangeFunc_cell hro h1 (gf := 31) (lb := #[.pointer (some ⟨w.heap.size + 1, 0, none⟩)]) rfl h57 (enters_of Try.func31 (by kernel_rfl) rfl)
    (groups1_seq F (n - 1) h57 hro (by omega) (w.heap.size + 1) u hzl) bU (fun _ => rfl)
    (fun pre W => (∃ v, Boxed W w.heap.size 43 v ∧ Own8 W base 5 v (xs ++ pre)) ∧ Below base w W)
    (OwnFrom.and (Own.from (holds8_own base w.heap.size 43 5 (fun pre => xs ++ pre)) _) (ownFrom_below hb (by simp; omega)))
    (fun s W v v' hbu hs => ⟨by
      obtain ⟨⟨q, hq, hr⟩, _⟩ := hs
      exact ⟨q, hq.kept (grownBy_setCell' W _ v') (by simp), hr.setCell hbu (by decide) v'⟩, hs.2.setCell (p := ⟨w.heap.size + 1, 0, none⟩) (show base ≤ w.heap.size + 1 by omega) _⟩)
    ⟨⟨_, bB.alloc _, by rw [List.append_nil]; exact (hrow'.alloc _).alloc _⟩, hB0⟩
    (fun x => { tmps := #[.slice (some ⟨g, 0, none⟩) xs.length cap, .int .i64 m, .pointer (some ⟨w.heap.size, 0, none⟩), undef, .slice none 0 0, .int .u8 (x.toNat : Int), .int .i64 m, .int .u64 (IntKind.u64.wrap m), .int .u64 (IntKind.u64.wrap (IntKind.u64.wrap m * 2)), .int .i64 m, .int .i64 (m / 9223372036854775808), .int .u64 (IntKind.u64.wrap (m / 9223372036854775808)), .int .u64 u, .func (.func 31) #[] #[.pointer (some ⟨w.heap.size + 1, 0, none⟩)], .int .u8 (x.toNat : Int), undef, undef, undef, undef, undef], defers := [] }) ?assign ?body ?done
  case assign =>
    intro l x W K hK
    gi_wp2
    exact hK
  case body =>
    rintro l pre x W ⟨⟨v, hv, hrow⟩, hB⟩ hlt
    have hc := hv.cell
    have hpl : (xs ++ pre).length < xs.length + 10 := by rw [List.length_append]; omega
    gi_wp2_with (gi_at_builtin; refine wpListIn_append8 _ rfl _ _ 43 rfl base 5 i0 Try.underlying43 hi hz0 hz1 hz2 _ _ rfl (hrow.alloc _) ⟨W.heap.size, 0, none⟩ 1 x rfl (by rw [show (⟨W.heap.size, 0, none⟩ : Addr).add 0 = ⟨W.heap.size, 0, none⟩ from rfl]; exact (Boxed.new W 5 (enc8 x)).cell) (by omega) (by have := hB.size; simp; omega) ?_; intro v' w1 hown' hgrow; obtain ⟨hv1, hv2, hr2, hk2, hb2⟩ := Boxed.appended8 hv (by decide) hrow (Nat.le_trans hb hB.size) hb hown' hgrow; have hq2 := fun u2 (hu2 : Boxed W (w.heap.size + 1) 59 u2) => Boxed.beside8 (v' := v') hu2 (by decide) (by omega) hrow hgrow hv1; obtain ⟨g', cap', cur', fz', rfl, hrest'⟩ := id hown'; have hc1 := hv1.cell; have hf1 := hv1.frozen)
    have el : (xs ++ pre ++ [x]).length = xs.length + (pre.length + 1) := by simp
    rw [el] at hk2 hv2 hr2 hb2
    simp only [el] at hq2
    exact ⟨hk2, hq2, ⟨_, hv2, by rw [← List.append_assoc]; exact hr2⟩, hB.trans hb2⟩
  case done =>
    rintro D W hD ⟨⟨v, hv, hrow⟩, hB⟩ hK
    have hc := hv.cell
    gi_wp2
    refine ⟨by simp, .inl ⟨_, _, rfl, run_takeDeferred hK, ?_⟩⟩
    exact ⟨_, results_tmp rfl _ _ _, v, rfl, hrow.putObj _ hK rfl, hB.trans (belowK_b (w := w) hb W D _ _ (by simp at hD; omega) hK rfl rfl)⟩

theorem put_any (base : Nat) (v : Value) (xs : List UInt8) (m : Int) (hm : (Lit.int .i64 m).wf = true) (w : World) (hrow : Own8 w base 5 v xs) (hb : base ≤ w.heap.size) (hlen : xs.length + 10 ≤ 140737488355328) :
    Calls Try.prog 29 #[v, .int .i64 m] w fun e W' => ∃ v', e = .returned v' ∧ Own8 W' base 5 v' (xs ++ putI m) ∧ Below base w W' :=
  callsIn_wide.1 (put_in _ 3 trivial trivial trivial rfl (by omega) base v xs m hm w hrow hb hlen (zig m) rfl)

def wire_PutInt.f (a0 : ByteArray) (a1 : Int) : Option ByteArray :=
  if a0.size + 10 ≤ 140737488355328 ∧ (Lit.int .i64 a1).wf = true then some ⟨(a0.data.toList ++ putI a1).toArray⟩ else none

set_option maxHeartbeats 2000000 in
theorem wire_PutInt.calls (a0 : ByteArray) (a1 : Int) (r : ByteArray) (w : World) (h : wire_PutInt.f a0 a1 = some r) :
    Calls Try.prog 28 #[.string a0, .int .i64 a1] w fun e w' => e = .returned (.string r) ∧ Below w.heap.size w w' := by
  unfold wire_PutInt.f at h
  split at h
  case isFalse => cases h
  case isTrue hc =>
  obtain ⟨hs, hm⟩ := hc
  obtain rfl := Option.some.inj h
  clear h
  have hsm : a0.size ≤ maxLen := by unfold maxLen; omega
  have hcv := Lib.run_convert_string_bytes (P := Try.prog) w 9 43 5 a0 Try.underlying9 Try.underlying43 Try.underlying5
  have hown := own8_bytes w w.heap.size 5 a0 (Nat.le_refl _) hsm
  have hbw : Below w.heap.size w (Lib.bytesWorld w 5 a0) := (Below.refl _ w).grown (bytesWorld_grown w 5 a0) (Nat.le_refl _) (fun k e => by cases e)
  have hl : a0.data.toList.length + 10 ≤ 140737488355328 := by rw [Array.length_toList]; exact hs
  go_enter Try.func28, Try.ntmps28
  go_wp2_with (go_at_call 29; refine (put_any w.heap.size _ _ a1 hm _ hown (by rw [Lib.bytesWorld_size]; omega) hl).mono ?_; rintro e W1 ⟨v1, rfl, ho1, hb1⟩; have hst := run_string8 (P := Try.prog) W1 w.heap.size 43 9 5 Try.underlying43 Try.underlying5 Try.underlying9 v1 _ ho1)
  go_ret
  exact ⟨rfl, hbw.trans hb1⟩

end Go.Proofs.Ytcalkhlchjjalaa.Gput

namespace Go.Proofs.Ytcalkhlchjjalaa.Q
open Go.RowKit Go.Proofs.YtcalkhlchjjalaaW.PrintWords Go.Proofs.YtcalkhlchjjalaaW.PrintLast Go.Proofs.YtcalkhlchjjalaaW.PrintMore Go.Proofs.Ytcalkhlchjjalaa.Gput
attribute [local go_sem] max2_int min2_int max_two min_two max_three min_three max_four min_four   -- for this text's walks alone
set_option linter.unusedVariables false
set_option linter.unusedSimpArgs false



def errW : Option Int → Value
  | none => .nilIface
  | some c => .iface 0 (.int .i64 c)
theorem errW_none : errW none = .nilIface := rfl
theorem errW_some (c : Int) : errW (some c) = .iface 0 (.int .i64 c) := rfl

theorem info3 : (Try.prog.info? 3).map (fun i => (i.zero, i.size, i.bytes)) = some (some (.int .i64 0), 1, 8) := by kernel_rfl
theorem info5 : (Try.prog.info? 5).map (fun i => (i.zero, i.size, i.bytes)) = some (some (.int .u8 0), 1, 1) := by kernel_rfl
theorem info31 : (Try.prog.info? 31).map (fun i => (i.zero, i.size, i.bytes)) = some (some (.agg #[(.int .i64 0), (.int .i64 0)]), 2, 16) := by kernel_rfl
-- the values' own types
/-! #### struct type 31 -/
structure S31 where
  f0 : Int
  f1 : Int
def z31 : S31 := ⟨(0 : Int), (0 : Int)⟩
def k31 : Kd S31 := Kd.iso (Kd.pair (Kd.int .i64) (Kd.int .i64)) (fun x : S31 => (x.f0, x.f1))
theorem k31_open {w : World} {x : S31} {cs : List Value} (h : k31.K w x cs) : cs = [.int .i64 x.f0, .int .i64 x.f1] := by
  obtain ⟨_, _, rfl, rfl, rfl⟩ := h
  exact rfl
theorem k31_openM {w : World} {base : Nat} {ok : Nat → Prop} {x : S31} {cs : List Value} (h : k31.M w base ok x cs) : cs = [.int .i64 x.f0, .int .i64 x.f1] := by
  obtain ⟨_, _, rfl, rfl, rfl⟩ := h
  exact rfl
theorem k31_mk (w : World) (x : S31)  : k31.K w x [.int .i64 x.f0, .int .i64 x.f1] := ⟨[.int .i64 x.f0], [.int .i64 x.f1], rfl, rfl, rfl⟩
theorem k31_mkM (w : World) (base : Nat) (ok : Nat → Prop) (x : S31)  : k31.M w base ok x [.int .i64 x.f0, .int .i64 x.f1] := ⟨[.int .i64 x.f0], [.int .i64 x.f1], rfl, rfl, rfl⟩
def rd_T31 (xs : List S31) (i : Int) : S31 := xs.getD i.toNat z31
theorem at_T31 {w : World} {A : Option Addr} {n : Nat} {xs : List S31} (h : Kd.C k31 w A n xs) (i : Int) (h0 : 0 ≤ i) (h1 : i < n) : ∃ ad , A = some ad ∧ w.cell? (ad.add (i.toNat * 2)) = some (.int .i64 (rd_T31 xs i).f0) ∧ w.cell? ⟨(ad.add (i.toNat * 2)).block, (ad.add (i.toNat * 2)).off + 1, none⟩ = some (.int .i64 (rd_T31 xs i).f1) := by
  obtain ⟨ad, c, e, _, hK, hc0⟩ := Kd.C_get h z31 i h0 h1
  have hc : ∀ j u, c[j]? = some u → w.cell? (ad.add (i.toNat * 2 + j)) = some u := hc0
  obtain rfl := k31_open hK
  exact ⟨ad, e, hc 0 _ rfl, by rw [← add_field _ _ 1 (by omega)]; exact hc 1 _ rfl⟩

def rd_L3 (xs : List (List S31)) (i : Int) : (List S31) := xs.getD i.toNat ([] : List S31)
theorem at_L3 {w : World} {A : Option Addr} {n : Nat} {xs : List (List S31)} (h : Kd.C (Kd.slice 31 k31) w A n xs) (i : Int) (h0 : 0 ≤ i) (h1 : i < n) : ∃ ad A0 c0, A = some ad ∧ w.cell? (ad.add i.toNat) = some (.slice A0 (rd_L3 xs i).length c0) ∧ (rd_L3 xs i).length ≤ c0 ∧ k31.C w A0 (rd_L3 xs i).length (rd_L3 xs i) := by
  obtain ⟨ad, c, e, _, hK, hc0⟩ := Kd.C_get h ([] : List S31) i h0 h1
  have hc : ∀ j u, c[j]? = some u → w.cell? (ad.add (i.toNat * 1 + j)) = some u := hc0
  obtain ⟨A0, c0, rfl, l0, g0⟩ := hK
  exact ⟨ad, A0, c0, e, by have hq := hc 0 _ rfl; rwa [Nat.mul_one, Nat.add_zero] at hq, l0, g0⟩

end Go.Proofs.Ytcalkhlchjjalaa.Q

namespace Go.Proofs.Ytcalkhlchjjalaa.Q
open Go.RowKit Go.Proofs.YtcalkhlchjjalaaW.PrintWords Go.Proofs.YtcalkhlchjjalaaW.PrintLast Go.Proofs.YtcalkhlchjjalaaW.PrintMore Go.Proofs.Ytcalkhlchjjalaa.Gput
attribute [local go_sem] max2_int min2_int max_two min_two max_three min_three max_four min_four   -- for this text's walks alone
set_option linter.unusedVariables false
set_option linter.unusedSimpArgs false

theorem eqA31 (d : Nat) (w : World) (x0 y0 : Int) (x1 y1 : Int) :
    (Op.equalIn (d + 2) 31 (.agg #[.int .i64 x0, .int .i64 x1]) (.agg #[.int .i64 y0, .int .i64 y1])).run Try.prog w = .ok (x0 == y0 && (x1 == y1)) w := by
  refine eqA_of Try.underlying31 (by kernel_rfl) ?_
  refine eqf_cons (by rfl) (by go_simp; rfl) (by go_simp; rfl) (by go_simp) ?_
  exact eqf_last (by rfl) (by go_simp; rfl) (by go_simp; rfl) (by go_simp)
end Go.Proofs.Ytcalkhlchjjalaa.Q

namespace Go.Proofs.Ytcalkhlchjjalaa.Q
open Go.RowKit Go.Proofs.YtcalkhlchjjalaaW.PrintWords Go.Proofs.YtcalkhlchjjalaaW.PrintLast Go.Proofs.YtcalkhlchjjalaaW.PrintMore Go.Proofs.Ytcalkhlchjjalaa.Gput
attribute [local go_sem] max2_int min2_int max_two min_two max_three min_three max_four min_four   -- for this text's walks alone
set_option linter.unusedVariables false
set_option linter.unusedSimpArgs false

/-! ### mark_within: function 20 -/
def mark_within.f (a0 : Int) : Option (Bool) := if a0 ≥ 1 then (some (decide (a0 < 2147483647))) else (some false)
set_option maxHeartbeats 8000000 in
set_option maxRecDepth 100000 in
theorem mark_within.calls (a0 : Int) (r : Bool) (w : World) (h : mark_within.f a0 = some r) :
    Calls Try.prog 20 #[.int .i64 a0] w fun e w' => e = .returned (.bool r) ∧ Drawn0 w w' := by
  have H : (if a0 ≥ 1 then (some (decide (a0 < 2147483647))) else (some false)) = some r := h
  clear h
  by_cases c2 : a0 ≥ 1
  · rw [if_pos c2] at H
    have c2b0 : decide (1 ≤ a0) = true := decide_eq_true c2
    clear c2
    obtain rfl := Option.some.inj H
    go_enter Try.func20, Try.ntmps20
    go_wp2
    go_ret
    exact ⟨by first | rfl | (simp; done) | (simp [*]; done), by repeat (first | exact Drawn0.refl _ | apply Drawn0.step)⟩
  · rw [if_neg c2] at H
    have c2b0 : decide (1 ≤ a0) = false := decide_eq_false c2
    clear c2
    obtain rfl := Option.some.inj H
    go_enter Try.func20, Try.ntmps20
    go_wp2
    go_ret
    exact ⟨by first | rfl | (simp; done) | (simp [*]; done), by repeat (first | exact Drawn0.refl _ | apply Drawn0.step)⟩

end Go.Proofs.Ytcalkhlchjjalaa.Q

namespace Go.Proofs.Ytcalkhlchjjalaa.Q
open Go.RowKit Go.Proofs.YtcalkhlchjjalaaW.PrintWords Go.Proofs.YtcalkhlchjjalaaW.PrintLast Go.Proofs.YtcalkhlchjjalaaW.PrintMore Go.Proofs.Ytcalkhlchjjalaa.Gput
attribute [local go_sem] max2_int min2_int max_two min_two max_three min_three max_four min_four   -- for this text's walks alone
set_option linter.unusedVariables false
set_option linter.unusedSimpArgs false

/-! ### digest_Sum: function 27 -/
def digest_Sum.l0 : Nat → ByteArray → Int → Int → Int → Option (Int)
  | 0, _, _, _, _ => none
  | k + 1, x0, x3, x6, x7 => if x7 < x6 then (if 0 ≤ x7 then (if x7 < (x0.size : Int) then (digest_Sum.l0 k x0 (Int.tmod (wrap64 ((wrap64 ((wrap64 (x3 * 1000003)) + (wrap64 (bt x0 x7)))) + 1)) 2147483647) x6 (wrap64 (x7 + 1))) else (none)) else (none)) else (some x3)
def digest_Sum.f (k : Nat) (a0 : ByteArray) : Option (Int) := digest_Sum.l0 k a0 1 (a0.size : Int) 0
theorem digest_Sum.mono_l : ∀ k, (∀ y0 y1 y2 y3, LeO (digest_Sum.l0 k y0 y1 y2 y3) (digest_Sum.l0 (k + 1) y0 y1 y2 y3))
  | 0 => fun _ _ _ _ r h => by simp [digest_Sum.l0] at h
  | k + 1 => by
    have ih0 := digest_Sum.mono_l k
    · intro y0 y1 y2 y3
      unfold digest_Sum.l0
      repeat' first
      | (with_reducible exact ih0 _ _ _ _)
      | (with_reducible exact LeO.refl _)
      | (with_reducible exact LeO.none _)
      | (with_reducible refine LeO.ite ?_ ?_)
      | (with_reducible refine LeO.bind ?_ (fun _ => ?_))
      | exact ih0 _ _ _ _
      | exact LeO.none _
      | refine LeO.ite ?_ ?_
      | refine LeO.bind ?_ (fun _ => ?_)
theorem digest_Sum.mono : ∀ a0 k, LeO (digest_Sum.f k a0) (digest_Sum.f (k + 1) a0) := by
  intro a0 k
  have ih0 := digest_Sum.mono_l k
  unfold digest_Sum.f
  repeat' first
      | (with_reducible exact ih0 _ _ _ _)
      | (with_reducible exact LeO.refl _)
      | (with_reducible exact LeO.none _)
      | (with_reducible refine LeO.ite ?_ ?_)
      | (with_reducible refine LeO.bind ?_ (fun _ => ?_))
      | exact ih0 _ _ _ _
      | exact LeO.none _
      | refine LeO.ite ?_ ?_
      | refine LeO.bind ?_ (fun _ => ?_)
set_option maxHeartbeats 8000000 in
set_option maxRecDepth 100000 in
theorem digest_Sum.calls (k : Nat) (a0 : ByteArray) (r : Int) (w : World) (h : digest_Sum.f k a0 = some r) :
    Calls Try.prog 27 #[.string a0] w fun e w' => e = .returned (.int .i64 r) ∧ Drawn0 w w' := by
  have H : (digest_Sum.l0 k a0 1 (a0.size : Int) 0) = some r := h
  clear h
  have H' := Aside0.mk H
  clear H
  go_enter Try.func27, Try.ntmps27
  go_wp2
  go_loopg [3, 7] k (fun kq v3 v7 w' => ∃ (x3_1 : Int) (x7_1 : Int), v3 = .int .i64 x3_1 ∧ v7 = .int .i64 x7_1 ∧ Aside0 (digest_Sum.l0 kq a0 x3_1 (a0.size : Int) x7_1 = some r) ∧ Aside0 (kq ≤ k) ∧ Drawn0 w w')
  case atStart => exact ⟨(1), (0), (by first | rfl | (simp; done) | (simp [*]; done)), (by first | rfl | (simp; done) | (simp [*]; done)), H', ⟨Nat.le_refl _⟩, by repeat (first | exact Drawn0.refl _ | apply Drawn0.step)⟩
  case round =>
    clear H'
    obtain ⟨x3_1, x7_1, rfl, rfl, HA, HK1, ⟨m1, rfl⟩⟩ := hrel
    cases gk with
    | zero => exact absurd HA.out (by simp [digest_Sum.l0])
    | succ k1 =>
      have H := HA.out
      clear HA
      simp only [digest_Sum.l0] at H
      by_cases c2 : x7_1 < (a0.size : Int)
      · rw [if_pos c2] at H
        have c2b0 : decide (x7_1 < (a0.size : Int)) = true := decide_eq_true c2
        clear c2
        by_cases c3 : 0 ≤ x7_1
        · rw [if_pos c3] at H
          have c3b0 : decide (0 ≤ x7_1) = true := decide_eq_true c3
          clear c3
          by_cases c4 : x7_1 < (a0.size : Int)
          · rw [if_pos c4] at H
            have c4b0 : decide (x7_1 < (a0.size : Int)) = true := decide_eq_true c4
            clear c4
            have H' := Aside0.mk H
            clear H
            have p5 : 0 ≤ (x7_1 : Int) := of_decide_eq_true (by first | (with_reducible assumption) | assumption)
            have q5 : x7_1 < (a0.size : Int) := of_decide_eq_true (by first | (with_reducible assumption) | assumption)
            have hx5 := bt_at a0 x7_1
            replace p5 := eq_true p5
            replace q5 := eq_true q5
            go_wp2
            go_roundg k1
            case measure => have := HK1.out; omega
            case rel => exact ⟨(Int.tmod (wrap64 ((wrap64 ((wrap64 (x3_1 * 1000003)) + (wrap64 (bt a0 x7_1)))) + 1)) 2147483647), (wrap64 (x7_1 + 1)), (by first | rfl | (simp; done) | (simp [*]; done)), (by first | rfl | (simp; done) | (simp [*]; done)), H', ⟨by have := HK1.out; omega⟩, by repeat (first | exact Drawn0.refl _ | apply Drawn0.step)⟩
          · rw [if_neg c4] at H
            exact absurd H (by simp)
        · rw [if_neg c3] at H
          exact absurd H (by simp)
      · rw [if_neg c2] at H
        have c2b0 : decide (x7_1 < (a0.size : Int)) = false := decide_eq_false c2
        clear c2
        obtain rfl := Option.some.inj H
        go_wp2
        go_ret
        exact ⟨by first | rfl | (simp; done) | (simp [*]; done), by repeat (first | exact Drawn0.refl _ | apply Drawn0.step)⟩

end Go.Proofs.Ytcalkhlchjjalaa.Q

namespace Go.Proofs.Ytcalkhlchjjalaa.Q
open Go.RowKit Go.Proofs.YtcalkhlchjjalaaW.PrintWords Go.Proofs.YtcalkhlchjjalaaW.PrintLast Go.Proofs.YtcalkhlchjjalaaW.PrintMore Go.Proofs.Ytcalkhlchjjalaa.Gput
attribute [local go_sem] max2_int min2_int max_two min_two max_three min_three max_four min_four   -- for this text's walks alone
set_option linter.unusedVariables false
set_option linter.unusedSimpArgs false

/-! ### mark_Sign: function 19 -/
def mark_Sign.f (k : Nat) (a0 : Int) (a1 : ByteArray) : Option (Int × Int) := (mark_within.f a0).bind fun t101 => (if t101 = true then (if (a1.size : Int) > 16384 then (some (0, 4)) else ((wire_PutInt.f (⟨#[]⟩ : ByteArray) a0).bind fun t102 => (if t102.size + a1.size ≤ 9223372036854775807 then ((digest_Sum.f k (t102 ++ a1)).bind fun t103 => (some (t103, 0))) else (none)))) else (some (0, 1)))
theorem mark_Sign.mono : ∀ a0 a1 k, LeO (mark_Sign.f k a0 a1) (mark_Sign.f (k + 1) a0 a1) := by
  intro a0 a1 k
  unfold mark_Sign.f
  repeat' first
      | (with_reducible exact digest_Sum.mono _ _)
      | (with_reducible exact LeO.refl _)
      | (with_reducible exact LeO.none _)
      | (with_reducible refine LeO.ite ?_ ?_)
      | (with_reducible refine LeO.bind ?_ (fun _ => ?_))
      | exact digest_Sum.mono _ _
      | exact LeO.none _
      | refine LeO.ite ?_ ?_
      | refine LeO.bind ?_ (fun _ => ?_)
set_option maxHeartbeats 8000000 in
set_option maxRecDepth 100000 in
theorem mark_Sign.calls (k : Nat) (a0 : Int) (a1 : ByteArray) (r1 : Int) (r2 : Int) (w : World) (h : mark_Sign.f k a0 a1 = some (r1, r2)) :
    Calls Try.prog 19 #[.int .i64 a0, .string a1] w fun e w' => e = .returned (.tuple #[.int .i64 r1, .int .i64 r2]) ∧ Below w.heap.size w w' := by
  have HB := Aside0.mk (Below.refl w.heap.size w)
  have H : ((mark_within.f a0).bind fun t101 => (if t101 = true then (if (a1.size : Int) > 16384 then (some (0, 4)) else ((wire_PutInt.f (⟨#[]⟩ : ByteArray) a0).bind fun t102 => (if t102.size + a1.size ≤ 9223372036854775807 then ((digest_Sum.f k (t102 ++ a1)).bind fun t103 => (some (t103, 0))) else (none)))) else (some (0, 1)))) = some (r1, r2) := h
  clear h
  replace H := Option.bind_eq_some_iff.mp H
  obtain ⟨t101, A30, H⟩ := H
  replace H : (if t101 = true then (if (a1.size : Int) > 16384 then (some (0, 4)) else ((wire_PutInt.f (⟨#[]⟩ : ByteArray) a0).bind fun t102 => (if t102.size + a1.size ≤ 9223372036854775807 then ((digest_Sum.f k (t102 ++ a1)).bind fun t103 => (some (t103, 0))) else (none)))) else (some (0, 1))) = some (r1, r2) := H
  have A3 := Aside0.mk A30
  clear A30
  by_cases c4 : t101 = true
  · subst c4
    have H1 : (if (a1.size : Int) > 16384 then (some (0, 4)) else ((wire_PutInt.f (⟨#[]⟩ : ByteArray) a0).bind fun t102 => (if t102.size + a1.size ≤ 9223372036854775807 then ((digest_Sum.f k (t102 ++ a1)).bind fun t103 => (some (t103, 0))) else (none)))) = some (r1, r2) := by rw [if_pos rfl] at H; exact H
    clear H
    have H := H1
    clear H1
    by_cases c5 : (a1.size : Int) > 16384
    · rw [if_pos c5] at H
      have c5b0 : decide (16384 < (a1.size : Int)) = true := decide_eq_true c5
      have c5b1 : decide (16384 < a1.size) = true := decide_eq_true (by omega)
      clear c5
      simp only [Option.some.injEq, Prod.mk.injEq] at H
      obtain ⟨rfl, rfl⟩ := H
      go_enter Try.func19, Try.ntmps19
      go_wp2_with (first | ((with_reducible refine gate_callee (f := 20) rfl ?_); refine goesL_ (some 7) rfl rfl Try.func20 (by kernel_rfl) rfl #[.int .i64 a0] rfl (by (try simp only [List.map_toArray, List.map_cons, List.map_nil]); first | done | rfl | (simp only [List.length_drop, List.length_take]; rfl)) ?_; (with_reducible refine (mark_within.calls a0 true _ A3.out).mono ?_); rintro e w' ⟨rfl, ⟨nd, rfl⟩⟩; refine ⟨_, rfl, ?_⟩))
      go_ret2
      exact ⟨by first | rfl | (simp [errW_none, errW_some] <;> rfl) | (simp [*, errW_none, errW_some] <;> rfl), by repeat (first | (with_reducible first | exact HB.out | apply below_alloc | apply pw_below_drewN | apply below_drew1) | exact HB.out)⟩
    · rw [if_neg c5] at H
      have c5b0 : decide (16384 < (a1.size : Int)) = false := decide_eq_false c5
      have c5b1 : decide (16384 < a1.size) = false := decide_eq_false (by omega)
      clear c5
      replace H := Option.bind_eq_some_iff.mp H
      obtain ⟨t102, A60, H⟩ := H
      replace H : (if t102.size + a1.size ≤ 9223372036854775807 then ((digest_Sum.f k (t102 ++ a1)).bind fun t103 => (some (t103, 0))) else (none)) = some (r1, r2) := H
      have A6 := Aside0.mk A60
      clear A60
      by_cases c7 : t102.size + a1.size ≤ 9223372036854775807
      · rw [if_pos c7] at H
        have c7b0 := eq_true c7
        have c7b1 : decide (t102.size + a1.size ≤ 9223372036854775807) = true := decide_eq_true c7
        try have c7b2 : (9223372036854775807 < t102.size + a1.size) = False := eq_false (Nat.not_lt.2 c7)
        replace H := Option.bind_eq_some_iff.mp H
        obtain ⟨t103, A80, H⟩ := H
        replace H : (some (t103, 0)) = some (r1, r2) := H
        have A8 := Aside0.mk A80
        clear A80
        simp only [Option.some.injEq, Prod.mk.injEq] at H
        obtain ⟨rfl, rfl⟩ := H
        go_enter Try.func19, Try.ntmps19
        go_wp2_with (first | ((with_reducible refine gate_callee (f := 20) rfl ?_); refine goesL_ (some 7) rfl rfl Try.func20 (by kernel_rfl) rfl #[.int .i64 a0] rfl (by (try simp only [List.map_toArray, List.map_cons, List.map_nil]); first | done | rfl | (simp only [List.length_drop, List.length_take]; rfl)) ?_; (with_reducible refine (mark_within.calls a0 true _ A3.out).mono ?_); rintro e w' ⟨rfl, ⟨nd, rfl⟩⟩; refine ⟨_, rfl, ?_⟩) | ((with_reducible refine gate_callee (f := 28) rfl ?_); refine goesL_ (some 13) rfl rfl Try.func28 (by kernel_rfl) rfl #[.string (⟨#[]⟩ : ByteArray), .int .i64 a0] rfl (by (try simp only [List.map_toArray, List.map_cons, List.map_nil]); first | done | rfl | (simp only [List.length_drop, List.length_take]; rfl)) ?_; (with_reducible refine (wire_PutInt.calls (⟨#[]⟩ : ByteArray) a0 t102 _ A6.out).mono ?_); rintro e w9 ⟨rfl, hb⟩; refine ⟨_, rfl, ?_⟩; have n0_ := Aside0.mk (below_step (by repeat (first | (with_reducible first | exact HB.out | apply below_alloc | apply pw_below_drewN | apply below_drew1) | exact HB.out)) hb); clear HB; have HB := n0_; clear n0_; (try clear hb); (try clear hb2); (try clear hk); (try clear hi)) | ((with_reducible refine gate_callee (f := 27) rfl ?_); refine goesL_ (some 16) rfl rfl Try.func27 (by kernel_rfl) rfl #[.string (t102 ++ a1)] rfl (by (try simp only [List.map_toArray, List.map_cons, List.map_nil]); first | done | rfl | (simp only [List.length_drop, List.length_take]; rfl)) ?_; (with_reducible refine (digest_Sum.calls k (t102 ++ a1) t103 _ A8.out).mono ?_); rintro e w' ⟨rfl, ⟨nd, rfl⟩⟩; refine ⟨_, rfl, ?_⟩))
        go_ret2
        exact ⟨by first | rfl | (simp [errW_none, errW_some] <;> rfl) | (simp [*, errW_none, errW_some] <;> rfl), by repeat (first | (with_reducible first | exact HB.out | apply below_alloc | apply pw_below_drewN | apply below_drew1) | exact HB.out)⟩
      · rw [if_neg c7] at H
        exact absurd H (by simp)
  · replace c4 := Bool.eq_false_iff.mpr c4
    subst c4
    have H1 : (some (0, 1)) = some (r1, r2) := by rw [if_neg (show ¬ (false = true) by decide)] at H; exact H
    clear H
    have H := H1
    clear H1
    simp only [Option.some.injEq, Prod.mk.injEq] at H
    obtain ⟨rfl, rfl⟩ := H
    go_enter Try.func19, Try.ntmps19
    go_wp2_with (first | ((with_reducible refine gate_callee (f := 20) rfl ?_); refine goesL_ (some 7) rfl rfl Try.func20 (by kernel_rfl) rfl #[.int .i64 a0] rfl (by (try simp only [List.map_toArray, List.map_cons, List.map_nil]); first | done | rfl | (simp only [List.length_drop, List.length_take]; rfl)) ?_; (with_reducible refine (mark_within.calls a0 false _ A3.out).mono ?_); rintro e w' ⟨rfl, ⟨nd, rfl⟩⟩; refine ⟨_, rfl, ?_⟩))
    go_ret2
    exact ⟨by first | rfl | (simp [errW_none, errW_some] <;> rfl) | (simp [*, errW_none, errW_some] <;> rfl), by repeat (first | (with_reducible first | exact HB.out | apply below_alloc | apply pw_below_drewN | apply below_drew1) | exact HB.out)⟩

end Go.Proofs.Ytcalkhlchjjalaa.Q

/- 'mark.Check': a directory's first error; its secrets lie in a map. -/
namespace Go.Proofs.Ytcalkhlchjjalaa.Q
open Go Go.RowKit Go.Maps Go.Proofs.YtcalkhlchjjalaaW.PrintWords Go.Proofs.YtcalkhlchjjalaaW.PrintLast Go.Proofs.YtcalkhlchjjalaaW.PrintMore
set_option linter.unusedVariables false

def within (n : Int) : Prop := 1 ≤ n ∧ n < 2147483647
instance (n : Int) : Decidable (within n) := by unfold within; exact inferInstance

/-- The first error of what is left of a directory, behind a number and behind secrets. -/
def ckGo (prev : Option Int) (seen : List Int) : List S31 → Int
  | [] => 0
  | p :: r => if ¬ (within p.f0 ∧ within p.f1) then 1 else if (∃ q, prev = some q ∧ p.f0 ≤ q) then 5 else if p.f1 ∈ seen then 7 else ckGo (some p.f0) (p.f1 :: seen) r

def ck (l : List S31) : Int := if 16 < l.length then 4 else ckGo none [] l

def mark_Check.f (l0 : List S31) : Option Int := if l0.all (fun p => (Lit.int .i64 p.f1).wf) then some (ck l0) else none

theorem within_yes (n : Int) (w : World) (h : within n) : Calls Try.prog 20 #[.int .i64 n] w fun e w' => e = .returned (.bool true) ∧ w' = w := by
  obtain ⟨h1, h2⟩ := h
  go_enter Try.func20, Try.ntmps20
  go_wp2
  go_ret
  exact ⟨by first | rfl | simp [h1, h2], rfl⟩
theorem within_no (n : Int) (w : World) (h : ¬ within n) : Calls Try.prog 20 #[.int .i64 n] w fun e w' => e = .returned (.bool false) ∧ w' = w := by
  by_cases h1 : 1 ≤ n
  · have h2 : ¬ n < 2147483647 := fun z => h ⟨h1, z⟩
    go_enter Try.func20, Try.ntmps20
    go_wp2
    go_ret
    exact ⟨by first | rfl | simp [h1, h2], rfl⟩
  · go_enter Try.func20, Try.ntmps20
    go_wp2
    go_ret
    exact ⟨by first | rfl | simp [h1], rfl⟩

/-- The secrets as a map reads. -/
def secs : List Int → DataW Unit
  | [] => .map []
  | s :: r => (secs r).put (.int .i64 s) (.lit (.bool true))

theorem secs_map : ∀ l, IsMap (secs l)
  | [] => ⟨[], rfl⟩
  | s :: r => by obtain ⟨es, he⟩ := secs_map r; exact ⟨_, by rw [secs, he]; rfl⟩

theorem secs_at (z : Int) : ∀ l, (secs l).atKey (.int .i64 z) (.lit (.bool false)) = .lit (.bool (decide (z ∈ l)))
  | [] => rfl
  | s :: r => by
    rw [secs]
    by_cases h : z = s
    · subst h
      rw [atKey_put_same (secs_map r) (by trivial)]
      simp
    · rw [atKey_put_other (by simpa using h), secs_at z r]
      simp [h]

theorem bool_inv {v : Value} {b : Bool} {ps : List MemPlace} (h : plainElem (H := Unit) Try.prog 4 v = some (.lit (.bool b), ps)) : v = .bool b := by
  unfold plainElem at h
  rw [Try.underlying4] at h
  cases v <;> simp at h
  obtain ⟨rfl, _⟩ := h
  rfl

theorem owns_drewN {w : World} {b n : Nat} {D : DataW Unit} (m : Nat) (h : w.ownsMap Try.prog 3 (plainElem (H := Unit) Try.prog 4) b n D) : (w.drewN m).ownsMap Try.prog 3 (plainElem (H := Unit) Try.prog 4) b n D := by
  induction m generalizing w with
  | zero => exact h
  | succ m ih => exact ih h.drew

theorem look {w : World} {b n : Nat} {l : List Int} (h : w.ownsMap Try.prog 3 (plainElem (H := Unit) Try.prog 4) b n (secs l)) (z : Int) (hz : (Lit.int .i64 z).wf = true) :
    (Instr.lookup 48 (.map (some b)) (.int .i64 z) false).run Try.prog w = .ok (.bool (decide (z ∈ l))) w := by
  obtain ⟨v, ps, hrun, hv⟩ := h.lookup (int_keyed Try.underlying3) Try.underlying48 (z := .bool false) (Try.zeroValue4 w) (zd := .lit (.bool false)) (zp := []) (plainElem_bool Try.underlying4 false) (key := .int .i64 z) (kl := .int .i64 z) (keyOf_int_mk Try.underlying3 hz)
  rw [secs_at] at hv
  rw [hrun, bool_inv hv]

/-- The secrets of the first ones, the last one first; the number before. -/
def seenAt (l : List S31) (k : Nat) : List Int := ((l.take k).map (·.f1)).reverse
def prevAt (l : List S31) (k : Nat) : Option Int := if k = 0 then none else some (rd_T31 l ((k : Int) - 1)).f0

theorem seenAt_succ (l : List S31) (k : Nat) (h : k < l.length) : seenAt l (k + 1) = (rd_T31 l k).f1 :: seenAt l k := by
  unfold seenAt rd_T31
  rw [List.take_succ_eq_append_getElem h, List.map_append, List.reverse_append]
  simp [List.getD, h]

theorem drop_rd (l : List S31) (k : Nat) (h : k < l.length) : l.drop k = rd_T31 l k :: l.drop (k + 1) := by
  unfold rd_T31
  rw [List.drop_eq_getElem_cons h]
  simp [List.getD, h]

set_option maxRecDepth 100000 in
set_option maxHeartbeats 4000000 in
theorem mark_Check.calls (A0 : Option Addr) (c0 : Nat) (l0 : List S31) (r : Int) (w : World) (hr0 : Kd.C k31 w A0 l0.length l0) (hc0 : l0.length ≤ c0) (h : mark_Check.f l0 = some r) :
    Calls Try.prog 11 #[.slice A0 l0.length c0] w fun e w' => e = .returned (.int .i64 r) ∧ Below w.heap.size w w' := by
  unfold mark_Check.f at h
  split at h
  case isFalse => cases h
  case isTrue hall =>
  obtain rfl := Option.some.inj h
  clear h
  unfold ck
  have HR := Aside0.mk hr0
  have HALL := Aside0.mk hall
  clear hr0 hall
  by_cases hlen : 16 < l0.length
  · have hb0 : decide ((16 : Int) < (l0.length : Int)) = true := decide_eq_true (by omega)
    rw [if_pos hlen]
    go_enter Try.func11, Try.ntmps11
    go_wp2
    go_ret
    exact ⟨rfl, Below.refl _ _⟩
  · have hb0 : decide ((16 : Int) < (l0.length : Int)) = false := decide_eq_false (by omega)
    rw [if_neg hlen]
    have hmm := @run_makeMap Try.prog
    go_enter Try.func11, Try.ntmps11
    go_wp2
    go_loopw [12] (fun v12 wr => ∃ (k : Nat), k ≤ l0.length ∧ v12 = .int .i64 k ∧ wr.ownsMap Try.prog 3 (plainElem (H := Unit) Try.prog 4) w.heap.size k (secs (seenAt l0 k)) ∧ Below w.heap.size w wr ∧ Hid (ckGo none [] l0 = ckGo (prevAt l0 k) (seenAt l0 k) (l0.drop k)))
      (fun v12 _ => l0.length - (intOf v12).toNat)
    case atStart => exact ⟨0, Nat.zero_le _, rfl, World.ownsMap_made w _ _ _, (Below.refl _ _).alloc (Nat.le_refl _) _, Lib.hid rfl⟩
    case round =>
      obtain ⟨k, hk, rfl, hown, hbel, hck⟩ := hrel
      by_cases hlt : k < l0.length
      · obtain ⟨ad, ead, hx0, hx1⟩ := at_T31 HR.out k (by omega) (by omega)
        cases ead
        replace hx0 := (hbel.cell (World.block_lt_of_cell? w _ hx0)).trans hx0
        replace hx1 := (hbel.cell (World.block_lt_of_cell? w _ hx1)).trans hx1
        simp only [Int.toNat_natCast] at hx0 hx1
        have hw := List.all_eq_true.1 HALL.out (l0[k]) (List.getElem_mem hlt)
        have er : l0[k] = rd_T31 l0 k := by simp [rd_T31, List.getD, hlt]
        rw [er] at hw
        have hseen := seenAt_succ l0 k hlt
        have hck1 := hck.out
        rw [drop_rd l0 k hlt, ckGo] at hck1
        have hprev : prevAt l0 (k + 1) = some (rd_T31 l0 k).f0 := by
          unfold prevAt
          rw [if_neg (by omega)]
          congr 3
          omega
        obtain ⟨x, hx⟩ : ∃ x, x = (rd_T31 l0 k).f0 := ⟨_, rfl⟩
        obtain ⟨y, hy⟩ : ∃ y, y = (rd_T31 l0 k).f1 := ⟨_, rfl⟩
        rw [← hx] at hx0 hprev hck1
        rw [← hy] at hx1 hck1 hw hseen
        have HE := Lib.hid hck1
        have HS := Lib.hid hseen
        have HP := Lib.hid hprev
        clear hck1 hseen hprev hx hy er hck
        by_cases h1 : within x
        · by_cases h2 : within y
          · have hres := HE.out
            rw [if_neg (fun z => z ⟨h1, h2⟩)] at hres
            clear HE
            have hlook : ∀ n, (Instr.lookup 48 (.map (some w.heap.size)) (.int .i64 y) false).run Try.prog ((wr.alloc (.cells #[.int .i64 x, .int .i64 y] 31)).drewN n) = .ok (.bool (decide (y ∈ seenAt l0 k))) ((wr.alloc (.cells #[.int .i64 x, .int .i64 y] 31)).drewN n) :=
              fun n => look (owns_drewN n (hown.alloc (.cells #[.int .i64 x, .int .i64 y] 31))) y hw
            by_cases h3 : 0 < k
            · have hk0 : decide ((0 : Int) < (k : Int)) = true := decide_eq_true (by omega)
              obtain ⟨j, hj⟩ : ∃ j : Int, (k : Int) - 1 = j := ⟨_, rfl⟩
              have hi1 : 0 ≤ j := by omega
              have hi2 : j < (l0.length : Int) := by omega
              have hw1 : IntKind.i64.wrap ((k : Int) - 1) = j := by rw [i64_w]; unfold wrap64; omega
              obtain ⟨ad3, ead3, hz0, hz1⟩ := at_T31 HR.out j hi1 hi2
              cases ead3
              replace hz0 := (hbel.cell (World.block_lt_of_cell? w _ hz0)).trans hz0
              have hpv : prevAt l0 k = some (rd_T31 l0 j).f0 := by unfold prevAt; rw [if_neg (by omega), hj]
              rw [hpv] at hres
              obtain ⟨q, hq⟩ : ∃ q, q = (rd_T31 l0 j).f0 := ⟨_, rfl⟩
              rw [← hq] at hz0 hres
              clear hq hpv hz1 hj
              replace hz0 := (((Below.refl wr.heap.size wr).alloc (Nat.le_refl _) (.cells #[.int .i64 x, .int .i64 y] 31)).cell (World.block_lt_of_cell? wr _ hz0)).trans hz0
              by_cases h5 : x ≤ q
              · rw [if_pos ⟨q, rfl, h5⟩] at hres
                have hk5 : decide (x ≤ q) = true := decide_eq_true h5
                clear hlook
                go_wp2_with (first | (go_at_call 20; with_reducible refine (within_yes x _ h1).mono ?_; rintro e w' ⟨rfl, rfl⟩) | (go_at_call 20; with_reducible refine (within_yes y _ h2).mono ?_; rintro e w' ⟨rfl, rfl⟩))
                go_quiet (skip)
                go_wp2
                go_ret
                exact ⟨by rw [hres]; rfl, pw_below_drewN (hbel.alloc hbel.size _) _⟩
              · rw [if_neg (by rintro ⟨q', hq, h6⟩; cases hq; exact h5 h6)] at hres
                have hk5 : decide (x ≤ q) = false := decide_eq_false h5
                by_cases h4 : y ∈ seenAt l0 k
                · rw [if_pos h4] at hres
                  simp only [decide_eq_true h4] at hlook
                  go_wp2_with (first | (go_at_call 20; with_reducible refine (within_yes x _ h1).mono ?_; rintro e w' ⟨rfl, rfl⟩) | (go_at_call 20; with_reducible refine (within_yes y _ h2).mono ?_; rintro e w' ⟨rfl, rfl⟩))
                  go_quiet (skip)
                  have hlk := hlook nq
                  clear hlook
                  go_wp2
                  go_ret
                  exact ⟨by rw [hres]; rfl, pw_below_drewN (hbel.alloc hbel.size _) _⟩
                · rw [if_neg h4, ← HP.out, ← HS.out] at hres
                  simp only [decide_eq_false h4] at hlook
                  go_wp2_with (first | (go_at_call 20; with_reducible refine (within_yes x _ h1).mono ?_; rintro e w' ⟨rfl, rfl⟩) | (go_at_call 20; with_reducible refine (within_yes y _ h2).mono ?_; rintro e w' ⟨rfl, rfl⟩))
                  go_quiet (skip)
                  have hlk := hlook nq
                  clear hlook
                  go_wp2_with (first | (at_mapUpdate; refine wpList_mapUpdate_own _ rfl _ _ _ 48 rfl 3 4 (int_keyed Try.underlying3) Try.underlying48 (plainElem (H := Unit) Try.prog 4) w.heap.size k (secs (seenAt l0 k)) rfl (owns_drewN nq (hown.alloc (.cells #[.int .i64 x, .int .i64 y] 31))) (by unfold maxLen; omega) _ _ (.int .i64 y) rfl rfl (keyOf_int_mk Try.underlying3 hw) (.lit (.bool true)) [] (plainElem_bool Try.underlying4 true) ?_; intro w1 hown1 hgrow1))
                  have hb9 := pw_below_drewN (hbel.alloc hbel.size (.cells #[.int .i64 x, .int .i64 y] 31)) nq
                  exact ⟨⟨k + 1, by omega, by simp, by rw [HS.out]; exact hown1, hb9.grown hgrow1 hb9.size (by rintro z hz; cases hz; exact Nat.le_refl _), Lib.hid hres⟩, by simp only [intOf]; omega⟩
            · have hk0 : decide ((0 : Int) < (k : Int)) = false := decide_eq_false (by omega)
              have hpv : prevAt l0 k = none := by unfold prevAt; rw [if_pos (by omega)]
              rw [hpv, if_neg (by rintro ⟨q, hq, _⟩; cases hq)] at hres
              by_cases h4 : y ∈ seenAt l0 k
              · rw [if_pos h4] at hres
                simp only [decide_eq_true h4] at hlook
                go_wp2_with (first | (go_at_call 20; with_reducible refine (within_yes x _ h1).mono ?_; rintro e w' ⟨rfl, rfl⟩) | (go_at_call 20; with_reducible refine (within_yes y _ h2).mono ?_; rintro e w' ⟨rfl, rfl⟩))
                go_quiet (skip)
                have hlk := hlook nq
                clear hlook
                go_wp2
                go_ret
                exact ⟨by rw [hres]; rfl, pw_below_drewN (hbel.alloc hbel.size _) _⟩
              · rw [if_neg h4, ← HP.out, ← HS.out] at hres
                simp only [decide_eq_false h4] at hlook
                go_wp2_with (first | (go_at_call 20; with_reducible refine (within_yes x _ h1).mono ?_; rintro e w' ⟨rfl, rfl⟩) | (go_at_call 20; with_reducible refine (within_yes y _ h2).mono ?_; rintro e w' ⟨rfl, rfl⟩))
                go_quiet (skip)
                have hlk := hlook nq
                clear hlook
                go_wp2_with (first | (at_mapUpdate; refine wpList_mapUpdate_own _ rfl _ _ _ 48 rfl 3 4 (int_keyed Try.underlying3) Try.underlying48 (plainElem (H := Unit) Try.prog 4) w.heap.size k (secs (seenAt l0 k)) rfl (owns_drewN nq (hown.alloc (.cells #[.int .i64 x, .int .i64 y] 31))) (by unfold maxLen; omega) _ _ (.int .i64 y) rfl rfl (keyOf_int_mk Try.underlying3 hw) (.lit (.bool true)) [] (plainElem_bool Try.underlying4 true) ?_; intro w1 hown1 hgrow1))
                have hb9 := pw_below_drewN (hbel.alloc hbel.size (.cells #[.int .i64 x, .int .i64 y] 31)) nq
                exact ⟨⟨k + 1, by omega, by simp, by rw [HS.out]; exact hown1, hb9.grown hgrow1 hb9.size (by rintro z hz; cases hz; exact Nat.le_refl _), Lib.hid hres⟩, by simp only [intOf]; omega⟩
          · have hres := HE.out
            rw [if_pos (fun z => h2 z.2)] at hres
            clear HE
            go_wp2_with (first | (go_at_call 20; with_reducible refine (within_yes x _ h1).mono ?_; rintro e w' ⟨rfl, rfl⟩) | (go_at_call 20; with_reducible refine (within_no y _ h2).mono ?_; rintro e w' ⟨rfl, rfl⟩))
            go_ret
            exact ⟨by rw [hres]; rfl, hbel.alloc hbel.size _⟩
        · have hres := HE.out
          rw [if_pos (fun z => h1 z.1)] at hres
          clear HE
          go_wp2_with (first | (go_at_call 20; with_reducible refine (within_no x _ h1).mono ?_; rintro e w' ⟨rfl, rfl⟩))
          go_ret
          exact ⟨by rw [hres]; rfl, hbel.alloc hbel.size _⟩
      · obtain rfl : k = l0.length := by omega
        have he := hck.out
        rw [List.drop_length, ckGo] at he
        clear hck
        go_wp2
        go_ret
        exact ⟨by rw [he]; rfl, hbel⟩

end Go.Proofs.Ytcalkhlchjjalaa.Q

/- 'mark.Find': a binary search over a valid directory, by a closure over a function value. -/
namespace Go.Proofs.Ytcalkhlchjjalaa.Q
open Go Go.RowKit Go.Maps Go.Proofs Go.Proofs.YtcalkhlchjjalaaW.PrintWords Go.Proofs.YtcalkhlchjjalaaW.PrintLast Go.Proofs.YtcalkhlchjjalaaW.PrintMore
set_option linter.unusedVariables false

theorem compare_calls (n x y : Int) (w : World) : Calls Try.prog 22 #[.int .i64 n, .agg #[.int .i64 x, .int .i64 y]] w fun e w' => e = .returned (.int .i64 (wrap64 (x - n))) ∧ Below w.heap.size w w' := by
  go_enter Try.func22, Try.ntmps22
  go_wp2
  go_ret
  exact ⟨rfl, (Below.refl _ _).alloc (Nat.le_refl _) _⟩

theorem closure_calls (n x y : Int) (c : Nat) (w : World) (hc : w.cell? ⟨c, 0, none⟩ = some (.func (.func 22) #[] #[])) :
    Calls Try.prog 24 #[.agg #[.int .i64 x, .int .i64 y], .int .i64 n, .pointer (some ⟨c, 0, none⟩)] w fun e w' => e = .returned (.int .i64 (wrap64 (x - n))) ∧ Below w.heap.size w w' := by
  have hc1 := (((Below.refl w.heap.size w).alloc (Nat.le_refl _) (.cells #[.int .i64 x, .int .i64 y] 31)).cell (World.block_lt_of_cell? w _ hc)).trans hc
  go_enter Try.func24, Try.ntmps24
  go_wp2_with (go_at_call 22; with_reducible refine (compare_calls n x y _).mono ?_; rintro e w' ⟨rfl, hb⟩)
  go_ret
  exact ⟨rfl, ((Below.refl _ _).alloc (Nat.le_refl _) _).trans (hb.mono (by simp))⟩

set_option maxRecDepth 100000 in
set_option maxHeartbeats 4000000 in
theorem search_calls (A0 : Option Addr) (c0 : Nat) (l0 : List S31) (n : Int) (c : Nat) (w : World) (hr0 : Kd.C k31 w A0 l0.length l0) (hc0 : l0.length ≤ c0) (hc : w.cell? ⟨c, 0, none⟩ = some (.func (.func 22) #[] #[]))
    (hlen : l0.length ≤ 16) (hn : within n) (hw : ∀ t : Nat, t < l0.length → within (rd_T31 l0 t).f0) (hs : ∀ t u : Nat, t < u → u < l0.length → (rd_T31 l0 t).f0 < (rd_T31 l0 u).f0) :
    Calls Try.prog 23 #[.slice A0 l0.length c0, .int .i64 n, .func (.func 24) #[] #[.pointer (some ⟨c, 0, none⟩)]] w fun e w' =>
      ∃ (i : Nat) (b : Bool), e = .returned (.tuple #[.int .i64 i, .bool b]) ∧ b = decide (i < l0.length ∧ (rd_T31 l0 i).f0 = n) ∧ i ≤ l0.length ∧ (∀ t : Nat, t < i → (rd_T31 l0 t).f0 < n) ∧ (∀ t : Nat, i ≤ t → t < l0.length → n ≤ (rd_T31 l0 t).f0) ∧ Below w.heap.size w w' := by
  have HR := Aside0.mk hr0
  have HW := Aside0.mk hw
  have HS := Aside0.mk hs
  have HN := Aside0.mk hn
  clear hr0 hw hs hn
  go_enter Try.func23, Try.ntmps23
  go_wp2
  go_loopg [9, 10] l0.length (fun kx s9 s10 wr => ∃ lo hi : Nat, s9 = .int .i64 lo ∧ s10 = .int .i64 hi ∧ lo ≤ hi ∧ hi ≤ l0.length ∧ hi - lo ≤ kx ∧ Aside0 (Below w.heap.size w wr) ∧
    Aside0 ((∀ t : Nat, t < lo → (rd_T31 l0 t).f0 < n) ∧ (∀ t : Nat, hi ≤ t → t < l0.length → n ≤ (rd_T31 l0 t).f0)))
  case atStart => exact ⟨0, l0.length, rfl, rfl, Nat.zero_le _, Nat.le_refl _, by omega, ⟨Below.refl _ _⟩, ⟨fun t ht => absurd ht (Nat.not_lt_zero _), fun t h1 h2 => by omega⟩⟩
  case round =>
    obtain ⟨lo, hi, rfl, rfl, hlh, hin, hg, HB, I⟩ := hrel
    by_cases hlt : lo < hi
    · obtain ⟨h, hh⟩ : ∃ h : Nat, h = (lo + hi) / 2 := ⟨_, rfl⟩
      have hh1 : lo ≤ h ∧ h < hi := by omega
      have hhi : ((lo : Int) + (hi : Int)) / 2 = (h : Int) := by omega
      clear hh
      obtain ⟨ad, ead, hx0, hx1⟩ := at_T31 HR.out h (by omega) (by omega)
      cases ead
      replace hx0 := (HB.out.cell (World.block_lt_of_cell? w _ hx0)).trans hx0
      replace hx1 := (HB.out.cell (World.block_lt_of_cell? w _ hx1)).trans hx1
      simp only [Int.toNat_natCast] at hx0 hx1
      have hc1 := (HB.out.cell (World.block_lt_of_cell? w _ hc)).trans hc
      obtain ⟨x, hx⟩ : ∃ x, x = (rd_T31 l0 h).f0 := ⟨_, rfl⟩
      obtain ⟨y, hy⟩ : ∃ y, y = (rd_T31 l0 h).f1 := ⟨_, rfl⟩
      rw [← hx] at hx0
      rw [← hy] at hx1
      clear hy
      have HX := Lib.hid hx
      clear hx
      have HWX := Lib.hid (HX.out ▸ HW.out h (by omega) : within x)
      have hsub : wrap64 (x - n) = x - n := by have := HWX.out; have := HN.out; unfold within at *; unfold wrap64; omega
      by_cases hyx : x - n < 0
      · go_wp2_with (go_at_call 24; with_reducible refine (closure_calls n x y c _ hc1).mono ?_; rintro e w' ⟨rfl, hb⟩)
        go_roundg (hi - (h + 1))
        case measure => omega
        case rel =>
          exact ⟨h + 1, hi, by rw [show ((h : Int) + 1) = ((h + 1 : Nat) : Int) by omega], rfl, by omega, hin, Nat.le_refl _, ⟨HB.out.trans (hb.mono HB.out.size)⟩,
            ⟨fun t ht => by
              have hx := HX.out
              by_cases hth : t = h
              · subst hth; omega
              · have := HS.out t h (by omega) (by omega); omega, I.out.2⟩⟩
      · go_wp2_with (go_at_call 24; with_reducible refine (closure_calls n x y c _ hc1).mono ?_; rintro e w' ⟨rfl, hb⟩)
        go_roundg (h - lo)
        case measure => omega
        case rel =>
          exact ⟨lo, h, rfl, rfl, by omega, by omega, Nat.le_refl _, ⟨HB.out.trans (hb.mono HB.out.size)⟩,
            ⟨I.out.1, fun t ht htl => by
              have hx := HX.out
              by_cases hth : t = h
              · subst hth; omega
              · have := HS.out h t (by omega) (by omega); omega⟩⟩
    · obtain rfl : hi = lo := by omega
      by_cases hn : hi < l0.length
      · obtain ⟨ad, ead, hx0, hx1⟩ := at_T31 HR.out hi (by omega) (by omega)
        cases ead
        replace hx0 := (HB.out.cell (World.block_lt_of_cell? w _ hx0)).trans hx0
        replace hx1 := (HB.out.cell (World.block_lt_of_cell? w _ hx1)).trans hx1
        simp only [Int.toNat_natCast] at hx0 hx1
        have hc1 := (HB.out.cell (World.block_lt_of_cell? w _ hc)).trans hc
        obtain ⟨x, hx⟩ : ∃ x, x = (rd_T31 l0 hi).f0 := ⟨_, rfl⟩
        obtain ⟨y, hy⟩ : ∃ y, y = (rd_T31 l0 hi).f1 := ⟨_, rfl⟩
        rw [← hx] at hx0
        rw [← hy] at hx1
        clear hy
        have HX := Lib.hid hx
        clear hx
        have HWX := Lib.hid (HX.out ▸ HW.out hi (by omega) : within x)
        obtain ⟨z, hz⟩ : ∃ z, z = x - n := ⟨_, rfl⟩
        have hsub : wrap64 (x - n) = z := by have := HWX.out; have := HN.out; unfold within at *; unfold wrap64; omega
        have HZ := Lib.hid hz
        clear hz
        by_cases hyz : z = 0
        · have HY := Lib.hid hyz
          have hzb : (z == 0) = true := beq_iff_eq.mpr hyz
          clear hyz
          go_wp2_with (go_at_call 24; with_reducible refine (closure_calls n x y c _ hc1).mono ?_; rintro e w' ⟨rfl, hb⟩)
          go_ret2
          refine ⟨hi, _, ?_, rfl, hin, I.out.1, I.out.2, HB.out.trans (hb.mono HB.out.size)⟩
          rw [decide_eq_true (⟨hn, by have := HX.out; have := HY.out; have := HZ.out; omega⟩ : hi < l0.length ∧ (rd_T31 l0 hi).f0 = n)]
          rfl
        · have hzb : (z == 0) = false := beq_eq_false_iff_ne.mpr hyz
          go_wp2_with (go_at_call 24; with_reducible refine (closure_calls n x y c _ hc1).mono ?_; rintro e w' ⟨rfl, hb⟩)
          go_ret2
          refine ⟨hi, _, ?_, rfl, hin, I.out.1, I.out.2, HB.out.trans (hb.mono HB.out.size)⟩
          rw [decide_eq_false (show ¬ (hi < l0.length ∧ (rd_T31 l0 hi).f0 = n) from fun z_ => hyz (by have := HX.out; have := HZ.out; omega))]
          rfl
      · go_wp2
        go_ret2
        refine ⟨hi, _, ?_, rfl, hin, I.out.1, I.out.2, HB.out⟩
        rw [decide_eq_false (show ¬ (hi < l0.length ∧ (rd_T31 l0 hi).f0 = n) from fun z => hn z.1)]
        rfl

theorem ckGo_ok : ∀ (l : List S31) (prev : Option Int) (seen : List Int), ckGo prev seen l = 0 → (∀ p ∈ l, within p.f0 ∧ within p.f1) ∧ (∀ q, prev = some q → ∀ p ∈ l, q < p.f0) ∧ l.Pairwise (fun p q => p.f0 < q.f0) ∧ (∀ p ∈ l, p.f1 ∉ seen) ∧ l.Pairwise (fun p q => p.f1 ≠ q.f1) := by
  intro l
  induction l with
  | nil => intro prev seen _; simp
  | cons p r ih =>
    intro prev seen h
    simp only [ckGo] at h
    split at h
    · cases h
    rename_i h1
    split at h
    · cases h
    rename_i h2
    split at h
    · cases h
    rename_i h3
    obtain ⟨a, b, c, d, e⟩ := ih _ _ h
    have h1' : within p.f0 ∧ within p.f1 := Decidable.not_not.1 h1
    refine ⟨fun x hx => ?_, fun q hq x hx => ?_, ?_, fun x hx => ?_, ?_⟩
    · rcases List.mem_cons.1 hx with rfl | hx
      · exact h1'
      · exact a x hx
    · have hqp : q < p.f0 := Int.not_le.1 fun z => h2 ⟨q, hq, z⟩
      rcases List.mem_cons.1 hx with rfl | hx
      · exact hqp
      · have := b p.f0 rfl x hx; omega
    · exact List.pairwise_cons.2 ⟨fun x hx => b p.f0 rfl x hx, c⟩
    · rcases List.mem_cons.1 hx with rfl | hx
      · exact h3
      · exact fun z => d x hx (List.mem_cons_of_mem _ z)
    · exact List.pairwise_cons.2 ⟨fun x hx z => d x hx (by rw [← z]; exact List.mem_cons_self), e⟩

theorem ck_ok {l : List S31} (h : ck l = 0) : l.length ≤ 16 ∧ (∀ p ∈ l, within p.f0 ∧ within p.f1) ∧ l.Pairwise (fun p q => p.f0 < q.f0) ∧ l.Pairwise (fun p q => p.f1 ≠ q.f1) := by
  unfold ck at h
  split at h
  · cases h
  · obtain ⟨a, -, c, -, e⟩ := ckGo_ok l none [] h
    exact ⟨by omega, a, c, e⟩

/-- Who is found in a directory by a number. -/
def fd (l : List S31) (id : Int) : Int × Int × Bool :=
  if ck l = 0 ∧ within id then (match l.find? (fun p => p.f0 == id) with | some p => (p.f0, p.f1, true) | none => (0, 0, false)) else (0, 0, false)

def mark_Find.f (l0 : List S31) (a1 : Int) : Option (Int × Int × Bool) := if l0.all (fun p => (Lit.int .i64 p.f1).wf) then some (fd l0 a1) else none

theorem store_fn (w : World) : (store ⟨w.heap.size, 0, none⟩ (.func (.func 22) #[] #[])).run Try.prog (w.alloc (.cells #[.nilFunc] 50)) = .ok () ((w.alloc (.cells #[.nilFunc] 50)).setCell ⟨w.heap.size, 0, none⟩ (.func (.func 22) #[] #[])) := by
  have hb : (w.alloc (.cells #[.nilFunc] 50)).heap[w.heap.size]? = some (.cells #[.nilFunc] 50 (0, 0)) := heap_alloc_new w _
  rw [run_store Try.prog _ _ (.func (.func 22) #[] #[]) _ rfl, blk_cell hb 0]
  simp [blk_frozen hb 0]
theorem fn_below (w : World) : Below w.heap.size w (w.alloc (.cells #[.func (.func 22) #[] #[]] 50)) :=
  (Below.refl _ w).alloc (Nat.le_refl _) _
theorem rd_get (l : List S31) (t : Nat) (h : t < l.length) : rd_T31 l t = l[t] := by simp [rd_T31, List.getD, h]

set_option maxRecDepth 100000 in
set_option maxHeartbeats 4000000 in
theorem mark_Find.calls (A0 : Option Addr) (c0 : Nat) (l0 : List S31) (a1 : Int) (r1 : Int) (r2 : Int) (r3 : Bool) (w : World) (hr0 : Kd.C k31 w A0 l0.length l0) (hc0 : l0.length ≤ c0) (h : mark_Find.f l0 a1 = some (r1, r2, r3)) :
    Calls Try.prog 14 #[.slice A0 l0.length c0, .int .i64 a1] w fun e w' => e = .returned (.tuple #[.agg #[.int .i64 r1, .int .i64 r2], .bool r3]) ∧ Below w.heap.size w w' := by
  unfold mark_Find.f at h
  split at h
  case isFalse => cases h
  case isTrue hall =>
  replace h := Option.some.inj h
  have HR := Aside0.mk hr0
  have HF := Aside0.mk (show mark_Check.f l0 = some (ck l0) from if_pos hall)
  clear hr0 hall
  have HB := Aside0.mk (Below.refl w.heap.size w)
  by_cases hck : ck l0 = 0
  · by_cases hid : within a1
    · obtain ⟨hlen, hall, hpw, -⟩ := ck_ok hck
      have HW : Aside0 (∀ t : Nat, t < l0.length → within (rd_T31 l0 t).f0) := ⟨fun t ht => by rw [rd_get l0 t ht]; exact (hall _ (List.getElem_mem ht)).1⟩
      have HS : Aside0 (∀ t u : Nat, t < u → u < l0.length → (rd_T31 l0 t).f0 < (rd_T31 l0 u).f0) := ⟨fun t u htu hu => by rw [rd_get l0 t (by omega), rd_get l0 u hu]; exact List.pairwise_iff_getElem.1 hpw t u _ _ htu⟩
      clear hall hpw
      have hsf := store_fn
      by_cases hfd : ∃ t : Nat, t < l0.length ∧ (rd_T31 l0 t).f0 = a1
      · obtain ⟨t, ht, hta⟩ := hfd
        have he : ((rd_T31 l0 t).f0, (rd_T31 l0 t).f1, true) = (r1, r2, r3) := by
          rw [← h]
          unfold fd
          have : l0.find? (fun p => p.f0 == a1) = some (rd_T31 l0 t) := by
            rw [List.find?_eq_some_iff_getElem]
            refine ⟨by simpa using hta, t, ht, (rd_get l0 t ht).symm, fun j hj => ?_⟩
            have := HS.out j t hj ht
            rw [rd_get l0 j (by omega)] at this
            simp only [Bool.not_eq_true', beq_eq_false_iff_ne]
            omega
          rw [if_pos ⟨hck, hid⟩, this]
        clear h
        generalize ck l0 = ckv at HF hck
        subst hck
        obtain ⟨ad, ead, hx0, hx1⟩ := at_T31 HR.out t (by omega) (by omega)
        cases ead
        simp only [Int.toNat_natCast] at hx0 hx1
        have HT := Lib.hid hta
        generalize (rd_T31 l0 t).f0 = x at hx0 he
        generalize (rd_T31 l0 t).f1 = y at hx1 he
        obtain ⟨rfl, rfl, rfl⟩ : x = r1 ∧ y = r2 ∧ true = r3 := by simpa using he
        clear he hta
        have HX0 := Aside0.mk hx0
        have HX1 := Aside0.mk hx1
        clear hx0 hx1
        go_enter Try.func14, Try.ntmps14
        go_wp2_with (first | ((with_reducible refine gate_dst (N := 4) rfl ?_); refine box_event ?hg (N := 4) ?hd (cs := #[.int .i64 0, .int .i64 0]) (t := 31) ?hr ?_; (case hd => rfl); (case hg => rfl); (case hr => first | (go_simp; done) | (go_simp; rfl)); intro gb hgb w1 hbox hb; have BK := Aside0.mk hbox; have GB := Aside0.mk (by rw [hgb]; exact Nat.le_refl _ : w.heap.size ≤ gb); have n1_ := Aside0.mk (below_step HB.out hb); clear HB; have HB := n1_; clear n1_ hb hbox hgb) | (go_at_call 11; with_reducible refine (mark_Check.calls _ c0 l0 _ _ (Kd.C_below HR.out HB.out) hc0 HF.out).mono ?_; rintro e w2 ⟨rfl, hb⟩; have n0_ := Aside0.mk (blk_below (g := gb) (o := .cells #[.int .i64 0, .int .i64 0] 31 (0, 0)) BK.out hb); have n1_ := Aside0.mk (below_step HB.out hb); clear HB BK; have BK := n0_; have HB := n1_; clear n0_ n1_ hb; have hcl0 : w2.cell? ⟨gb, 0, none⟩ = some (.int .i64 0) := ((blk_cell BK.out _).trans rfl); have hcl1 : w2.cell? ⟨gb, 1, none⟩ = some (.int .i64 0) := ((blk_cell BK.out _).trans rfl); have hf0 := blk_frozen BK.out 0; have hf1 := blk_frozen BK.out 1) | (go_at_call 20; with_reducible refine (within_yes a1 _ hid).mono ?_; rintro e w' ⟨rfl, rfl⟩) | (go_at_call 23; (with_reducible refine (search_calls _ c0 l0 a1 _ _ (Kd.C_below HR.out (below_step HB.out (fn_below _))) hc0 ?hcell hlen hid HW.out HS.out).mono ?_; (case hcell => first | (go_simp; done) | (go_simp; rfl)); rintro e w3 ⟨i, b, rfl, hbd, hi1, hi2, hi3, hb⟩; have n0_ := Aside0.mk (blk_below (g := gb) (o := .cells #[.int .i64 0, .int .i64 0] 31 (0, 0)) (blk_below BK.out (fn_below _)) hb); have n1_ := Aside0.mk (below_step (below_step HB.out (fn_below _)) hb); clear HB BK hcl0 hcl1 hf0 hf1; have BK := n0_; have HB := n1_; clear n0_ n1_ hb; have hcl0 : w3.cell? ⟨gb, 0, none⟩ = some (.int .i64 0) := ((blk_cell BK.out _).trans rfl); have hcl1 : w3.cell? ⟨gb, 1, none⟩ = some (.int .i64 0) := ((blk_cell BK.out _).trans rfl); have hf0 := blk_frozen BK.out 0; have hf1 := blk_frozen BK.out 1; obtain rfl : i = t := (by have hT := HT.out; have s1 := HS.out; exact Nat.le_antisymm (Nat.not_lt.1 fun z => by have := hi2 t z; omega) (Nat.not_lt.1 fun z => by have := s1 i t z ht; have := hi3 i (Nat.le_refl _) (by omega); omega)); obtain rfl : b = true := hbd.trans (decide_eq_true ⟨ht, HT.out⟩); have hx0 := (HB.out.cell (World.block_lt_of_cell? w _ HX0.out)).trans HX0.out; have hx1 := (HB.out.cell (World.block_lt_of_cell? w _ HX1.out)).trans HX1.out; clear hi2 hi3 hbd)))
        refine bodyPost_ret (results_ct rfl _ _ gb 31 #[.int .i64 x, .int .i64 y] (0, 0) _ rfl (by refine blk_put (cs := #[.int .i64 x, .int .i64 0]) ?_ 1 _ rfl; refine blk_put (cs := #[.int .i64 0, .int .i64 0]) ?_ 0 _ rfl; exact BK.out) Try.underlying31 rfl (by kernel_rfl)) rfl ?_
        exact ⟨by first | rfl | (simp; done), by repeat (first | (with_reducible first | exact HB.out | apply below_alloc | apply pw_below_drewN | apply below_drew1 | refine below_set ?_ GB.out) | exact HB.out)⟩
      · have he : (0, 0, false) = (r1, r2, r3) := by
          rw [← h]
          unfold fd
          have : l0.find? (fun p => p.f0 == a1) = none := by
            rw [List.find?_eq_none]
            intro p hp
            obtain ⟨j, hj, rfl⟩ := List.getElem_of_mem hp
            exact fun z => hfd ⟨j, hj, by rw [rd_get l0 j hj]; simpa using z⟩
          rw [if_pos ⟨hck, hid⟩, this]
        obtain ⟨rfl, rfl, rfl⟩ : 0 = r1 ∧ 0 = r2 ∧ false = r3 := by simpa using he
        clear h he
        generalize ck l0 = ckv at HF hck
        subst hck
        have HFD := Lib.hid hfd
        clear hfd
        go_enter Try.func14, Try.ntmps14
        go_wp2_with (first | ((with_reducible refine gate_dst (N := 4) rfl ?_); refine box_event ?hg (N := 4) ?hd (cs := #[.int .i64 0, .int .i64 0]) (t := 31) ?hr ?_; (case hd => rfl); (case hg => rfl); (case hr => first | (go_simp; done) | (go_simp; rfl)); intro gb hgb w1 hbox hb; have BK := Aside0.mk hbox; have GB := Aside0.mk (by rw [hgb]; exact Nat.le_refl _ : w.heap.size ≤ gb); have n1_ := Aside0.mk (below_step HB.out hb); clear HB; have HB := n1_; clear n1_ hb hbox hgb) | (go_at_call 11; with_reducible refine (mark_Check.calls _ c0 l0 _ _ (Kd.C_below HR.out HB.out) hc0 HF.out).mono ?_; rintro e w2 ⟨rfl, hb⟩; have n0_ := Aside0.mk (blk_below (g := gb) (o := .cells #[.int .i64 0, .int .i64 0] 31 (0, 0)) BK.out hb); have n1_ := Aside0.mk (below_step HB.out hb); clear HB BK; have BK := n0_; have HB := n1_; clear n0_ n1_ hb; have hcl0 : w2.cell? ⟨gb, 0, none⟩ = some (.int .i64 0) := ((blk_cell BK.out _).trans rfl); have hcl1 : w2.cell? ⟨gb, 1, none⟩ = some (.int .i64 0) := ((blk_cell BK.out _).trans rfl); have hf0 := blk_frozen BK.out 0; have hf1 := blk_frozen BK.out 1) | (go_at_call 20; with_reducible refine (within_yes a1 _ hid).mono ?_; rintro e w' ⟨rfl, rfl⟩) | (go_at_call 23; (with_reducible refine (search_calls _ c0 l0 a1 _ _ (Kd.C_below HR.out (below_step HB.out (fn_below _))) hc0 ?hcell hlen hid HW.out HS.out).mono ?_; (case hcell => first | (go_simp; done) | (go_simp; rfl)); rintro e w3 ⟨i, b, rfl, hbd, hi1, hi2, hi3, hb⟩; have n0_ := Aside0.mk (blk_below (g := gb) (o := .cells #[.int .i64 0, .int .i64 0] 31 (0, 0)) (blk_below BK.out (fn_below _)) hb); have n1_ := Aside0.mk (below_step (below_step HB.out (fn_below _)) hb); clear HB BK hcl0 hcl1 hf0 hf1; have BK := n0_; have HB := n1_; clear n0_ n1_ hb; have hcl0 : w3.cell? ⟨gb, 0, none⟩ = some (.int .i64 0) := ((blk_cell BK.out _).trans rfl); have hcl1 : w3.cell? ⟨gb, 1, none⟩ = some (.int .i64 0) := ((blk_cell BK.out _).trans rfl); have hf0 := blk_frozen BK.out 0; have hf1 := blk_frozen BK.out 1; obtain rfl : b = false := hbd.trans (decide_eq_false fun z => absurd (⟨i, z⟩ : ∃ t : Nat, t < l0.length ∧ (rd_T31 l0 t).f0 = a1) HFD.out); clear hi2 hi3 hbd)))
        refine bodyPost_ret (results_ct rfl _ _ gb 31 #[.int .i64 0, .int .i64 0] (0, 0) _ rfl (by refine blk_put (cs := #[.int .i64 0, .int .i64 0]) ?_ 1 _ rfl; refine blk_put (cs := #[.int .i64 0, .int .i64 0]) ?_ 0 _ rfl; exact BK.out) Try.underlying31 rfl (by kernel_rfl)) rfl ?_
        exact ⟨by first | rfl | (simp; done), by repeat (first | (with_reducible first | exact HB.out | apply below_alloc | apply pw_below_drewN | apply below_drew1 | refine below_set ?_ GB.out) | exact HB.out)⟩
    · have he : (0, 0, false) = (r1, r2, r3) := by rw [← h]; unfold fd; rw [if_neg (fun z => hid z.2)]
      obtain ⟨rfl, rfl, rfl⟩ : 0 = r1 ∧ 0 = r2 ∧ false = r3 := by simpa using he
      clear h he
      generalize ck l0 = ckv at HF hck
      subst hck
      go_enter Try.func14, Try.ntmps14
      go_wp2_with (first | ((with_reducible refine gate_dst (N := 4) rfl ?_); refine box_event ?hg (N := 4) ?hd (cs := #[.int .i64 0, .int .i64 0]) (t := 31) ?hr ?_; (case hd => rfl); (case hg => rfl); (case hr => first | (go_simp; done) | (go_simp; rfl)); intro gb hgb w1 hbox hb; have BK := Aside0.mk hbox; have GB := Aside0.mk (by rw [hgb]; exact Nat.le_refl _ : w.heap.size ≤ gb); have n1_ := Aside0.mk (below_step HB.out hb); clear HB; have HB := n1_; clear n1_ hb hbox hgb) | (go_at_call 11; with_reducible refine (mark_Check.calls _ c0 l0 _ _ (Kd.C_below HR.out HB.out) hc0 HF.out).mono ?_; rintro e w2 ⟨rfl, hb⟩; have n0_ := Aside0.mk (blk_below (g := gb) (o := .cells #[.int .i64 0, .int .i64 0] 31 (0, 0)) BK.out hb); have n1_ := Aside0.mk (below_step HB.out hb); clear HB BK; have BK := n0_; have HB := n1_; clear n0_ n1_ hb; have hcl0 : w2.cell? ⟨gb, 0, none⟩ = some (.int .i64 0) := ((blk_cell BK.out _).trans rfl); have hcl1 : w2.cell? ⟨gb, 1, none⟩ = some (.int .i64 0) := ((blk_cell BK.out _).trans rfl); have hf0 := blk_frozen BK.out 0; have hf1 := blk_frozen BK.out 1) | (go_at_call 20; with_reducible refine (within_no a1 _ hid).mono ?_; rintro e w' ⟨rfl, rfl⟩))
      refine bodyPost_ret (results_ct rfl _ _ gb 31 #[.int .i64 0, .int .i64 0] (0, 0) _ rfl (by refine blk_put (cs := #[.int .i64 0, .int .i64 0]) ?_ 1 _ rfl; refine blk_put (cs := #[.int .i64 0, .int .i64 0]) ?_ 0 _ rfl; exact BK.out) Try.underlying31 rfl (by kernel_rfl)) rfl ?_
      exact ⟨by first | rfl | (simp; done), by repeat (first | (with_reducible first | exact HB.out | apply below_alloc | apply pw_below_drewN | apply below_drew1 | refine below_set ?_ GB.out) | exact HB.out)⟩
  · have he : (0, 0, false) = (r1, r2, r3) := by rw [← h]; unfold fd; rw [if_neg (fun z => hck z.1)]
    obtain ⟨rfl, rfl, rfl⟩ : 0 = r1 ∧ 0 = r2 ∧ false = r3 := by simpa using he
    clear h he
    generalize ck l0 = ckv at HF hck
    have hck1 : (ckv != 0) = true := bne_iff_ne.mpr hck
    have hck2 : (ckv == 0) = false := beq_eq_false_iff_ne.mpr hck
    go_enter Try.func14, Try.ntmps14
    go_wp2_with (first | ((with_reducible refine gate_dst (N := 4) rfl ?_); refine box_event ?hg (N := 4) ?hd (cs := #[.int .i64 0, .int .i64 0]) (t := 31) ?hr ?_; (case hd => rfl); (case hg => rfl); (case hr => first | (go_simp; done) | (go_simp; rfl)); intro gb hgb w1 hbox hb; have BK := Aside0.mk hbox; have GB := Aside0.mk (by rw [hgb]; exact Nat.le_refl _ : w.heap.size ≤ gb); have n1_ := Aside0.mk (below_step HB.out hb); clear HB; have HB := n1_; clear n1_ hb hbox hgb) | (go_at_call 11; with_reducible refine (mark_Check.calls _ c0 l0 _ _ (Kd.C_below HR.out HB.out) hc0 HF.out).mono ?_; rintro e w2 ⟨rfl, hb⟩; have n0_ := Aside0.mk (blk_below (g := gb) (o := .cells #[.int .i64 0, .int .i64 0] 31 (0, 0)) BK.out hb); have n1_ := Aside0.mk (below_step HB.out hb); clear HB BK; have BK := n0_; have HB := n1_; clear n0_ n1_ hb; have hcl0 : w2.cell? ⟨gb, 0, none⟩ = some (.int .i64 0) := ((blk_cell BK.out _).trans rfl); have hcl1 : w2.cell? ⟨gb, 1, none⟩ = some (.int .i64 0) := ((blk_cell BK.out _).trans rfl); have hf0 := blk_frozen BK.out 0; have hf1 := blk_frozen BK.out 1))
    refine bodyPost_ret (results_ct rfl _ _ gb 31 #[.int .i64 0, .int .i64 0] (0, 0) _ rfl (by refine blk_put (cs := #[.int .i64 0, .int .i64 0]) ?_ 1 _ rfl; refine blk_put (cs := #[.int .i64 0, .int .i64 0]) ?_ 0 _ rfl; exact BK.out) Try.underlying31 rfl (by kernel_rfl)) rfl ?_
    exact ⟨by first | rfl | (simp; done), by repeat (first | (with_reducible first | exact HB.out | apply below_alloc | apply pw_below_drewN | apply below_drew1 | refine below_set ?_ GB.out) | exact HB.out)⟩

end Go.Proofs.Ytcalkhlchjjalaa.Q

namespace Go.Proofs.Ytcalkhlchjjalaa.Q
open Go.RowKit Go.Proofs.YtcalkhlchjjalaaW.PrintWords Go.Proofs.YtcalkhlchjjalaaW.PrintLast Go.Proofs.YtcalkhlchjjalaaW.PrintMore Go.Proofs.Ytcalkhlchjjalaa.Gput
attribute [local go_sem] max2_int min2_int max_two min_two max_three min_three max_four min_four   -- for this text's walks alone
set_option linter.unusedVariables false
set_option linter.unusedSimpArgs false

/-! ### mark_Verify: function 17 -/
def mark_Verify.f (k : Nat) (l0 : List (S31)) (a1 : Int) (a2 : ByteArray) (a3 : Int) : Option (Bool) := (mark_Find.f l0 a1).bind fun bt104 => (if bt104.2.2 = true then ((mark_Sign.f k bt104.2.1 a2).bind fun bt108 => (if bt108.2 = 0 then (some (a3 == bt108.1)) else (some false))) else (some false))
theorem mark_Verify.mono : ∀ a0 a1 a2 a3 k, LeO (mark_Verify.f k a0 a1 a2 a3) (mark_Verify.f (k + 1) a0 a1 a2 a3) := by
  intro a0 a1 a2 a3 k
  unfold mark_Verify.f
  repeat' first
      | (with_reducible exact mark_Sign.mono _ _ _)
      | (with_reducible exact LeO.refl _)
      | (with_reducible exact LeO.none _)
      | (with_reducible refine LeO.ite ?_ ?_)
      | (with_reducible refine LeO.bind ?_ (fun _ => ?_))
      | exact mark_Sign.mono _ _ _
      | exact LeO.none _
      | refine LeO.ite ?_ ?_
      | refine LeO.bind ?_ (fun _ => ?_)
set_option maxHeartbeats 8000000 in
set_option maxRecDepth 100000 in
theorem mark_Verify.calls (k : Nat) (A0 : Option Addr) (c0 : Nat) (l0 : List (S31)) (a1 : Int) (a2 : ByteArray) (a3 : Int) (r : Bool) (w : World) (hr0 : Kd.C k31 w A0 l0.length l0) (hc0 : l0.length ≤ c0) (h : mark_Verify.f k l0 a1 a2 a3 = some r) :
    Calls Try.prog 17 #[.slice A0 l0.length c0, .int .i64 a1, .string a2, .int .i64 a3] w fun e w' => e = .returned (.bool r) ∧ Below w.heap.size w w' := by
  have hu31 := Try.underlying31
  have HR0 := Aside0.mk hr0
  have HC0 := Aside0.mk hc0
  clear hr0 hc0
  have HB := Aside0.mk (Below.refl w.heap.size w)
  have H : ((mark_Find.f l0 a1).bind fun bt104 => (if bt104.2.2 = true then ((mark_Sign.f k bt104.2.1 a2).bind fun bt108 => (if bt108.2 = 0 then (some (a3 == bt108.1)) else (some false))) else (some false))) = some r := h
  clear h
  replace H := Option.bind_eq_some_iff.mp H
  obtain ⟨⟨t104, t105, t106⟩, A50, H⟩ := H
  replace H : (if t106 = true then ((mark_Sign.f k t105 a2).bind fun bt108 => (if bt108.2 = 0 then (some (a3 == bt108.1)) else (some false))) else (some false)) = some r := H
  have A5 := Aside0.mk A50
  clear A50
  by_cases c6 : t106 = true
  · subst c6
    have H1 : ((mark_Sign.f k t105 a2).bind fun bt108 => (if bt108.2 = 0 then (some (a3 == bt108.1)) else (some false))) = some r := by rw [if_pos rfl] at H; exact H
    clear H
    have H := H1
    clear H1
    replace H := Option.bind_eq_some_iff.mp H
    obtain ⟨⟨t108, t109⟩, A70, H⟩ := H
    replace H : (if t109 = 0 then (some (a3 == t108)) else (some false)) = some r := H
    have A7 := Aside0.mk A70
    clear A70
    by_cases c8 : t109 = 0
    · rw [if_pos c8] at H
      have c8b0 : (t109 == 0) = true := beq_iff_eq.mpr c8
      have c8b1 : (t109 != 0) = false := bne_eq_false_iff_eq.mpr c8
      clear c8
      obtain rfl := Option.some.inj H
      go_enter Try.func17, Try.ntmps17
      go_wp2_with (first | ((with_reducible refine gate_callee (f := 14) rfl ?_); refine goesL_ (some 16) rfl rfl Try.func14 (by kernel_rfl) rfl #[.slice A0 l0.length c0, .int .i64 a1] rfl (by (try simp only [List.map_toArray, List.map_cons, List.map_nil]); first | done | rfl | (simp only [List.length_drop, List.length_take]; rfl)) ?_; (with_reducible refine (mark_Find.calls _ _ l0 a1 t104 t105 true _ ?side1 ?side2 A5.out).mono ?_); (case side1 => repeat (first | exact HR0.out | (with_reducible refine Kd.C_alloc ?_ _) | (with_reducible refine Kd.C_drewN ?_ _) | (with_reducible refine Kd.C_drew ?_))); (case side2 => exact HC0.out); rintro e w9 ⟨rfl, hb⟩; refine ⟨_, rfl, ?_⟩; have n0_ := Aside0.mk (below_step (by repeat (first | (with_reducible first | exact HB.out | apply below_alloc | apply pw_below_drewN | apply below_drew1) | exact HB.out)) hb); clear HB; have HB := n0_; clear n0_; (try clear hb); (try clear hb2); (try clear hk); (try clear hi)) | ((with_reducible refine gate_dst (N := 9) rfl ?_); refine box_event ?hg (N := 9) ?hd (cs := #[.int .i64 0, .int .i64 0]) (t := 31) ?hr ?_; (case hd => rfl); (case hg => rfl); (case hr => first | (go_simp; done) | (go_simp; rfl)); intro gb107 hg w10 hbox hb; have n0_ := Aside0.mk (below_step (by repeat (first | (with_reducible first | exact HB.out | apply below_alloc | apply pw_below_drewN | apply below_drew1) | exact HB.out)) hb); have n1_ := Aside0.mk (hbox); have n2_ := Aside0.mk ((by rw [hg]; exact (below_size (by repeat (first | (with_reducible first | exact HB.out | apply below_alloc | apply pw_below_drewN | apply below_drew1) | exact HB.out))) : w.heap.size ≤ gb107)); have n3_ := Aside0.mk ((by rw [hg]; exact (below_size (by repeat (first | (with_reducible first | exact HB.out | apply below_alloc | apply pw_below_drewN | apply below_drew1) | exact HB.out))) : w.heap.size ≤ gb107)); clear HB; have HB := n0_; have BK107 := n1_; have GW107 := n2_; have GE107 := n3_; clear n0_ n1_ n2_ n3_; clear hb hbox hg; have hcz11_0 : w10.cell? ⟨gb107, 0, none⟩ = some (.int .i64 0) := (blk_cell BK107.out 0).trans rfl; have hcz11_1 : w10.cell? ⟨gb107, 1, none⟩ = some (.int .i64 0) := (blk_cell BK107.out 1).trans rfl; have hfz11_0 := blk_frozen BK107.out 0; have hfz11_1 := blk_frozen BK107.out 1) | ((with_reducible refine gate_callee (f := 19) rfl ?_); refine goesL_ (some 25) rfl rfl Try.func19 (by kernel_rfl) rfl #[.int .i64 t105, .string a2] rfl (by (try simp only [List.map_toArray, List.map_cons, List.map_nil]); first | done | rfl | (simp only [List.length_drop, List.length_take]; rfl)) ?_; (with_reducible refine (mark_Sign.calls k t105 a2 t108 t109 _ A7.out).mono ?_); rintro e w12 ⟨rfl, hb⟩; refine ⟨_, rfl, ?_⟩; have n0_ := Aside0.mk (blk_below (g := gb107) (o := .cells #[.int .i64 t104, .int .i64 t105] 31 (0, 0)) (by (with_reducible repeat (first | refine blk_drewN ?_ _ | refine blk_drew ?_ | refine blk_alloc ?_ _)); refine blk_put (cs := #[.int .i64 t104, .int .i64 0]) ?_ 1 _ rfl; (with_reducible repeat (first | refine blk_drewN ?_ _ | refine blk_drew ?_ | refine blk_alloc ?_ _)); refine blk_put (cs := #[.int .i64 0, .int .i64 0]) ?_ 0 _ rfl; (with_reducible repeat (first | refine blk_drewN ?_ _ | refine blk_drew ?_ | refine blk_alloc ?_ _)); exact BK107.out) hb); have n1_ := Aside0.mk (below_step (by repeat (first | (with_reducible first | exact HB.out | apply below_alloc | apply pw_below_drewN | apply below_drew1 | refine below_set ?_ GE107.out) | exact HB.out)) hb); clear BK107; clear HB; have BK107 := n0_; have HB := n1_; clear n0_ n1_; (try clear hb); (try clear hb2); (try clear hk); (try clear hi)))
      go_ret
      exact ⟨by first | rfl | (simp [errW_none, errW_some] <;> rfl) | (simp [*, errW_none, errW_some] <;> rfl), by repeat (first | (with_reducible first | exact HB.out | apply below_alloc | apply pw_below_drewN | apply below_drew1 | refine below_set ?_ GE107.out) | exact HB.out)⟩
    · rw [if_neg c8] at H
      have c8b0 : (t109 == 0) = false := beq_eq_false_iff_ne.mpr c8
      have c8b1 : (t109 != 0) = true := bne_iff_ne.mpr c8
      obtain rfl := Option.some.inj H
      go_enter Try.func17, Try.ntmps17
      go_wp2_with (first | ((with_reducible refine gate_callee (f := 14) rfl ?_); refine goesL_ (some 16) rfl rfl Try.func14 (by kernel_rfl) rfl #[.slice A0 l0.length c0, .int .i64 a1] rfl (by (try simp only [List.map_toArray, List.map_cons, List.map_nil]); first | done | rfl | (simp only [List.length_drop, List.length_take]; rfl)) ?_; (with_reducible refine (mark_Find.calls _ _ l0 a1 t104 t105 true _ ?side1 ?side2 A5.out).mono ?_); (case side1 => repeat (first | exact HR0.out | (with_reducible refine Kd.C_alloc ?_ _) | (with_reducible refine Kd.C_drewN ?_ _) | (with_reducible refine Kd.C_drew ?_))); (case side2 => exact HC0.out); rintro e w13 ⟨rfl, hb⟩; refine ⟨_, rfl, ?_⟩; have n0_ := Aside0.mk (below_step (by repeat (first | (with_reducible first | exact HB.out | apply below_alloc | apply pw_below_drewN | apply below_drew1) | exact HB.out)) hb); clear HB; have HB := n0_; clear n0_; (try clear hb); (try clear hb2); (try clear hk); (try clear hi)) | ((with_reducible refine gate_dst (N := 9) rfl ?_); refine box_event ?hg (N := 9) ?hd (cs := #[.int .i64 0, .int .i64 0]) (t := 31) ?hr ?_; (case hd => rfl); (case hg => rfl); (case hr => first | (go_simp; done) | (go_simp; rfl)); intro gb107 hg w14 hbox hb; have n0_ := Aside0.mk (below_step (by repeat (first | (with_reducible first | exact HB.out | apply below_alloc | apply pw_below_drewN | apply below_drew1) | exact HB.out)) hb); have n1_ := Aside0.mk (hbox); have n2_ := Aside0.mk ((by rw [hg]; exact (below_size (by repeat (first | (with_reducible first | exact HB.out | apply below_alloc | apply pw_below_drewN | apply below_drew1) | exact HB.out))) : w.heap.size ≤ gb107)); have n3_ := Aside0.mk ((by rw [hg]; exact (below_size (by repeat (first | (with_reducible first | exact HB.out | apply below_alloc | apply pw_below_drewN | apply below_drew1) | exact HB.out))) : w.heap.size ≤ gb107)); clear HB; have HB := n0_; have BK107 := n1_; have GW107 := n2_; have GE107 := n3_; clear n0_ n1_ n2_ n3_; clear hb hbox hg; have hcz15_0 : w14.cell? ⟨gb107, 0, none⟩ = some (.int .i64 0) := (blk_cell BK107.out 0).trans rfl; have hcz15_1 : w14.cell? ⟨gb107, 1, none⟩ = some (.int .i64 0) := (blk_cell BK107.out 1).trans rfl; have hfz15_0 := blk_frozen BK107.out 0; have hfz15_1 := blk_frozen BK107.out 1) | ((with_reducible refine gate_callee (f := 19) rfl ?_); refine goesL_ (some 25) rfl rfl Try.func19 (by kernel_rfl) rfl #[.int .i64 t105, .string a2] rfl (by (try simp only [List.map_toArray, List.map_cons, List.map_nil]); first | done | rfl | (simp only [List.length_drop, List.length_take]; rfl)) ?_; (with_reducible refine (mark_Sign.calls k t105 a2 t108 t109 _ A7.out).mono ?_); rintro e w16 ⟨rfl, hb⟩; refine ⟨_, rfl, ?_⟩; have n0_ := Aside0.mk (blk_below (g := gb107) (o := .cells #[.int .i64 t104, .int .i64 t105] 31 (0, 0)) (by (with_reducible repeat (first | refine blk_drewN ?_ _ | refine blk_drew ?_ | refine blk_alloc ?_ _)); refine blk_put (cs := #[.int .i64 t104, .int .i64 0]) ?_ 1 _ rfl; (with_reducible repeat (first | refine blk_drewN ?_ _ | refine blk_drew ?_ | refine blk_alloc ?_ _)); refine blk_put (cs := #[.int .i64 0, .int .i64 0]) ?_ 0 _ rfl; (with_reducible repeat (first | refine blk_drewN ?_ _ | refine blk_drew ?_ | refine blk_alloc ?_ _)); exact BK107.out) hb); have n1_ := Aside0.mk (below_step (by repeat (first | (with_reducible first | exact HB.out | apply below_alloc | apply pw_below_drewN | apply below_drew1 | refine below_set ?_ GE107.out) | exact HB.out)) hb); clear BK107; clear HB; have BK107 := n0_; have HB := n1_; clear n0_ n1_; (try clear hb); (try clear hb2); (try clear hk); (try clear hi)))
      go_ret
      exact ⟨by first | rfl | (simp [errW_none, errW_some] <;> rfl) | (simp [*, errW_none, errW_some] <;> rfl), by repeat (first | (with_reducible first | exact HB.out | apply below_alloc | apply pw_below_drewN | apply below_drew1 | refine below_set ?_ GE107.out) | exact HB.out)⟩
  · replace c6 := Bool.eq_false_iff.mpr c6
    subst c6
    have H1 : (some false) = some r := by rw [if_neg (show ¬ (false = true) by decide)] at H; exact H
    clear H
    have H := H1
    clear H1
    obtain rfl := Option.some.inj H
    go_enter Try.func17, Try.ntmps17
    go_wp2_with (first | ((with_reducible refine gate_callee (f := 14) rfl ?_); refine goesL_ (some 16) rfl rfl Try.func14 (by kernel_rfl) rfl #[.slice A0 l0.length c0, .int .i64 a1] rfl (by (try simp only [List.map_toArray, List.map_cons, List.map_nil]); first | done | rfl | (simp only [List.length_drop, List.length_take]; rfl)) ?_; (with_reducible refine (mark_Find.calls _ _ l0 a1 t104 t105 false _ ?side1 ?side2 A5.out).mono ?_); (case side1 => repeat (first | exact HR0.out | (with_reducible refine Kd.C_alloc ?_ _) | (with_reducible refine Kd.C_drewN ?_ _) | (with_reducible refine Kd.C_drew ?_))); (case side2 => exact HC0.out); rintro e w17 ⟨rfl, hb⟩; refine ⟨_, rfl, ?_⟩; have n0_ := Aside0.mk (below_step (by repeat (first | (with_reducible first | exact HB.out | apply below_alloc | apply pw_below_drewN | apply below_drew1) | exact HB.out)) hb); clear HB; have HB := n0_; clear n0_; (try clear hb); (try clear hb2); (try clear hk); (try clear hi)) | ((with_reducible refine gate_dst (N := 9) rfl ?_); refine box_event ?hg (N := 9) ?hd (cs := #[.int .i64 0, .int .i64 0]) (t := 31) ?hr ?_; (case hd => rfl); (case hg => rfl); (case hr => first | (go_simp; done) | (go_simp; rfl)); intro gb107 hg w18 hbox hb; have n0_ := Aside0.mk (below_step (by repeat (first | (with_reducible first | exact HB.out | apply below_alloc | apply pw_below_drewN | apply below_drew1) | exact HB.out)) hb); have n1_ := Aside0.mk (hbox); have n2_ := Aside0.mk ((by rw [hg]; exact (below_size (by repeat (first | (with_reducible first | exact HB.out | apply below_alloc | apply pw_below_drewN | apply below_drew1) | exact HB.out))) : w.heap.size ≤ gb107)); have n3_ := Aside0.mk ((by rw [hg]; exact (below_size (by repeat (first | (with_reducible first | exact HB.out | apply below_alloc | apply pw_below_drewN | apply below_drew1) | exact HB.out))) : w.heap.size ≤ gb107)); clear HB; have HB := n0_; have BK107 := n1_; have GW107 := n2_; have GE107 := n3_; clear n0_ n1_ n2_ n3_; clear hb hbox hg; have hcz19_0 : w18.cell? ⟨gb107, 0, none⟩ = some (.int .i64 0) := (blk_cell BK107.out 0).trans rfl; have hcz19_1 : w18.cell? ⟨gb107, 1, none⟩ = some (.int .i64 0) := (blk_cell BK107.out 1).trans rfl; have hfz19_0 := blk_frozen BK107.out 0; have hfz19_1 := blk_frozen BK107.out 1))
    go_ret
    exact ⟨by first | rfl | (simp [errW_none, errW_some] <;> rfl) | (simp [*, errW_none, errW_some] <;> rfl), by repeat (first | (with_reducible first | exact HB.out | apply below_alloc | apply pw_below_drewN | apply below_drew1 | refine below_set ?_ GE107.out) | exact HB.out)⟩

end Go.Proofs.Ytcalkhlchjjalaa.Q

namespace Go.Proofs.Ytcalkhlchjjalaa.Q
open Go.RowKit Go.Proofs.YtcalkhlchjjalaaW.PrintWords Go.Proofs.YtcalkhlchjjalaaW.PrintLast Go.Proofs.YtcalkhlchjjalaaW.PrintMore Go.Proofs.Ytcalkhlchjjalaa.Gput
attribute [local go_sem] max2_int min2_int max_two min_two max_three min_three max_four min_four   -- for this text's walks alone
set_option linter.unusedVariables false
set_option linter.unusedSimpArgs false

/-! ### storagebarterlaw14_sane: function 6 -/
def storagebarterlaw14_sane.f (k : Nat)  : Option (Bool) := (mark_Sign.f k 1 (⟨#[]⟩ : ByteArray)).bind fun bt110 => ((some (([(⟨4, 1⟩ : S31)] : List (S31)) : List (S31))).bind fun y112 => (if bt110.2 = 0 then (if bt110.1 = 1000006 then ((mark_Check.f y112).bind fun t115 => (if t115 = 0 then ((mark_Verify.f k y112 4 (⟨#[]⟩ : ByteArray) bt110.1).bind fun t116 => (if t116 = true then ((mark_Verify.f k y112 4 (⟨#[]⟩ : ByteArray) (wrap64 (bt110.1 + 1))).bind fun t117 => (if t117 = true then (some false) else ((mark_Verify.f k y112 5 (⟨#[]⟩ : ByteArray) bt110.1).bind fun t118 => (some (!t118))))) else (some false))) else (some false))) else (some false)) else (some false)))
theorem storagebarterlaw14_sane.mono : ∀ k, LeO (storagebarterlaw14_sane.f k ) (storagebarterlaw14_sane.f (k + 1) ) := by
  intro  k
  unfold storagebarterlaw14_sane.f
  repeat' first
      | (with_reducible exact mark_Sign.mono _ _ _)
      | (with_reducible exact mark_Verify.mono _ _ _ _ _)
      | (with_reducible exact LeO.refl _)
      | (with_reducible exact LeO.none _)
      | (with_reducible refine LeO.ite ?_ ?_)
      | (with_reducible refine LeO.bind ?_ (fun _ => ?_))
      | exact mark_Sign.mono _ _ _
      | exact mark_Verify.mono _ _ _ _ _
      | exact LeO.none _
      | refine LeO.ite ?_ ?_
      | refine LeO.bind ?_ (fun _ => ?_)
set_option maxHeartbeats 8000000 in
set_option maxRecDepth 100000 in
theorem storagebarterlaw14_sane.calls (k : Nat)  (r : Bool) (w : World) (h : storagebarterlaw14_sane.f k  = some r) :
    Calls Try.prog 6 #[] w fun e w' => e = .returned (.bool r) ∧ Below w.heap.size w w' := by
  have hu31 := Try.underlying31
  have HB := Aside0.mk (Below.refl w.heap.size w)
  have H : ((mark_Sign.f k 1 (⟨#[]⟩ : ByteArray)).bind fun bt110 => ((some (([(⟨4, 1⟩ : S31)] : List (S31)) : List (S31))).bind fun y112 => (if bt110.2 = 0 then (if bt110.1 = 1000006 then ((mark_Check.f y112).bind fun t115 => (if t115 = 0 then ((mark_Verify.f k y112 4 (⟨#[]⟩ : ByteArray) bt110.1).bind fun t116 => (if t116 = true then ((mark_Verify.f k y112 4 (⟨#[]⟩ : ByteArray) (wrap64 (bt110.1 + 1))).bind fun t117 => (if t117 = true then (some false) else ((mark_Verify.f k y112 5 (⟨#[]⟩ : ByteArray) bt110.1).bind fun t118 => (some (!t118))))) else (some false))) else (some false))) else (some false)) else (some false)))) = some r := h
  clear h
  replace H := Option.bind_eq_some_iff.mp H
  obtain ⟨⟨t110, t111⟩, A10, H⟩ := H
  replace H : ((some (([(⟨4, 1⟩ : S31)] : List (S31)) : List (S31))).bind fun y112 => (if t111 = 0 then (if t110 = 1000006 then ((mark_Check.f y112).bind fun t115 => (if t115 = 0 then ((mark_Verify.f k y112 4 (⟨#[]⟩ : ByteArray) t110).bind fun t116 => (if t116 = true then ((mark_Verify.f k y112 4 (⟨#[]⟩ : ByteArray) (wrap64 (t110 + 1))).bind fun t117 => (if t117 = true then (some false) else ((mark_Verify.f k y112 5 (⟨#[]⟩ : ByteArray) t110).bind fun t118 => (some (!t118))))) else (some false))) else (some false))) else (some false)) else (some false))) = some r := H
  have A1 := Aside0.mk A10
  clear A10
  obtain ⟨y112, hy112⟩ : ∃ y_ : List (S31), y_ = (([(⟨4, 1⟩ : S31)] : List (S31))) := ⟨_, rfl⟩
  replace H : (if t111 = 0 then (if t110 = 1000006 then ((mark_Check.f y112).bind fun t115 => (if t115 = 0 then ((mark_Verify.f k y112 4 (⟨#[]⟩ : ByteArray) t110).bind fun t116 => (if t116 = true then ((mark_Verify.f k y112 4 (⟨#[]⟩ : ByteArray) (wrap64 (t110 + 1))).bind fun t117 => (if t117 = true then (some false) else ((mark_Verify.f k y112 5 (⟨#[]⟩ : ByteArray) t110).bind fun t118 => (some (!t118))))) else (some false))) else (some false))) else (some false)) else (some false)) = some r := by first | (rw [hy112]; with_reducible exact H) | (have H2_ := (Option.bind_some _ _).symm.trans H; rw [hy112]; with_reducible exact H2_) | (have H2_ := (Option.bind_some _ _).symm.trans H; with_reducible exact H2_) | with_reducible exact H | (rw [hy112]; exact H) | exact H
  have Ny112 := Aside0.mk hy112
  clear hy112
  by_cases c2 : t111 = 0
  · rw [if_pos c2] at H
    have c2b0 : (t111 == 0) = true := beq_iff_eq.mpr c2
    have c2b1 : (t111 != 0) = false := bne_eq_false_iff_eq.mpr c2
    clear c2
    by_cases c3 : t110 = 1000006
    · rw [if_pos c3] at H
      have c3b0 : (t110 == 1000006) = true := beq_iff_eq.mpr c3
      have c3b1 : (t110 != 1000006) = false := bne_eq_false_iff_eq.mpr c3
      clear c3
      replace H := Option.bind_eq_some_iff.mp H
      obtain ⟨t115, A40, H⟩ := H
      replace H : (if t115 = 0 then ((mark_Verify.f k y112 4 (⟨#[]⟩ : ByteArray) t110).bind fun t116 => (if t116 = true then ((mark_Verify.f k y112 4 (⟨#[]⟩ : ByteArray) (wrap64 (t110 + 1))).bind fun t117 => (if t117 = true then (some false) else ((mark_Verify.f k y112 5 (⟨#[]⟩ : ByteArray) t110).bind fun t118 => (some (!t118))))) else (some false))) else (some false)) = some r := H
      have A4 := Aside0.mk A40
      clear A40
      by_cases c5 : t115 = 0
      · rw [if_pos c5] at H
        have c5b0 : (t115 == 0) = true := beq_iff_eq.mpr c5
        have c5b1 : (t115 != 0) = false := bne_eq_false_iff_eq.mpr c5
        clear c5
        replace H := Option.bind_eq_some_iff.mp H
        obtain ⟨t116, A60, H⟩ := H
        replace H : (if t116 = true then ((mark_Verify.f k y112 4 (⟨#[]⟩ : ByteArray) (wrap64 (t110 + 1))).bind fun t117 => (if t117 = true then (some false) else ((mark_Verify.f k y112 5 (⟨#[]⟩ : ByteArray) t110).bind fun t118 => (some (!t118))))) else (some false)) = some r := H
        have A6 := Aside0.mk A60
        clear A60
        by_cases c7 : t116 = true
        · subst c7
          have H1 : ((mark_Verify.f k y112 4 (⟨#[]⟩ : ByteArray) (wrap64 (t110 + 1))).bind fun t117 => (if t117 = true then (some false) else ((mark_Verify.f k y112 5 (⟨#[]⟩ : ByteArray) t110).bind fun t118 => (some (!t118))))) = some r := by rw [if_pos rfl] at H; exact H
          clear H
          have H := H1
          clear H1
          replace H := Option.bind_eq_some_iff.mp H
          obtain ⟨t117, A80, H⟩ := H
          replace H : (if t117 = true then (some false) else ((mark_Verify.f k y112 5 (⟨#[]⟩ : ByteArray) t110).bind fun t118 => (some (!t118)))) = some r := H
          have A8 := Aside0.mk A80
          clear A80
          by_cases c9 : t117 = true
          · subst c9
            have H1 : (some false) = some r := by rw [if_pos rfl] at H; exact H
            clear H
            have H := H1
            clear H1
            obtain rfl := Option.some.inj H
            go_enter Try.func6, Try.ntmps6
            go_wp2_with (first | ((with_reducible refine gate_callee (f := 19) rfl ?_); refine goesL_ (some 5) rfl rfl Try.func19 (by kernel_rfl) rfl #[.int .i64 1, .string (⟨#[]⟩ : ByteArray)] rfl (by (try simp only [List.map_toArray, List.map_cons, List.map_nil]); first | done | rfl | (simp only [List.length_drop, List.length_take]; rfl)) ?_; (with_reducible refine (mark_Sign.calls k 1 (⟨#[]⟩ : ByteArray) t110 t111 _ A1.out).mono ?_); rintro e w10 ⟨rfl, hb⟩; refine ⟨_, rfl, ?_⟩; have n0_ := Aside0.mk (below_step (by repeat (first | (with_reducible first | exact HB.out | apply below_alloc | apply pw_below_drewN | apply below_drew1) | exact HB.out)) hb); clear HB; have HB := n0_; clear n0_; (try clear hb); (try clear hb2); (try clear hk); (try clear hi)) | ((with_reducible refine gate_dst (N := 9) rfl ?_); refine Kd.R_lit k31 _ 31 ?hg (N := 9) ?hd (xs := ([(⟨4, 1⟩ : S31)] : List (S31))) (inner := [.int .i64 4, .int .i64 1]) (ok := fun _ => True) (okp := fun _ => True) ?hr ?hp (fun _ hk => hk) trivial (Below.refl _ _) (Nat.le_refl _) (by simp) ?_; (case hd => rfl); (case hg => rfl); (case hr => first | (go_simp; done) | (go_simp; rfl)); (case hp => exact (Reps.c2 (show Kd.M k31 _ _ _ (⟨4, 1⟩ : S31) [.int .i64 4, .int .i64 1] from (k31_mkM _ _ _ (⟨4, 1⟩ : S31) )) (Reps.none _ _))); intro v113 w11 ho12 hb hg_ hnew_; clear hg_ hnew_; (first | rw [← Ny112.out] at ho12 | (simp only [Int.reduceToNat] at ho12; rw [← Ny112.out] at ho12)); have n0_ := Aside0.mk (Kd.R_lower ho12 (below_size (by repeat (first | (with_reducible first | exact HB.out | apply below_alloc | apply pw_below_drewN | apply below_drew1) | exact HB.out)))); have n1_ := Aside0.mk (below_step (by repeat (first | (with_reducible first | exact HB.out | apply below_alloc | apply pw_below_drewN | apply below_drew1) | exact HB.out)) hb); clear HB; have HO114 := n0_; have HB := n1_; clear n0_ n1_; clear hb ho12; obtain ⟨Ao13, co13, eo13⟩ := Kd.R_slice HO114.out; subst eo13) | (go_at_call 11; (with_reducible refine (mark_Check.calls _ _ y112 t115 _ ?side1 ?side2 A4.out).mono ?_); (case side1 => repeat (first | exact (Kd.R_reads' HO114.out).2.2 | (with_reducible refine Kd.C_alloc ?_ _) | (with_reducible refine Kd.C_drewN ?_ _) | (with_reducible refine Kd.C_drew ?_))); (case side2 => exact (Kd.R_reads' HO114.out).2.1); rintro e w14 ⟨rfl, hb⟩; have n0_ := Aside0.mk (Kd.R_below (by (with_reducible repeat (first | apply Kd.R_alloc | apply Kd.R_drewN | apply Kd.R_drew)); exact HO114.out) hb); have n1_ := Aside0.mk (below_step (by repeat (first | (with_reducible first | exact HB.out | apply below_alloc | apply pw_below_drewN | apply below_drew1) | exact HB.out)) hb); clear HO114; clear HB; have HO114 := n0_; have HB := n1_; clear n0_ n1_; (try clear hb); (try clear hb2); (try clear hk); (try clear hi)) | (go_at_call 17; (with_reducible refine (mark_Verify.calls k _ _ y112 4 (⟨#[]⟩ : ByteArray) t110 true _ ?side1 ?side2 A6.out).mono ?_); (case side1 => repeat (first | exact (Kd.R_reads' HO114.out).2.2 | (with_reducible refine Kd.C_alloc ?_ _) | (with_reducible refine Kd.C_drewN ?_ _) | (with_reducible refine Kd.C_drew ?_))); (case side2 => exact (Kd.R_reads' HO114.out).2.1); rintro e w15 ⟨rfl, hb⟩; have n0_ := Aside0.mk (Kd.R_below (by (with_reducible repeat (first | apply Kd.R_alloc | apply Kd.R_drewN | apply Kd.R_drew)); exact HO114.out) hb); have n1_ := Aside0.mk (below_step (by repeat (first | (with_reducible first | exact HB.out | apply below_alloc | apply pw_below_drewN | apply below_drew1) | exact HB.out)) hb); clear HO114; clear HB; have HO114 := n0_; have HB := n1_; clear n0_ n1_; (try clear hb); (try clear hb2); (try clear hk); (try clear hi)) | (go_at_call 17; (with_reducible refine (mark_Verify.calls k _ _ y112 4 (⟨#[]⟩ : ByteArray) (wrap64 (t110 + 1)) true _ ?side1 ?side2 A8.out).mono ?_); (case side1 => repeat (first | exact (Kd.R_reads' HO114.out).2.2 | (with_reducible refine Kd.C_alloc ?_ _) | (with_reducible refine Kd.C_drewN ?_ _) | (with_reducible refine Kd.C_drew ?_))); (case side2 => exact (Kd.R_reads' HO114.out).2.1); rintro e w16 ⟨rfl, hb⟩; have n0_ := Aside0.mk (Kd.R_below (by (with_reducible repeat (first | apply Kd.R_alloc | apply Kd.R_drewN | apply Kd.R_drew)); exact HO114.out) hb); have n1_ := Aside0.mk (below_step (by repeat (first | (with_reducible first | exact HB.out | apply below_alloc | apply pw_below_drewN | apply below_drew1) | exact HB.out)) hb); clear HO114; clear HB; have HO114 := n0_; have HB := n1_; clear n0_ n1_; (try clear hb); (try clear hb2); (try clear hk); (try clear hi)))
            go_ret
            exact ⟨by first | rfl | (simp [errW_none, errW_some] <;> rfl) | (simp [*, errW_none, errW_some] <;> rfl), by repeat (first | (with_reducible first | exact HB.out | apply below_alloc | apply pw_below_drewN | apply below_drew1) | exact HB.out)⟩
          · replace c9 := Bool.eq_false_iff.mpr c9
            subst c9
            have H1 : ((mark_Verify.f k y112 5 (⟨#[]⟩ : ByteArray) t110).bind fun t118 => (some (!t118))) = some r := by rw [if_neg (show ¬ (false = true) by decide)] at H; exact H
            clear H
            have H := H1
            clear H1
            replace H := Option.bind_eq_some_iff.mp H
            obtain ⟨t118, A170, H⟩ := H
            replace H : (some (!t118)) = some r := H
            have A17 := Aside0.mk A170
            clear A170
            obtain rfl := Option.some.inj H
            go_enter Try.func6, Try.ntmps6
            go_wp2_with (first | ((with_reducible refine gate_callee (f := 19) rfl ?_); refine goesL_ (some 5) rfl rfl Try.func19 (by kernel_rfl) rfl #[.int .i64 1, .string (⟨#[]⟩ : ByteArray)] rfl (by (try simp only [List.map_toArray, List.map_cons, List.map_nil]); first | done | rfl | (simp only [List.length_drop, List.length_take]; rfl)) ?_; (with_reducible refine (mark_Sign.calls k 1 (⟨#[]⟩ : ByteArray) t110 t111 _ A1.out).mono ?_); rintro e w18 ⟨rfl, hb⟩; refine ⟨_, rfl, ?_⟩; have n0_ := Aside0.mk (below_step (by repeat (first | (with_reducible first | exact HB.out | apply below_alloc | apply pw_below_drewN | apply below_drew1) | exact HB.out)) hb); clear HB; have HB := n0_; clear n0_; (try clear hb); (try clear hb2); (try clear hk); (try clear hi)) | ((with_reducible refine gate_dst (N := 9) rfl ?_); refine Kd.R_lit k31 _ 31 ?hg (N := 9) ?hd (xs := ([(⟨4, 1⟩ : S31)] : List (S31))) (inner := [.int .i64 4, .int .i64 1]) (ok := fun _ => True) (okp := fun _ => True) ?hr ?hp (fun _ hk => hk) trivial (Below.refl _ _) (Nat.le_refl _) (by simp) ?_; (case hd => rfl); (case hg => rfl); (case hr => first | (go_simp; done) | (go_simp; rfl)); (case hp => exact (Reps.c2 (show Kd.M k31 _ _ _ (⟨4, 1⟩ : S31) [.int .i64 4, .int .i64 1] from (k31_mkM _ _ _ (⟨4, 1⟩ : S31) )) (Reps.none _ _))); intro v113 w19 ho20 hb hg_ hnew_; clear hg_ hnew_; (first | rw [← Ny112.out] at ho20 | (simp only [Int.reduceToNat] at ho20; rw [← Ny112.out] at ho20)); have n0_ := Aside0.mk (Kd.R_lower ho20 (below_size (by repeat (first | (with_reducible first | exact HB.out | apply below_alloc | apply pw_below_drewN | apply below_drew1) | exact HB.out)))); have n1_ := Aside0.mk (below_step (by repeat (first | (with_reducible first | exact HB.out | apply below_alloc | apply pw_below_drewN | apply below_drew1) | exact HB.out)) hb); clear HB; have HO114 := n0_; have HB := n1_; clear n0_ n1_; clear hb ho20; obtain ⟨Ao21, co21, eo21⟩ := Kd.R_slice HO114.out; subst eo21) | (go_at_call 11; (with_reducible refine (mark_Check.calls _ _ y112 t115 _ ?side1 ?side2 A4.out).mono ?_); (case side1 => repeat (first | exact (Kd.R_reads' HO114.out).2.2 | (with_reducible refine Kd.C_alloc ?_ _) | (with_reducible refine Kd.C_drewN ?_ _) | (with_reducible refine Kd.C_drew ?_))); (case side2 => exact (Kd.R_reads' HO114.out).2.1); rintro e w22 ⟨rfl, hb⟩; have n0_ := Aside0.mk (Kd.R_below (by (with_reducible repeat (first | apply Kd.R_alloc | apply Kd.R_drewN | apply Kd.R_drew)); exact HO114.out) hb); have n1_ := Aside0.mk (below_step (by repeat (first | (with_reducible first | exact HB.out | apply below_alloc | apply pw_below_drewN | apply below_drew1) | exact HB.out)) hb); clear HO114; clear HB; have HO114 := n0_; have HB := n1_; clear n0_ n1_; (try clear hb); (try clear hb2); (try clear hk); (try clear hi)) | (go_at_call 17; (with_reducible refine (mark_Verify.calls k _ _ y112 4 (⟨#[]⟩ : ByteArray) t110 true _ ?side1 ?side2 A6.out).mono ?_); (case side1 => repeat (first | exact (Kd.R_reads' HO114.out).2.2 | (with_reducible refine Kd.C_alloc ?_ _) | (with_reducible refine Kd.C_drewN ?_ _) | (with_reducible refine Kd.C_drew ?_))); (case side2 => exact (Kd.R_reads' HO114.out).2.1); rintro e w23 ⟨rfl, hb⟩; have n0_ := Aside0.mk (Kd.R_below (by (with_reducible repeat (first | apply Kd.R_alloc | apply Kd.R_drewN | apply Kd.R_drew)); exact HO114.out) hb); have n1_ := Aside0.mk (below_step (by repeat (first | (with_reducible first | exact HB.out | apply below_alloc | apply pw_below_drewN | apply below_drew1) | exact HB.out)) hb); clear HO114; clear HB; have HO114 := n0_; have HB := n1_; clear n0_ n1_; (try clear hb); (try clear hb2); (try clear hk); (try clear hi)) | (go_at_call 17; (with_reducible refine (mark_Verify.calls k _ _ y112 4 (⟨#[]⟩ : ByteArray) (wrap64 (t110 + 1)) false _ ?side1 ?side2 A8.out).mono ?_); (case side1 => repeat (first | exact (Kd.R_reads' HO114.out).2.2 | (with_reducible refine Kd.C_alloc ?_ _) | (with_reducible refine Kd.C_drewN ?_ _) | (with_reducible refine Kd.C_drew ?_))); (case side2 => exact (Kd.R_reads' HO114.out).2.1); rintro e w24 ⟨rfl, hb⟩; have n0_ := Aside0.mk (Kd.R_below (by (with_reducible repeat (first | apply Kd.R_alloc | apply Kd.R_drewN | apply Kd.R_drew)); exact HO114.out) hb); have n1_ := Aside0.mk (below_step (by repeat (first | (with_reducible first | exact HB.out | apply below_alloc | apply pw_below_drewN | apply below_drew1) | exact HB.out)) hb); clear HO114; clear HB; have HO114 := n0_; have HB := n1_; clear n0_ n1_; (try clear hb); (try clear hb2); (try clear hk); (try clear hi)) | (go_at_call 17; (with_reducible refine (mark_Verify.calls k _ _ y112 5 (⟨#[]⟩ : ByteArray) t110 t118 _ ?side1 ?side2 A17.out).mono ?_); (case side1 => repeat (first | exact (Kd.R_reads' HO114.out).2.2 | (with_reducible refine Kd.C_alloc ?_ _) | (with_reducible refine Kd.C_drewN ?_ _) | (with_reducible refine Kd.C_drew ?_))); (case side2 => exact (Kd.R_reads' HO114.out).2.1); rintro e w25 ⟨rfl, hb⟩; have n0_ := Aside0.mk (Kd.R_below (by (with_reducible repeat (first | apply Kd.R_alloc | apply Kd.R_drewN | apply Kd.R_drew)); exact HO114.out) hb); have n1_ := Aside0.mk (below_step (by repeat (first | (with_reducible first | exact HB.out | apply below_alloc | apply pw_below_drewN | apply below_drew1) | exact HB.out)) hb); clear HO114; clear HB; have HO114 := n0_; have HB := n1_; clear n0_ n1_; (try clear hb); (try clear hb2); (try clear hk); (try clear hi)))
            go_ret
            exact ⟨by first | rfl | (simp [errW_none, errW_some] <;> rfl) | (simp [*, errW_none, errW_some] <;> rfl), by repeat (first | (with_reducible first | exact HB.out | apply below_alloc | apply pw_below_drewN | apply below_drew1) | exact HB.out)⟩
        · replace c7 := Bool.eq_false_iff.mpr c7
          subst c7
          have H1 : (some false) = some r := by rw [if_neg (show ¬ (false = true) by decide)] at H; exact H
          clear H
          have H := H1
          clear H1
          obtain rfl := Option.some.inj H
          go_enter Try.func6, Try.ntmps6
          go_wp2_with (first | ((with_reducible refine gate_callee (f := 19) rfl ?_); refine goesL_ (some 5) rfl rfl Try.func19 (by kernel_rfl) rfl #[.int .i64 1, .string (⟨#[]⟩ : ByteArray)] rfl (by (try simp only [List.map_toArray, List.map_cons, List.map_nil]); first | done | rfl | (simp only [List.length_drop, List.length_take]; rfl)) ?_; (with_reducible refine (mark_Sign.calls k 1 (⟨#[]⟩ : ByteArray) t110 t111 _ A1.out).mono ?_); rintro e w26 ⟨rfl, hb⟩; refine ⟨_, rfl, ?_⟩; have n0_ := Aside0.mk (below_step (by repeat (first | (with_reducible first | exact HB.out | apply below_alloc | apply pw_below_drewN | apply below_drew1) | exact HB.out)) hb); clear HB; have HB := n0_; clear n0_; (try clear hb); (try clear hb2); (try clear hk); (try clear hi)) | ((with_reducible refine gate_dst (N := 9) rfl ?_); refine Kd.R_lit k31 _ 31 ?hg (N := 9) ?hd (xs := ([(⟨4, 1⟩ : S31)] : List (S31))) (inner := [.int .i64 4, .int .i64 1]) (ok := fun _ => True) (okp := fun _ => True) ?hr ?hp (fun _ hk => hk) trivial (Below.refl _ _) (Nat.le_refl _) (by simp) ?_; (case hd => rfl); (case hg => rfl); (case hr => first | (go_simp; done) | (go_simp; rfl)); (case hp => exact (Reps.c2 (show Kd.M k31 _ _ _ (⟨4, 1⟩ : S31) [.int .i64 4, .int .i64 1] from (k31_mkM _ _ _ (⟨4, 1⟩ : S31) )) (Reps.none _ _))); intro v113 w27 ho28 hb hg_ hnew_; clear hg_ hnew_; (first | rw [← Ny112.out] at ho28 | (simp only [Int.reduceToNat] at ho28; rw [← Ny112.out] at ho28)); have n0_ := Aside0.mk (Kd.R_lower ho28 (below_size (by repeat (first | (with_reducible first | exact HB.out | apply below_alloc | apply pw_below_drewN | apply below_drew1) | exact HB.out)))); have n1_ := Aside0.mk (below_step (by repeat (first | (with_reducible first | exact HB.out | apply below_alloc | apply pw_below_drewN | apply below_drew1) | exact HB.out)) hb); clear HB; have HO114 := n0_; have HB := n1_; clear n0_ n1_; clear hb ho28; obtain ⟨Ao29, co29, eo29⟩ := Kd.R_slice HO114.out; subst eo29) | (go_at_call 11; (with_reducible refine (mark_Check.calls _ _ y112 t115 _ ?side1 ?side2 A4.out).mono ?_); (case side1 => repeat (first | exact (Kd.R_reads' HO114.out).2.2 | (with_reducible refine Kd.C_alloc ?_ _) | (with_reducible refine Kd.C_drewN ?_ _) | (with_reducible refine Kd.C_drew ?_))); (case side2 => exact (Kd.R_reads' HO114.out).2.1); rintro e w30 ⟨rfl, hb⟩; have n0_ := Aside0.mk (Kd.R_below (by (with_reducible repeat (first | apply Kd.R_alloc | apply Kd.R_drewN | apply Kd.R_drew)); exact HO114.out) hb); have n1_ := Aside0.mk (below_step (by repeat (first | (with_reducible first | exact HB.out | apply below_alloc | apply pw_below_drewN | apply below_drew1) | exact HB.out)) hb); clear HO114; clear HB; have HO114 := n0_; have HB := n1_; clear n0_ n1_; (try clear hb); (try clear hb2); (try clear hk); (try clear hi)) | (go_at_call 17; (with_reducible refine (mark_Verify.calls k _ _ y112 4 (⟨#[]⟩ : ByteArray) t110 false _ ?side1 ?side2 A6.out).mono ?_); (case side1 => repeat (first | exact (Kd.R_reads' HO114.out).2.2 | (with_reducible refine Kd.C_alloc ?_ _) | (with_reducible refine Kd.C_drewN ?_ _) | (with_reducible refine Kd.C_drew ?_))); (case side2 => exact (Kd.R_reads' HO114.out).2.1); rintro e w31 ⟨rfl, hb⟩; have n0_ := Aside0.mk (Kd.R_below (by (with_reducible repeat (first | apply Kd.R_alloc | apply Kd.R_drewN | apply Kd.R_drew)); exact HO114.out) hb); have n1_ := Aside0.mk (below_step (by repeat (first | (with_reducible first | exact HB.out | apply below_alloc | apply pw_below_drewN | apply below_drew1) | exact HB.out)) hb); clear HO114; clear HB; have HO114 := n0_; have HB := n1_; clear n0_ n1_; (try clear hb); (try clear hb2); (try clear hk); (try clear hi)))
          go_ret
          exact ⟨by first | rfl | (simp [errW_none, errW_some] <;> rfl) | (simp [*, errW_none, errW_some] <;> rfl), by repeat (first | (with_reducible first | exact HB.out | apply below_alloc | apply pw_below_drewN | apply below_drew1) | exact HB.out)⟩
      · rw [if_neg c5] at H
        have c5b0 : (t115 == 0) = false := beq_eq_false_iff_ne.mpr c5
        have c5b1 : (t115 != 0) = true := bne_iff_ne.mpr c5
        obtain rfl := Option.some.inj H
        go_enter Try.func6, Try.ntmps6
        go_wp2_with (first | ((with_reducible refine gate_callee (f := 19) rfl ?_); refine goesL_ (some 5) rfl rfl Try.func19 (by kernel_rfl) rfl #[.int .i64 1, .string (⟨#[]⟩ : ByteArray)] rfl (by (try simp only [List.map_toArray, List.map_cons, List.map_nil]); first | done | rfl | (simp only [List.length_drop, List.length_take]; rfl)) ?_; (with_reducible refine (mark_Sign.calls k 1 (⟨#[]⟩ : ByteArray) t110 t111 _ A1.out).mono ?_); rintro e w32 ⟨rfl, hb⟩; refine ⟨_, rfl, ?_⟩; have n0_ := Aside0.mk (below_step (by repeat (first | (with_reducible first | exact HB.out | apply below_alloc | apply pw_below_drewN | apply below_drew1) | exact HB.out)) hb); clear HB; have HB := n0_; clear n0_; (try clear hb); (try clear hb2); (try clear hk); (try clear hi)) | ((with_reducible refine gate_dst (N := 9) rfl ?_); refine Kd.R_lit k31 _ 31 ?hg (N := 9) ?hd (xs := ([(⟨4, 1⟩ : S31)] : List (S31))) (inner := [.int .i64 4, .int .i64 1]) (ok := fun _ => True) (okp := fun _ => True) ?hr ?hp (fun _ hk => hk) trivial (Below.refl _ _) (Nat.le_refl _) (by simp) ?_; (case hd => rfl); (case hg => rfl); (case hr => first | (go_simp; done) | (go_simp; rfl)); (case hp => exact (Reps.c2 (show Kd.M k31 _ _ _ (⟨4, 1⟩ : S31) [.int .i64 4, .int .i64 1] from (k31_mkM _ _ _ (⟨4, 1⟩ : S31) )) (Reps.none _ _))); intro v113 w33 ho34 hb hg_ hnew_; clear hg_ hnew_; (first | rw [← Ny112.out] at ho34 | (simp only [Int.reduceToNat] at ho34; rw [← Ny112.out] at ho34)); have n0_ := Aside0.mk (Kd.R_lower ho34 (below_size (by repeat (first | (with_reducible first | exact HB.out | apply below_alloc | apply pw_below_drewN | apply below_drew1) | exact HB.out)))); have n1_ := Aside0.mk (below_step (by repeat (first | (with_reducible first | exact HB.out | apply below_alloc | apply pw_below_drewN | apply below_drew1) | exact HB.out)) hb); clear HB; have HO114 := n0_; have HB := n1_; clear n0_ n1_; clear hb ho34; obtain ⟨Ao35, co35, eo35⟩ := Kd.R_slice HO114.out; subst eo35) | (go_at_call 11; (with_reducible refine (mark_Check.calls _ _ y112 t115 _ ?side1 ?side2 A4.out).mono ?_); (case side1 => repeat (first | exact (Kd.R_reads' HO114.out).2.2 | (with_reducible refine Kd.C_alloc ?_ _) | (with_reducible refine Kd.C_drewN ?_ _) | (with_reducible refine Kd.C_drew ?_))); (case side2 => exact (Kd.R_reads' HO114.out).2.1); rintro e w36 ⟨rfl, hb⟩; have n0_ := Aside0.mk (Kd.R_below (by (with_reducible repeat (first | apply Kd.R_alloc | apply Kd.R_drewN | apply Kd.R_drew)); exact HO114.out) hb); have n1_ := Aside0.mk (below_step (by repeat (first | (with_reducible first | exact HB.out | apply below_alloc | apply pw_below_drewN | apply below_drew1) | exact HB.out)) hb); clear HO114; clear HB; have HO114 := n0_; have HB := n1_; clear n0_ n1_; (try clear hb); (try clear hb2); (try clear hk); (try clear hi)))
        go_ret
        exact ⟨by first | rfl | (simp [errW_none, errW_some] <;> rfl) | (simp [*, errW_none, errW_some] <;> rfl), by repeat (first | (with_reducible first | exact HB.out | apply below_alloc | apply pw_below_drewN | apply below_drew1) | exact HB.out)⟩
    · rw [if_neg c3] at H
      have c3b0 : (t110 == 1000006) = false := beq_eq_false_iff_ne.mpr c3
      have c3b1 : (t110 != 1000006) = true := bne_iff_ne.mpr c3
      obtain rfl := Option.some.inj H
      go_enter Try.func6, Try.ntmps6
      go_wp2_with (first | ((with_reducible refine gate_callee (f := 19) rfl ?_); refine goesL_ (some 5) rfl rfl Try.func19 (by kernel_rfl) rfl #[.int .i64 1, .string (⟨#[]⟩ : ByteArray)] rfl (by (try simp only [List.map_toArray, List.map_cons, List.map_nil]); first | done | rfl | (simp only [List.length_drop, List.length_take]; rfl)) ?_; (with_reducible refine (mark_Sign.calls k 1 (⟨#[]⟩ : ByteArray) t110 t111 _ A1.out).mono ?_); rintro e w37 ⟨rfl, hb⟩; refine ⟨_, rfl, ?_⟩; have n0_ := Aside0.mk (below_step (by repeat (first | (with_reducible first | exact HB.out | apply below_alloc | apply pw_below_drewN | apply below_drew1) | exact HB.out)) hb); clear HB; have HB := n0_; clear n0_; (try clear hb); (try clear hb2); (try clear hk); (try clear hi)) | ((with_reducible refine gate_dst (N := 9) rfl ?_); refine Kd.R_lit k31 _ 31 ?hg (N := 9) ?hd (xs := ([(⟨4, 1⟩ : S31)] : List (S31))) (inner := [.int .i64 4, .int .i64 1]) (ok := fun _ => True) (okp := fun _ => True) ?hr ?hp (fun _ hk => hk) trivial (Below.refl _ _) (Nat.le_refl _) (by simp) ?_; (case hd => rfl); (case hg => rfl); (case hr => first | (go_simp; done) | (go_simp; rfl)); (case hp => exact (Reps.c2 (show Kd.M k31 _ _ _ (⟨4, 1⟩ : S31) [.int .i64 4, .int .i64 1] from (k31_mkM _ _ _ (⟨4, 1⟩ : S31) )) (Reps.none _ _))); intro v113 w38 ho39 hb hg_ hnew_; clear hg_ hnew_; (first | rw [← Ny112.out] at ho39 | (simp only [Int.reduceToNat] at ho39; rw [← Ny112.out] at ho39)); have n0_ := Aside0.mk (Kd.R_lower ho39 (below_size (by repeat (first | (with_reducible first | exact HB.out | apply below_alloc | apply pw_below_drewN | apply below_drew1) | exact HB.out)))); have n1_ := Aside0.mk (below_step (by repeat (first | (with_reducible first | exact HB.out | apply below_alloc | apply pw_below_drewN | apply below_drew1) | exact HB.out)) hb); clear HB; have HO114 := n0_; have HB := n1_; clear n0_ n1_; clear hb ho39))
      go_ret
      exact ⟨by first | rfl | (simp [errW_none, errW_some] <;> rfl) | (simp [*, errW_none, errW_some] <;> rfl), by repeat (first | (with_reducible first | exact HB.out | apply below_alloc | apply pw_below_drewN | apply below_drew1) | exact HB.out)⟩
  · rw [if_neg c2] at H
    have c2b0 : (t111 == 0) = false := beq_eq_false_iff_ne.mpr c2
    have c2b1 : (t111 != 0) = true := bne_iff_ne.mpr c2
    obtain rfl := Option.some.inj H
    go_enter Try.func6, Try.ntmps6
    go_wp2_with (first | ((with_reducible refine gate_callee (f := 19) rfl ?_); refine goesL_ (some 5) rfl rfl Try.func19 (by kernel_rfl) rfl #[.int .i64 1, .string (⟨#[]⟩ : ByteArray)] rfl (by (try simp only [List.map_toArray, List.map_cons, List.map_nil]); first | done | rfl | (simp only [List.length_drop, List.length_take]; rfl)) ?_; (with_reducible refine (mark_Sign.calls k 1 (⟨#[]⟩ : ByteArray) t110 t111 _ A1.out).mono ?_); rintro e w40 ⟨rfl, hb⟩; refine ⟨_, rfl, ?_⟩; have n0_ := Aside0.mk (below_step (by repeat (first | (with_reducible first | exact HB.out | apply below_alloc | apply pw_below_drewN | apply below_drew1) | exact HB.out)) hb); clear HB; have HB := n0_; clear n0_; (try clear hb); (try clear hb2); (try clear hk); (try clear hi)) | ((with_reducible refine gate_dst (N := 9) rfl ?_); refine Kd.R_lit k31 _ 31 ?hg (N := 9) ?hd (xs := ([(⟨4, 1⟩ : S31)] : List (S31))) (inner := [.int .i64 4, .int .i64 1]) (ok := fun _ => True) (okp := fun _ => True) ?hr ?hp (fun _ hk => hk) trivial (Below.refl _ _) (Nat.le_refl _) (by simp) ?_; (case hd => rfl); (case hg => rfl); (case hr => first | (go_simp; done) | (go_simp; rfl)); (case hp => exact (Reps.c2 (show Kd.M k31 _ _ _ (⟨4, 1⟩ : S31) [.int .i64 4, .int .i64 1] from (k31_mkM _ _ _ (⟨4, 1⟩ : S31) )) (Reps.none _ _))); intro v113 w41 ho42 hb hg_ hnew_; clear hg_ hnew_; (first | rw [← Ny112.out] at ho42 | (simp only [Int.reduceToNat] at ho42; rw [← Ny112.out] at ho42)); have n0_ := Aside0.mk (Kd.R_lower ho42 (below_size (by repeat (first | (with_reducible first | exact HB.out | apply below_alloc | apply pw_below_drewN | apply below_drew1) | exact HB.out)))); have n1_ := Aside0.mk (below_step (by repeat (first | (with_reducible first | exact HB.out | apply below_alloc | apply pw_below_drewN | apply below_drew1) | exact HB.out)) hb); clear HB; have HO114 := n0_; have HB := n1_; clear n0_ n1_; clear hb ho42))
    go_ret
    exact ⟨by first | rfl | (simp [errW_none, errW_some] <;> rfl) | (simp [*, errW_none, errW_some] <;> rfl), by repeat (first | (with_reducible first | exact HB.out | apply below_alloc | apply pw_below_drewN | apply below_drew1) | exact HB.out)⟩

end Go.Proofs.Ytcalkhlchjjalaa.Q

namespace Go.Proofs.Ytcalkhlchjjalaa.Q
open Go.RowKit Go.Proofs.YtcalkhlchjjalaaW.PrintWords Go.Proofs.YtcalkhlchjjalaaW.PrintLast Go.Proofs.YtcalkhlchjjalaaW.PrintMore Go.Proofs.Ytcalkhlchjjalaa.Gput
attribute [local go_sem] max2_int min2_int max_two min_two max_three min_three max_four min_four   -- for this text's walks alone
set_option linter.unusedVariables false
set_option linter.unusedSimpArgs false

/-! ### storagebartermake_Few: function 7 -/
def storagebartermake_Few.f (l0 : List Int) : Option (Bool) := some (decide ((l0.length : Int) ≤ 500))
set_option maxHeartbeats 8000000 in
set_option maxRecDepth 100000 in
theorem storagebartermake_Few.calls (A0 : Option Addr) (c0 : Nat) (l0 : List Int) (r : Bool) (w : World) (hr0 : Kd.C (Kd.int .i64) w A0 l0.length l0) (hc0 : l0.length ≤ c0) (h : storagebartermake_Few.f l0 = some r) :
    Calls Try.prog 7 #[.slice A0 l0.length c0] w fun e w' => e = .returned (.bool r) ∧ Drawn0 w w' := by
  have HR0 := Aside0.mk hr0
  have HC0 := Aside0.mk hc0
  clear hr0 hc0
  have H : (some (decide ((l0.length : Int) ≤ 500))) = some r := h
  clear h
  obtain rfl := Option.some.inj H
  go_enter Try.func7, Try.ntmps7
  go_wp2
  go_ret
  exact ⟨by first | rfl | (simp; done) | (simp [*]; done), by repeat (first | exact Drawn0.refl _ | apply Drawn0.step)⟩

end Go.Proofs.Ytcalkhlchjjalaa.Q

namespace Go.Proofs.Ytcalkhlchjjalaa.Q
open Go.RowKit Go.Proofs.YtcalkhlchjjalaaW.PrintWords Go.Proofs.YtcalkhlchjjalaaW.PrintLast Go.Proofs.YtcalkhlchjjalaaW.PrintMore Go.Proofs.Ytcalkhlchjjalaa.Gput
attribute [local go_sem] max2_int min2_int max_two min_two max_three min_three max_four min_four   -- for this text's walks alone
set_option linter.unusedVariables false
set_option linter.unusedSimpArgs false

/-- A state of type 47 at block g of W; what its slices lead to came in by w0. -/
def IsS47 (w0 W : World) (g : Nat) (f0 : List Int) (f1 : Int) : Prop := ∃ A0 c0, W.heap[g]? = some (.cells #[.slice A0 f0.length c0, .int .i64 f1] 47 (0, 0)) ∧ w0.heap.size ≤ g ∧ Kd.C (Kd.int .i64) w0 A0 f0.length f0
theorem IsS47.grown {w0 W : World} {g : Nat} {f0 : List Int} {f1 : Int} {W1 : World} {row : Option Nat} (h : IsS47 w0 W g f0 f1) (hw : W.grownBy W1 row) (hne : some g ≠ row) : IsS47 w0 W1 g f0 f1 := by
  obtain ⟨A0, c0, hb, hg, hr0⟩ := h
  exact ⟨A0, c0, blk_grown hb hw hne, hg, hr0⟩
theorem IsS47.own_neN {w0 W : World} {g : Nat} {f0 : List Int} {f1 : Int} {α : Type} {d : Kd α} {e : Nat} {base : Nat} {ok : Nat → Prop} {v : Value} {xs : List α} (h : IsS47 w0 W g f0 f1) (ho : Kd.N d e W base ok v xs) (ht : e ≠ 47) : some g ≠ v.ownBlock := by
  obtain ⟨A0, c0, hb, hg, hr0⟩ := h
  exact Kd.N_ne ho hb ht
theorem IsS47.fresh {w0 W : World} {g : Nat} {f0 : List Int} {f1 : Int} (h : IsS47 w0 W g f0 f1) : ∀ k, W.heap.size ≤ k → k ≠ g := by
  obtain ⟨A0, c0, hb, hg, hr0⟩ := h
  exact Kd.freshB hb
theorem IsS47.kept {w0 W : World} {g : Nat} {f0 : List Int} {f1 : Int} {W1 : World} {S : Nat → Prop} (h : IsS47 w0 W g f0 f1) (hk : Kept W W1 S) (hne : ¬ S g) : IsS47 w0 W1 g f0 f1 := by
  obtain ⟨A0, c0, hb, hg, hr0⟩ := h
  exact ⟨A0, c0, blk_kept hb hk hne, hg, hr0⟩
theorem IsS47.below {w0 W : World} {g : Nat} {f0 : List Int} {f1 : Int} {W1 : World} (h : IsS47 w0 W g f0 f1) (hw : Below W.heap.size W W1) : IsS47 w0 W1 g f0 f1 := h.grown (grown_of_below hw none) (by simp)
theorem IsS47.alloc {w0 W : World} {g : Nat} {f0 : List Int} {f1 : Int} (h : IsS47 w0 W g f0 f1) (o : Obj) : IsS47 w0 (W.alloc o) g f0 f1 := h.below (below_alloc (Below.refl _ _) o)
theorem IsS47.drewN {w0 W : World} {g : Nat} {f0 : List Int} {f1 : Int} (h : IsS47 w0 W g f0 f1) (m : Nat) : IsS47 w0 (W.drewN m) g f0 f1 := h
theorem IsS47.drew {w0 W : World} {g : Nat} {f0 : List Int} {f1 : Int} (h : IsS47 w0 W g f0 f1) : IsS47 w0 W.drew g f0 f1 := h
theorem IsS47.at_ {w0 W : World} {g : Nat} {f0 : List Int} {f1 : Int} {w' : World} {m : Nat} (hq : W.drewN m = w') (h : IsS47 w0 W g f0 f1) : IsS47 w0 w' g f0 f1 := by subst hq; exact IsS47.drewN h m
theorem IsS47.apart {w0 W : World} {g : Nat} {f0 : List Int} {f1 : Int} {α : Type} {d : Kd α} {e : Nat} {base : Nat} {ok : Nat → Prop} {v : Value} {xs : List α} (h : IsS47 w0 W g f0 f1) (ho : d.R e W base ok v xs) (ht : ∀ q, q ∈ e :: d.E → q ≠ 47) : d.R e W base (fun k => ok k ∧ k ≠ g) v xs := by
  obtain ⟨A0, c0, hb, hg, hr0⟩ := h
  exact Kd.R_types ho hb ht
theorem IsS47.own_ne {w0 W : World} {g : Nat} {f0 : List Int} {f1 : Int} {α : Type} {d : Kd α} {e : Nat} {base : Nat} {ok : Nat → Prop} {v : Value} {xs : List α} (h : IsS47 w0 W g f0 f1) (ho : d.R e W base ok v xs) (ht : e ≠ 47) : some g ≠ v.ownBlock := by
  obtain ⟨A0, c0, hb, hg, hr0⟩ := h
  exact Kd.R_ne ho hb ht
theorem IsS47.apartQ {w0 W : World} {g : Nat} {f0 : List Int} {f1 : Int} {α : Type} {d : Kd α} {e : Nat} {base : Nat} {ok : Nat → Prop} {v : Value} {xs : List α} (h : IsS47 w0 W g f0 f1) (ho : d.Q e W base ok v xs) (ht : ∀ q, q ∈ e :: d.E → q ≠ 47) : d.Q e W base (fun k => ok k ∧ k ≠ g) v xs := by
  obtain ⟨A0, c0, hb, hg, hr0⟩ := h
  exact Kd.Q_types ho hb ht
theorem IsS47.own_neQ {w0 W : World} {g : Nat} {f0 : List Int} {f1 : Int} {α : Type} {d : Kd α} {e : Nat} {base : Nat} {ok : Nat → Prop} {v : Value} {xs : List α} (h : IsS47 w0 W g f0 f1) (ho : d.Q e W base ok v xs) (ht : e ≠ 47) : some g ≠ v.ownBlock := by
  obtain ⟨A0, c0, hb, hg, hr0⟩ := h
  exact Kd.Q_ne ho hb ht
theorem IsS47.apartS {w0 W : World} {g : Nat} {f0 : List Int} {f1 : Int} {α : Type} {d : Kd α} {e : Nat} {base : Nat} {ok : Nat → Prop} {v : Value} {xs : List α} (h : IsS47 w0 W g f0 f1) (ho : d.S e W base ok v xs) (ht : ∀ q, q ∈ e :: d.E → q ≠ 47) : d.S e W base (fun k => ok k ∧ k ≠ g) v xs := by
  obtain ⟨A0, c0, hb, hg, hr0⟩ := h
  exact Kd.S_types ho hb ht
theorem IsS47.own_neS {w0 W : World} {g : Nat} {f0 : List Int} {f1 : Int} {α : Type} {d : Kd α} {e : Nat} {base : Nat} {ok : Nat → Prop} {v : Value} {xs : List α} (h : IsS47 w0 W g f0 f1) (ho : d.S e W base ok v xs) (ht : e ≠ 47) : some g ≠ v.ownBlock := by
  obtain ⟨A0, c0, hb, hg, hr0⟩ := h
  exact Kd.S_ne ho hb ht
theorem IsS47.lt {w0 W : World} {g : Nat} {f0 : List Int} {f1 : Int} (h : IsS47 w0 W g f0 f1) : g < W.heap.size := by
  obtain ⟨A0, c0, hb, hg, hr0⟩ := h
  exact blk_lt hb
theorem IsS47.ge {w0 W : World} {g : Nat} {f0 : List Int} {f1 : Int} (h : IsS47 w0 W g f0 f1) : w0.heap.size ≤ g := by
  obtain ⟨A0, c0, hb, hg, hr0⟩ := h
  exact hg
theorem IsS47.ne_blk {w0 W : World} {g : Nat} {f0 : List Int} {f1 : Int} {a : Nat} {cs : Array Value} {t : TypeId} {fr : Nat × Nat} (h : IsS47 w0 W g f0 f1) (hb2 : W.heap[a]? = some (.cells cs t fr)) (ht : t ≠ 47) : g ≠ a := by
  obtain ⟨A0, c0, hb, hg, hr0⟩ := h
  rintro rfl
  rw [hb] at hb2
  injection hb2 with hb2
  injection hb2 with _ ht2
  exact ht ht2.symm
theorem IsS47.far {w0 W : World} {g : Nat} {f0 : List Int} {f1 : Int} {p : Addr} (h : IsS47 w0 W g f0 f1) (hne : g ≠ p.block) (u : Value) : IsS47 w0 (W.setCell p u) g f0 f1 := by
  obtain ⟨A0, c0, hb, hg, hr0⟩ := h
  exact ⟨A0, c0, blk_far hb hne u, hg, hr0⟩
theorem cellS47_0 {W : World} {g : Nat} {A0 : Option Addr} {c0 : Nat} {f0 : List Int} {f1 : Int} (h : W.heap[g]? = some (.cells #[.slice A0 f0.length c0, .int .i64 f1] 47 (0, 0))) : W.cell? ⟨g, 0, none⟩ = some (.slice A0 f0.length c0) := (blk_cell h 0).trans rfl
theorem cellS47_1 {W : World} {g : Nat} {A0 : Option Addr} {c0 : Nat} {f0 : List Int} {f1 : Int} (h : W.heap[g]? = some (.cells #[.slice A0 f0.length c0, .int .i64 f1] 47 (0, 0))) : W.cell? ⟨g, 1, none⟩ = some (.int .i64 f1) := (blk_cell h 1).trans rfl
theorem IsS47.set_1 {w0 W : World} {g : Nat} {f0 : List Int} {f1 : Int} (h : IsS47 w0 W g f0 f1) (x : Int) : IsS47 w0 (W.setCell ⟨g, 1, none⟩ (.int .i64 x)) g f0 x := by
  obtain ⟨A0, c0, hb, hg, hr0⟩ := h
  exact ⟨A0, c0, by simpa using blk_set hb 1 (.int .i64 x), hg, hr0⟩
theorem IsS47.new (w0 W : World) (A0 : Option Addr) (c0 : Nat) (f0 : List Int) (f1 : Int) (hB : Below w0.heap.size w0 W) (hr0 : Kd.C (Kd.int .i64) w0 A0 f0.length f0) : IsS47 w0 (W.alloc (.cells #[.slice A0 f0.length c0, .int .i64 f1] 47)) W.heap.size f0 f1 := ⟨A0, c0, by simpa using heap_alloc_new W _, hB.size, hr0⟩

/-! ### storagebartermake_New: function 8 -/
def storagebartermake_New.f (l0 : List Int) : Option (List Int × Int) := some (l0, 0)
set_option maxHeartbeats 8000000 in
set_option maxRecDepth 100000 in
theorem storagebartermake_New.calls (A0 : Option Addr) (c0 : Nat) (l0 : List Int) (r1 : List Int) (r2 : Int) (w0 w : World) (hB : Below w0.heap.size w0 w) (hr0 : Kd.C (Kd.int .i64) w0 A0 l0.length l0) (hc0 : l0.length ≤ c0) (h : storagebartermake_New.f l0 = some (r1, r2)) :
    Calls Try.prog 8 #[.slice A0 l0.length c0] w fun e w' => ∃ g_ : Nat, e = .returned (.pointer (some ⟨g_, 0, none⟩)) ∧ IsS47 w0 w' g_ r1 r2 ∧ Below w0.heap.size w0 w' ∧ Below w.heap.size w w' := by
  have hu47 := Try.underlying47
  have HR0 := Aside0.mk hr0
  have HC0 := Aside0.mk hc0
  clear hr0 hc0
  have HBW := Aside0.mk (Below.refl w.heap.size w)
  have HW0 := Aside0.mk hB.size
  have HB := Aside0.mk hB
  clear hB
  have H : (some (l0, 0)) = some (r1, r2) := h
  clear h
  simp only [Option.some.injEq, Prod.mk.injEq] at H
  obtain ⟨rfl, rfl⟩ := H
  go_enter Try.func8, Try.ntmps8
  go_wp2_with (first | ((with_reducible refine gate_dst (N := 5) rfl ?_); refine box_event ?hg (N := 5) ?hd (cs := #[.slice A0 l0.length c0, .int .i64 0]) (t := 47) ?hr ?_; (case hd => rfl); (case hg => rfl); (case hr => first | (go_simp; done) | (go_simp; rfl)); intro gb119 hg w2 hbox hb; have n0_ := Aside0.mk (below_step HBW.out hb); have n1_ := Aside0.mk (below_step (by repeat (first | (with_reducible first | exact HB.out | apply below_alloc | apply pw_below_drewN | apply below_drew1) | exact HB.out)) hb); have n2_ := Aside0.mk (hbox); have n3_ := Aside0.mk ((by rw [hg]; exact (below_size (by repeat (first | (with_reducible first | exact HBW.out | apply below_alloc | apply pw_below_drewN | apply below_drew1) | exact HBW.out))) : w.heap.size ≤ gb119)); have n4_ := Aside0.mk ((Nat.le_trans HW0.out (by rw [hg]; exact (below_size (by repeat (first | (with_reducible first | exact HBW.out | apply below_alloc | apply pw_below_drewN | apply below_drew1) | exact HBW.out))) : w.heap.size ≤ gb119) : w0.heap.size ≤ gb119)); clear HBW; clear HB; have HBW := n0_; have HB := n1_; have BK119 := n2_; have GW119 := n3_; have GE119 := n4_; clear n0_ n1_ n2_ n3_ n4_; clear hb hbox hg))
  go_ret
  exact ⟨_, rfl, (show IsS47 w0 _ gb119 l0 0 from ⟨_, _, by (with_reducible repeat (first | refine blk_drewN ?_ _ | refine blk_drew ?_ | refine blk_alloc ?_ _)); exact BK119.out, GE119.out, HR0.out⟩), by repeat (first | (with_reducible first | exact HB.out | apply below_alloc | apply pw_below_drewN | apply below_drew1 | refine below_set ?_ GE119.out) | exact HB.out), by repeat (first | (with_reducible first | exact HBW.out | apply below_alloc | apply pw_below_drewN | apply below_drew1 | refine below_set ?_ GW119.out) | exact HBW.out)⟩

end Go.Proofs.Ytcalkhlchjjalaa.Q

namespace Go.Proofs.Ytcalkhlchjjalaa.Q
open Go.RowKit Go.Proofs.YtcalkhlchjjalaaW.PrintWords Go.Proofs.YtcalkhlchjjalaaW.PrintLast Go.Proofs.YtcalkhlchjjalaaW.PrintMore Go.Proofs.Ytcalkhlchjjalaa.Gput
attribute [local go_sem] max2_int min2_int max_two min_two max_three min_three max_four min_four   -- for this text's walks alone
set_option linter.unusedVariables false
set_option linter.unusedSimpArgs false

/-! ### storagebartermake_Mod: function 13 -/
def storagebartermake_Mod.f (a0 : Int) (a1 : Int) : Option (Int) := if a1 = 0 then (none) else (some (Int.tmod (wrap64 ((Int.tmod a0 a1) + a1)) a1))
set_option maxHeartbeats 8000000 in
set_option maxRecDepth 100000 in
theorem storagebartermake_Mod.calls (a0 : Int) (a1 : Int) (r : Int) (w : World) (h : storagebartermake_Mod.f a0 a1 = some r) :
    Calls Try.prog 13 #[.int .i64 a0, .int .i64 a1] w fun e w' => e = .returned (.int .i64 r) ∧ Drawn0 w w' := by
  have H : (if a1 = 0 then (none) else (some (Int.tmod (wrap64 ((Int.tmod a0 a1) + a1)) a1))) = some r := h
  clear h
  by_cases c3 : a1 = 0
  · rw [if_pos c3] at H
    exact absurd H (by simp)
  · rw [if_neg c3] at H
    have c3b0 : (a1 == 0) = false := beq_eq_false_iff_ne.mpr c3
    have c3b1 : (a1 != 0) = true := bne_iff_ne.mpr c3
    obtain rfl := Option.some.inj H
    go_enter Try.func13, Try.ntmps13
    go_wp2
    go_ret
    exact ⟨by first | rfl | (simp; done) | (simp [*]; done), by repeat (first | exact Drawn0.refl _ | apply Drawn0.step)⟩

end Go.Proofs.Ytcalkhlchjjalaa.Q

namespace Go.Proofs.Ytcalkhlchjjalaa.Q
open Go.RowKit Go.Proofs.YtcalkhlchjjalaaW.PrintWords Go.Proofs.YtcalkhlchjjalaaW.PrintLast Go.Proofs.YtcalkhlchjjalaaW.PrintMore Go.Proofs.Ytcalkhlchjjalaa.Gput
attribute [local go_sem] max2_int min2_int max_two min_two max_three min_three max_four min_four   -- for this text's walks alone
set_option linter.unusedVariables false
set_option linter.unusedSimpArgs false

/-! ### storagebartermake_Deck_Next: function 10 -/
def storagebartermake_Deck_Next.f (s0_0 : List Int) (s0_1 : Int) (a1 : Int) : Option (Int × Int) := if a1 < 1 then (some (0, s0_1)) else (if s0_1 ≥ (s0_0.length : Int) then (some (0, s0_1)) else (if 0 ≤ s0_1 then (if s0_1 < (s0_0.length : Int) then ((storagebartermake_Mod.f (rd s0_0 s0_1) a1).bind fun t121 => (some (t121, wrap64 (s0_1 + 1)))) else (none)) else (none)))
set_option maxHeartbeats 8000000 in
set_option maxRecDepth 100000 in
theorem storagebartermake_Deck_Next.calls (g : Nat) (s0_0 : List Int) (s0_1 : Int) (a1 : Int) (r1 : Int) (r2 : Int) (w0 w : World) (hI : IsS47 w0 w g s0_0 s0_1) (hB : Below w0.heap.size w0 w) (h : storagebartermake_Deck_Next.f s0_0 s0_1 a1 = some (r1, r2)) :
    Calls Try.prog 10 #[.pointer (some ⟨g, 0, none⟩), .int .i64 a1] w fun e w' => e = .returned (.int .i64 r1) ∧ IsS47 w0 w' g s0_0 r2 ∧ Below w0.heap.size w0 w' ∧ KeepBut w w' g none := by
  have HI0 := Aside0.mk hI
  have HK := Aside0.mk (KeepBut.refl w g none)
  have HL := Aside0.mk hB.size
  clear hI
  have HW0 := Aside0.mk hB.size
  have HB := Aside0.mk hB
  clear hB
  have H : (if a1 < 1 then (some (0, s0_1)) else (if s0_1 ≥ (s0_0.length : Int) then (some (0, s0_1)) else (if 0 ≤ s0_1 then (if s0_1 < (s0_0.length : Int) then ((storagebartermake_Mod.f (rd s0_0 s0_1) a1).bind fun t121 => (some (t121, wrap64 (s0_1 + 1)))) else (none)) else (none)))) = some (r1, r2) := h
  clear h
  by_cases c3 : a1 < 1
  · rw [if_pos c3] at H
    have c3b0 : decide (a1 < 1) = true := decide_eq_true c3
    clear c3
    simp only [Option.some.injEq, Prod.mk.injEq] at H
    obtain ⟨rfl, rfl⟩ := H
    go_enter Try.func10, Try.ntmps10
    go_wp2
    repeat (go_quiet (fail); try go_wp2)
    go_ret
    exact ⟨by first | rfl | (simp [errW_none, errW_some] <;> rfl) | (simp [*, errW_none, errW_some] <;> rfl), by repeat (first | (with_reducible first | exact HI0.out | apply IsS47.alloc | apply IsS47.drewN | apply IsS47.drew | apply IsS47.set_1) | exact HI0.out), by repeat (first | (with_reducible first | exact HB.out | apply below_alloc | apply pw_below_drewN | apply below_drew1 | refine below_set ?_ (IsS47.ge HI0.out)) | exact HB.out), by repeat (first | (with_reducible first | exact HK.out | apply KeepBut.set_ | apply keep_drewN | apply keep_drew | apply keep_alloc) | exact HK.out)⟩
  · rw [if_neg c3] at H
    have c3b0 : decide (a1 < 1) = false := decide_eq_false c3
    clear c3
    by_cases c4 : s0_1 ≥ (s0_0.length : Int)
    · rw [if_pos c4] at H
      have c4b0 : decide ((s0_0.length : Int) ≤ s0_1) = true := decide_eq_true c4
      clear c4
      simp only [Option.some.injEq, Prod.mk.injEq] at H
      obtain ⟨rfl, rfl⟩ := H
      obtain ⟨ASz5_0, cSz5_0, HGz5, hgz5, HSz5_0⟩ := HI0.out
      have hcz5_0 := cellS47_0 HGz5
      have hcz5_1 := cellS47_1 HGz5
      have hfz5_1 := blk_frozen HGz5 1
      clear HGz5 hgz5
      go_enter Try.func10, Try.ntmps10
      go_wp2
      repeat (go_quiet (fail); try go_wp2)
      go_ret
      exact ⟨by first | rfl | (simp [errW_none, errW_some] <;> rfl) | (simp [*, errW_none, errW_some] <;> rfl), by repeat (first | (with_reducible first | exact HI0.out | apply IsS47.alloc | apply IsS47.drewN | apply IsS47.drew | apply IsS47.set_1) | exact HI0.out), by repeat (first | (with_reducible first | exact HB.out | apply below_alloc | apply pw_below_drewN | apply below_drew1 | refine below_set ?_ (IsS47.ge HI0.out)) | exact HB.out), by repeat (first | (with_reducible first | exact HK.out | apply KeepBut.set_ | apply keep_drewN | apply keep_drew | apply keep_alloc) | exact HK.out)⟩
    · rw [if_neg c4] at H
      have c4b0 : decide ((s0_0.length : Int) ≤ s0_1) = false := decide_eq_false c4
      clear c4
      by_cases c6 : 0 ≤ s0_1
      · rw [if_pos c6] at H
        have c6b0 : decide (0 ≤ s0_1) = true := decide_eq_true c6
        clear c6
        by_cases c7 : s0_1 < (s0_0.length : Int)
        · rw [if_pos c7] at H
          have c7b0 : decide (s0_1 < (s0_0.length : Int)) = true := decide_eq_true c7
          clear c7
          replace H := Option.bind_eq_some_iff.mp H
          obtain ⟨t121, A80, H⟩ := H
          replace H : (some (t121, wrap64 (s0_1 + 1))) = some (r1, r2) := H
          have A8 := Aside0.mk A80
          clear A80
          simp only [Option.some.injEq, Prod.mk.injEq] at H
          obtain ⟨rfl, rfl⟩ := H
          obtain ⟨ASz9_0, cSz9_0, HGz9, hgz9, HSz9_0⟩ := HI0.out
          have hcz9_0 := cellS47_0 HGz9
          have hcz9_1 := cellS47_1 HGz9
          have hfz9_1 := blk_frozen HGz9 1
          clear HGz9 hgz9
          have p120 : 0 ≤ (s0_1 : Int) := of_decide_eq_true (by first | (with_reducible assumption) | assumption)
          have q120 : s0_1 < (s0_0.length : Int) := of_decide_eq_true (by first | (with_reducible assumption) | assumption)
          obtain ⟨ad120, e120, hx120_0⟩ := Kd.at_int HSz9_0 s0_1 p120 q120
          cases e120
          replace hx120_0 := pw_cell_below HB.out hx120_0
          replace p120 := eq_true p120
          replace q120 := eq_true q120
          go_enter Try.func10, Try.ntmps10
          go_wp2_with (first | (go_at_call 13; (with_reducible refine (storagebartermake_Mod.calls (rd s0_0 s0_1) a1 t121 _ A8.out).mono ?_); rintro e w' ⟨rfl, ⟨nd, rfl⟩⟩; (try first | exact ⟨rfl, _, World.drewN_drewN _ _ _⟩ | exact ⟨rfl, _, Eq.trans (World.drewN_drewN _ _ _) (congrArg (World.drewN _) (Nat.add_assoc _ _ _))⟩)))
          repeat (go_quiet (first | (go_at_call 13; (with_reducible refine (storagebartermake_Mod.calls (rd s0_0 s0_1) a1 t121 _ A8.out).mono ?_); rintro e w' ⟨rfl, ⟨nd, rfl⟩⟩; (try first | exact ⟨rfl, _, World.drewN_drewN _ _ _⟩ | exact ⟨rfl, _, Eq.trans (World.drewN_drewN _ _ _) (congrArg (World.drewN _) (Nat.add_assoc _ _ _))⟩))); try go_wp2_with (first | (go_at_call 13; (with_reducible refine (storagebartermake_Mod.calls (rd s0_0 s0_1) a1 t121 _ A8.out).mono ?_); rintro e w' ⟨rfl, ⟨nd, rfl⟩⟩; (try first | exact ⟨rfl, _, World.drewN_drewN _ _ _⟩ | exact ⟨rfl, _, Eq.trans (World.drewN_drewN _ _ _) (congrArg (World.drewN _) (Nat.add_assoc _ _ _))⟩))))
          go_ret
          exact ⟨by first | rfl | (simp [errW_none, errW_some] <;> rfl) | (simp [*, errW_none, errW_some] <;> rfl), by repeat (first | (with_reducible first | exact HI0.out | apply IsS47.alloc | apply IsS47.drewN | apply IsS47.drew | apply IsS47.set_1) | exact HI0.out), by repeat (first | (with_reducible first | exact HB.out | apply below_alloc | apply pw_below_drewN | apply below_drew1 | refine below_set ?_ (IsS47.ge HI0.out)) | exact HB.out), by repeat (first | (with_reducible first | exact HK.out | apply KeepBut.set_ | apply keep_drewN | apply keep_drew | apply keep_alloc) | exact HK.out)⟩
        · rw [if_neg c7] at H
          exact absurd H (by simp)
      · rw [if_neg c6] at H
        exact absurd H (by simp)

end Go.Proofs.Ytcalkhlchjjalaa.Q

namespace Go.Proofs.Ytcalkhlchjjalaa.Q
open Go.RowKit Go.Proofs.YtcalkhlchjjalaaW.PrintWords Go.Proofs.YtcalkhlchjjalaaW.PrintLast Go.Proofs.YtcalkhlchjjalaaW.PrintMore Go.Proofs.Ytcalkhlchjjalaa.Gput
attribute [local go_sem] max2_int min2_int max_two min_two max_three min_three max_four min_four   -- for this text's walks alone
set_option linter.unusedVariables false
set_option linter.unusedSimpArgs false

/-! ### storagebartermake_People: function 9 -/
def storagebartermake_People.l0 : Nat → Int → List (S31) → Int → Int → List Int → Int → Option ((List (S31)) × Int)
  | 0, _, _, _, _, _, _ => none
  | k + 1, x1, x5, x6, x7, x1000, x1001 => if x7 ≤ x1 then ((storagebartermake_Deck_Next.f x1000 x1001 50).bind fun bt122 => (if x5.length < 8796093022208 then (storagebartermake_People.l0 k x1 (x5 ++ [(⟨x7, wrap64 (x6 + (wrap64 (1 + bt122.1)))⟩ : S31)]) (wrap64 (x6 + (wrap64 (1 + bt122.1)))) (wrap64 (x7 + 1)) x1000 bt122.2) else (none))) else (some (x5, x1001))
def storagebartermake_People.f (k : Nat) (s0_0 : List Int) (s0_1 : Int) (a1 : Int) : Option ((List (S31)) × Int) := storagebartermake_People.l0 k a1 ([] : List (S31)) 0 1 s0_0 s0_1
theorem storagebartermake_People.mono_l : ∀ k, (∀ y0 y1 y2 y3 y4 y5, LeO (storagebartermake_People.l0 k y0 y1 y2 y3 y4 y5) (storagebartermake_People.l0 (k + 1) y0 y1 y2 y3 y4 y5))
  | 0 => fun _ _ _ _ _ _ r h => by simp [storagebartermake_People.l0] at h
  | k + 1 => by
    have ih0 := storagebartermake_People.mono_l k
    · intro y0 y1 y2 y3 y4 y5
      unfold storagebartermake_People.l0
      repeat' first
      | (with_reducible exact ih0 _ _ _ _ _ _)
      | (with_reducible exact LeO.refl _)
      | (with_reducible exact LeO.none _)
      | (with_reducible refine LeO.ite ?_ ?_)
      | (with_reducible refine LeO.bind ?_ (fun _ => ?_))
      | exact ih0 _ _ _ _ _ _
      | exact LeO.none _
      | refine LeO.ite ?_ ?_
      | refine LeO.bind ?_ (fun _ => ?_)
theorem storagebartermake_People.mono : ∀ a0 a1 a2 k, LeO (storagebartermake_People.f k a0 a1 a2) (storagebartermake_People.f (k + 1) a0 a1 a2) := by
  intro a0 a1 a2 k
  have ih0 := storagebartermake_People.mono_l k
  unfold storagebartermake_People.f
  repeat' first
      | (with_reducible exact ih0 _ _ _ _ _ _)
      | (with_reducible exact LeO.refl _)
      | (with_reducible exact LeO.none _)
      | (with_reducible refine LeO.ite ?_ ?_)
      | (with_reducible refine LeO.bind ?_ (fun _ => ?_))
      | exact ih0 _ _ _ _ _ _
      | exact LeO.none _
      | refine LeO.ite ?_ ?_
      | refine LeO.bind ?_ (fun _ => ?_)
set_option maxHeartbeats 8000000 in
set_option maxRecDepth 100000 in
theorem storagebartermake_People.calls (k : Nat) (g : Nat) (s0_0 : List Int) (s0_1 : Int) (a1 : Int) (r1 : List (S31)) (r2 : Int) (w0 w : World) (hI : IsS47 w0 w g s0_0 s0_1) (hB : Below w0.heap.size w0 w) (h : storagebartermake_People.f k s0_0 s0_1 a1 = some (r1, r2)) :
    Calls Try.prog 9 #[.pointer (some ⟨g, 0, none⟩), .int .i64 a1] w fun e w' => ∃ v0_ : Value, e = .returned (v0_) ∧ Kd.R k31 31 w' w.heap.size (fun _ => True) v0_ r1 ∧ IsS47 w0 w' g s0_0 r2 ∧ Below w0.heap.size w0 w' ∧ KeepBut w w' g none := by
  have hu31 := Try.underlying31
  have HI0 := Aside0.mk hI
  have HK := Aside0.mk (KeepBut.refl w g none)
  have HL := Aside0.mk hB.size
  clear hI
  have HW0 := Aside0.mk hB.size
  have HB := Aside0.mk hB
  clear hB
  have H : (storagebartermake_People.l0 k a1 ([] : List (S31)) 0 1 s0_0 s0_1) = some (r1, r2) := h
  clear h
  have H' := Aside0.mk H
  clear H
  go_enter Try.func9, Try.ntmps9
  go_wp2
  go_loopg [5, 6, 7] k (fun kq v5 v6 v7 w' => ∃ (x5_1 : List (S31)) (x6_1 : Int) (x7_1 : Int) (x1001_1 : Int), v6 = .int .i64 x6_1 ∧ v7 = .int .i64 x7_1 ∧ Aside0 (storagebartermake_People.l0 kq a1 x5_1 x6_1 x7_1 s0_0 x1001_1 = some (r1, r2)) ∧ Aside0 (kq ≤ k) ∧ Aside0 (Kd.R k31 31 w' w.heap.size (fun _ => True) v5 x5_1) ∧ Aside0 (IsS47 w0 w' g s0_0 x1001_1) ∧ Aside0 (KeepBut w w' g none) ∧ Aside0 (Below w0.heap.size w0 w'))
  case atStart => exact ⟨(([] : List (S31))), (0), (1), (s0_1), (by first | rfl | (simp; done) | (simp [*]; done)), (by first | rfl | (simp; done) | (simp [*]; done)), H', ⟨Nat.le_refl _⟩, ⟨by first | exact Kd.R_nil _ _ _ _ _ | exact Kd.N_nil _ _ _ _ _ | exact Kd.V_nil _ _ _ _ _ | exact Kd.Q_nil _ _ _ _ _ | exact Kd.S_nil _ _ _ _ _⟩, ⟨by repeat (first | (with_reducible first | exact HI0.out | apply IsS47.alloc | apply IsS47.drewN | apply IsS47.drew | apply IsS47.set_1) | exact HI0.out)⟩, ⟨by repeat (first | (with_reducible first | exact HK.out | apply KeepBut.set_ | apply keep_drewN | apply keep_drew | apply keep_alloc) | exact HK.out)⟩, ⟨by repeat (first | (with_reducible first | exact HB.out | apply below_alloc | apply pw_below_drewN | apply below_drew1 | refine below_set ?_ (IsS47.ge HI0.out)) | exact HB.out)⟩⟩
  case round =>
    clear H'
    try clear p2
    obtain ⟨x5_1, x6_1, x7_1, x1001_1, rfl, rfl, HA, HK1, HO_5, HI0, HK, HB⟩ := hrel
    cases gk with
    | zero => exact absurd HA.out (by simp [storagebartermake_People.l0])
    | succ k1 =>
      have H := HA.out
      clear HA
      simp only [storagebartermake_People.l0] at H
      by_cases c3 : x7_1 ≤ a1
      · rw [if_pos c3] at H
        have c3b0 : decide (x7_1 ≤ a1) = true := decide_eq_true c3
        clear c3
        replace H := Option.bind_eq_some_iff.mp H
        obtain ⟨⟨t122, t123⟩, A40, H⟩ := H
        replace H : (if x5_1.length < 8796093022208 then (storagebartermake_People.l0 k1 a1 (x5_1 ++ [(⟨x7_1, wrap64 (x6_1 + (wrap64 (1 + t122)))⟩ : S31)]) (wrap64 (x6_1 + (wrap64 (1 + t122)))) (wrap64 (x7_1 + 1)) s0_0 t123) else (none)) = some (r1, r2) := H
        have A4 := Aside0.mk A40
        clear A40
        by_cases c5 : x5_1.length < 8796093022208
        · rw [if_pos c5] at H
          have LMc5 := Aside0.mk c5
          clear c5
          obtain ⟨y124, hy124⟩ : ∃ y_ : List (S31), y_ = (x5_1 ++ [(⟨x7_1, wrap64 (x6_1 + (wrap64 (1 + t122)))⟩ : S31)]) := ⟨_, rfl⟩
          replace H : (storagebartermake_People.l0 k1 a1 y124 (wrap64 (x6_1 + (wrap64 (1 + t122)))) (wrap64 (x7_1 + 1)) s0_0 t123) = some (r1, r2) := by first | (rw [hy124]; with_reducible exact H) | (have H2_ := (Option.bind_some _ _).symm.trans H; rw [hy124]; with_reducible exact H2_) | (have H2_ := (Option.bind_some _ _).symm.trans H; with_reducible exact H2_) | with_reducible exact H | (rw [hy124]; exact H) | exact H
          have Ny124 := Aside0.mk hy124
          clear hy124
          have H' := Aside0.mk H
          clear H
          go_wp2_with (first | ((with_reducible refine gate_callee (f := 10) rfl ?_); refine goesL_ (some 15) rfl rfl Try.func10 (by kernel_rfl) rfl #[.pointer (some ⟨g, 0, none⟩), .int .i64 50] rfl (by (try simp only [List.map_toArray, List.map_cons, List.map_nil]); first | done | rfl | (simp only [List.length_drop, List.length_take]; rfl)) ?_; (with_reducible refine (storagebartermake_Deck_Next.calls g s0_0 x1001_1 50 t122 t123 w0 _ ?side1 ?side2 A4.out).mono ?_); (case side1 => repeat (first | (with_reducible first | exact HI0.out | apply IsS47.alloc | apply IsS47.drewN | apply IsS47.drew | apply IsS47.set_1) | exact HI0.out)); (case side2 => repeat (first | (with_reducible first | exact HB.out | apply below_alloc | apply pw_below_drewN | apply below_drew1 | refine below_set ?_ (IsS47.ge HI0.out)) | exact HB.out)); rintro e w6 ⟨rfl, hi, hb, hk⟩; refine ⟨_, rfl, ?_⟩; have n0_ := Aside0.mk (Kd.R_mono (Kd.R_keep (IsS47.apart (show IsS47 w0 _ g s0_0 x1001_1 from by repeat (first | (with_reducible first | exact HI0.out | apply IsS47.alloc | apply IsS47.drewN | apply IsS47.drew | apply IsS47.set_1) | exact HI0.out)) (by (with_reducible repeat (first | apply Kd.R_alloc | apply Kd.R_drewN | apply Kd.R_drew)); exact HO_5.out) (by decide)) hk (fun _ h => h.2)) (fun _ h => h.1)); have n1_ := Aside0.mk (KeepBut.trans (by repeat (first | (with_reducible first | exact HK.out | apply KeepBut.set_ | apply keep_drewN | apply keep_drew | apply keep_alloc) | exact HK.out)) hk (.inl rfl)); have n2_ := Aside0.mk (hb); have n3_ := Aside0.mk (hi); clear HO_5; clear HK; clear HB; clear HI0; have HO_5 := n0_; have HK := n1_; have HB := n2_; have HI0 := n3_; clear n0_ n1_ n2_ n3_; (try clear hb); (try clear hb2); (try clear hk); (try clear hi)) | ((with_reducible refine gate_builtin (b := .append) (xs := #[.tmp 18, .tmp 22]) rfl ?_); at_builtin; refine Kd.R_append k31 w.heap.size rfl (.tmp 18) (.tmp 22) 23 31 (.agg #[(.int .i64 0), (.int .i64 0)]) 16 rfl Try.underlying23 info31 rfl (by decide) (by omega) u5 x5_1 (⟨x7_1, wrap64 (x6_1 + (wrap64 (1 + t122)))⟩ : S31) [.int .i64 x7_1, .int .i64 (wrap64 (x6_1 + (wrap64 (1 + t122))))] (fun _ => True) (fun _ => False) rfl rfl ?aP (fun _ hk => hk.elim) ?aF ?aO (Below.refl _ _) ?aS ?aL ?_; (case aP => exact k31_mkM _ _ _ (⟨x7_1, wrap64 (x6_1 + (wrap64 (1 + t122)))⟩ : S31)); (case aF => exact (fun _ _ => trivial)); (case aO => exact (by (with_reducible repeat (first | apply Kd.R_alloc | apply Kd.R_drewN | apply Kd.R_drew)); exact HO_5.out)); (case aS => exact (keep_size (w := w) (g := g) (row := none) (by repeat (first | (with_reducible first | exact HK.out | apply KeepBut.set_ | apply keep_drewN | apply keep_drew | apply keep_alloc) | exact HK.out)))); (case aL => have := LMc5.out; omega); intro v125 w7 ho hb hg hat; rw [← Ny124.out] at ho; have n0_ := Aside0.mk (IsS47.grown (by repeat (first | (with_reducible first | exact HI0.out | apply IsS47.alloc | apply IsS47.drewN | apply IsS47.drew | apply IsS47.set_1) | exact HI0.out)) hg (IsS47.own_ne HI0.out HO_5.out (by decide))); have n1_ := Aside0.mk (below_weaken (by repeat (first | (with_reducible first | exact HB.out | apply below_alloc | apply pw_below_drewN | apply below_drew1 | refine below_set ?_ (IsS47.ge HI0.out)) | exact HB.out)) HL.out hb); have n2_ := Aside0.mk (KeepBut.trans (by repeat (first | (with_reducible first | exact HK.out | apply KeepBut.set_ | apply keep_drewN | apply keep_drew | apply keep_alloc) | exact HK.out)) (KeepBut.of_grown hg g) (Kd.R_base2 HO_5.out)); have n3_ := Aside0.mk (ho); clear HI0; clear HB; clear HK; clear HO_5; have HI0 := n0_; have HB := n1_; have HK := n2_; have HO126 := n3_; clear n0_ n1_ n2_ n3_; clear ho hb hg hat))
          go_roundg k1
          case measure => have := HK1.out; omega
          case rel => exact ⟨(y124), (wrap64 (x6_1 + (wrap64 (1 + t122)))), (wrap64 (x7_1 + 1)), (t123), (by first | rfl | (simp; done) | (simp [*]; done)), (by first | rfl | (simp; done) | (simp [*]; done)), H', ⟨by have := HK1.out; omega⟩, ⟨by (with_reducible repeat (first | apply Kd.R_alloc | apply Kd.R_drewN | apply Kd.R_drew)); exact HO126.out⟩, ⟨by repeat (first | (with_reducible first | exact HI0.out | apply IsS47.alloc | apply IsS47.drewN | apply IsS47.drew | apply IsS47.set_1) | exact HI0.out)⟩, ⟨by repeat (first | (with_reducible first | exact HK.out | apply KeepBut.set_ | apply keep_drewN | apply keep_drew | apply keep_alloc) | exact HK.out)⟩, ⟨by repeat (first | (with_reducible first | exact HB.out | apply below_alloc | apply pw_below_drewN | apply below_drew1 | refine below_set ?_ (IsS47.ge HI0.out)) | exact HB.out)⟩⟩
        · rw [if_neg c5] at H
          exact absurd H (by simp)
      · rw [if_neg c3] at H
        have c3b0 : decide (x7_1 ≤ a1) = false := decide_eq_false c3
        clear c3
        simp only [Option.some.injEq, Prod.mk.injEq] at H
        obtain ⟨rfl, rfl⟩ := H
        go_wp2
        go_ret
        exact ⟨_, by first | rfl | (simp [errW_none, errW_some] <;> rfl) | (simp [*, errW_none, errW_some] <;> rfl), by (with_reducible repeat (first | apply Kd.R_alloc | apply Kd.R_drewN | apply Kd.R_drew)); exact HO_5.out, by repeat (first | (with_reducible first | exact HI0.out | apply IsS47.alloc | apply IsS47.drewN | apply IsS47.drew | apply IsS47.set_1) | exact HI0.out), by repeat (first | (with_reducible first | exact HB.out | apply below_alloc | apply pw_below_drewN | apply below_drew1 | refine below_set ?_ (IsS47.ge HI0.out)) | exact HB.out), by repeat (first | (with_reducible first | exact HK.out | apply KeepBut.set_ | apply keep_drewN | apply keep_drew | apply keep_alloc) | exact HK.out)⟩

end Go.Proofs.Ytcalkhlchjjalaa.Q

namespace Go.Proofs.Ytcalkhlchjjalaa.Q
open Go.RowKit Go.Proofs.YtcalkhlchjjalaaW.PrintWords Go.Proofs.YtcalkhlchjjalaaW.PrintLast Go.Proofs.YtcalkhlchjjalaaW.PrintMore Go.Proofs.Ytcalkhlchjjalaa.Gput
attribute [local go_sem] max2_int min2_int max_two min_two max_three min_three max_four min_four   -- for this text's walks alone
set_option linter.unusedVariables false
set_option linter.unusedSimpArgs false

/-! ### storagebarterref14_number: function 21 -/
def storagebarterref14_number.f (a0 : Int) : Option (Bool) := if a0 ≥ 1 then (some (decide (a0 < 2147483647))) else (some false)
set_option maxHeartbeats 8000000 in
set_option maxRecDepth 100000 in
theorem storagebarterref14_number.calls (a0 : Int) (r : Bool) (w : World) (h : storagebarterref14_number.f a0 = some r) :
    Calls Try.prog 21 #[.int .i64 a0] w fun e w' => e = .returned (.bool r) ∧ Drawn0 w w' := by
  have H : (if a0 ≥ 1 then (some (decide (a0 < 2147483647))) else (some false)) = some r := h
  clear h
  by_cases c2 : a0 ≥ 1
  · rw [if_pos c2] at H
    have c2b0 : decide (1 ≤ a0) = true := decide_eq_true c2
    clear c2
    obtain rfl := Option.some.inj H
    go_enter Try.func21, Try.ntmps21
    go_wp2
    go_ret
    exact ⟨by first | rfl | (simp; done) | (simp [*]; done), by repeat (first | exact Drawn0.refl _ | apply Drawn0.step)⟩
  · rw [if_neg c2] at H
    have c2b0 : decide (1 ≤ a0) = false := decide_eq_false c2
    clear c2
    obtain rfl := Option.some.inj H
    go_enter Try.func21, Try.ntmps21
    go_wp2
    go_ret
    exact ⟨by first | rfl | (simp; done) | (simp [*]; done), by repeat (first | exact Drawn0.refl _ | apply Drawn0.step)⟩

end Go.Proofs.Ytcalkhlchjjalaa.Q

namespace Go.Proofs.Ytcalkhlchjjalaa.Q
open Go.RowKit Go.Proofs.YtcalkhlchjjalaaW.PrintWords Go.Proofs.YtcalkhlchjjalaaW.PrintLast Go.Proofs.YtcalkhlchjjalaaW.PrintMore Go.Proofs.Ytcalkhlchjjalaa.Gput
attribute [local go_sem] max2_int min2_int max_two min_two max_three min_three max_four min_four   -- for this text's walks alone
set_option linter.unusedVariables false
set_option linter.unusedSimpArgs false

/-! ### storagebarterref14_Check: function 12 -/
mutual
def storagebarterref14_Check.l0 : Nat → List (S31) → List (S31) → Int → Int → Option (Int)
  | 0, _, _, _, _ => none
  | k + 1, x0, x10, x11, x12 => if x12 < x11 then (if 0 ≤ x12 then (if x12 < (x10.length : Int) then ((storagebarterref14_number.f ((rd_T31 x10 x12).f0)).bind fun t129 => (if t129 = true then ((storagebarterref14_number.f ((rd_T31 x10 x12).f1)).bind fun t130 => (storagebarterref14_Check.j1 k x0 x12 x10 x11 x12 (!t130) ((rd_T31 x10 x12).f0) ((rd_T31 x10 x12).f1))) else (storagebarterref14_Check.j1 k x0 x12 x10 x11 x12 true ((rd_T31 x10 x12).f0) ((rd_T31 x10 x12).f1)))) else (none)) else (none)) else (some 0)
def storagebarterref14_Check.j1 : Nat → List (S31) → Int → List (S31) → Int → Int → Bool → Int → Int → Option (Int)
  | 0, _, _, _, _, _, _, _, _ => none
  | k + 1, x0, x3, x10, x11, x12, x26, x129000, x129001 => if x26 = true then (some 1) else (if x3 > 0 then (if 0 ≤ (wrap64 (x3 - 1)) then (if (wrap64 (x3 - 1)) < (x0.length : Int) then (storagebarterref14_Check.j2 k x0 x3 x10 x11 x12 (decide (x129000 ≤ ((rd_T31 x0 (wrap64 (x3 - 1))).f0))) x129000 x129001) else (none)) else (none)) else (storagebarterref14_Check.j2 k x0 x3 x10 x11 x12 false x129000 x129001))
def storagebarterref14_Check.j2 : Nat → List (S31) → Int → List (S31) → Int → Int → Bool → Int → Int → Option (Int)
  | 0, _, _, _, _, _, _, _, _ => none
  | k + 1, x0, x3, x10, x11, x12, x39, x129000, x129001 => if x39 = true then (some 5) else (if 0 ≤ x3 then (if x3 ≤ (x0.length : Int) then ((some (x0.take (x3 : Int).toNat : List (S31))).bind fun y132 => (storagebarterref14_Check.l1 k x0 x10 x11 x12 y132 (y132.length : Int) 0 x129000 x129001)) else (none)) else (none))
def storagebarterref14_Check.l1 : Nat → List (S31) → List (S31) → Int → Int → List (S31) → Int → Int → Int → Int → Option (Int)
  | 0, _, _, _, _, _, _, _, _, _ => none
  | k + 1, x0, x10, x11, x12, x42, x43, x44, x129000, x129001 => if x44 < x43 then (if 0 ≤ x44 then (if x44 < (x42.length : Int) then (if ((rd_T31 x42 x44).f1) = x129001 then (some 7) else (storagebarterref14_Check.l1 k x0 x10 x11 x12 x42 x43 (wrap64 (x44 + 1)) x129000 x129001)) else (none)) else (none)) else (storagebarterref14_Check.l0 k x0 x10 x11 (wrap64 (x12 + 1)))
end
def storagebarterref14_Check.f (k : Nat) (l0 : List (S31)) : Option (Int) := if (l0.length : Int) > 16 then (some 4) else (storagebarterref14_Check.l0 k l0 l0 (l0.length : Int) 0)
theorem storagebarterref14_Check.mono_l : ∀ k, (∀ y0 y1 y2 y3, LeO (storagebarterref14_Check.l0 k y0 y1 y2 y3) (storagebarterref14_Check.l0 (k + 1) y0 y1 y2 y3)) ∧ (∀ y0 y1 y2 y3 y4 y5 y6 y7, LeO (storagebarterref14_Check.j1 k y0 y1 y2 y3 y4 y5 y6 y7) (storagebarterref14_Check.j1 (k + 1) y0 y1 y2 y3 y4 y5 y6 y7)) ∧ (∀ y0 y1 y2 y3 y4 y5 y6 y7, LeO (storagebarterref14_Check.j2 k y0 y1 y2 y3 y4 y5 y6 y7) (storagebarterref14_Check.j2 (k + 1) y0 y1 y2 y3 y4 y5 y6 y7)) ∧ (∀ y0 y1 y2 y3 y4 y5 y6 y7 y8, LeO (storagebarterref14_Check.l1 k y0 y1 y2 y3 y4 y5 y6 y7 y8) (storagebarterref14_Check.l1 (k + 1) y0 y1 y2 y3 y4 y5 y6 y7 y8))
  | 0 => ⟨fun _ _ _ _ r h => by simp [storagebarterref14_Check.l0] at h, fun _ _ _ _ _ _ _ _ r h => by simp [storagebarterref14_Check.j1] at h, fun _ _ _ _ _ _ _ _ r h => by simp [storagebarterref14_Check.j2] at h, fun _ _ _ _ _ _ _ _ _ r h => by simp [storagebarterref14_Check.l1] at h⟩
  | k + 1 => by
    obtain ⟨ih0, ih1, ih2, ih3⟩ := storagebarterref14_Check.mono_l k
    refine ⟨?_, ?_, ?_, ?_⟩
    · intro y0 y1 y2 y3
      unfold storagebarterref14_Check.l0
      repeat' first
      | (with_reducible exact ih0 _ _ _ _)
      | (with_reducible exact ih1 _ _ _ _ _ _ _ _)
      | (with_reducible exact ih2 _ _ _ _ _ _ _ _)
      | (with_reducible exact ih3 _ _ _ _ _ _ _ _ _)
      | (with_reducible exact LeO.refl _)
      | (with_reducible exact LeO.none _)
      | (with_reducible refine LeO.ite ?_ ?_)
      | (with_reducible refine LeO.bind ?_ (fun _ => ?_))
      | exact ih0 _ _ _ _
      | exact ih1 _ _ _ _ _ _ _ _
      | exact ih2 _ _ _ _ _ _ _ _
      | exact ih3 _ _ _ _ _ _ _ _ _
      | exact LeO.none _
      | refine LeO.ite ?_ ?_
      | refine LeO.bind ?_ (fun _ => ?_)
    · intro y0 y1 y2 y3 y4 y5 y6 y7
      unfold storagebarterref14_Check.j1
      repeat' first
      | (with_reducible exact ih0 _ _ _ _)
      | (with_reducible exact ih1 _ _ _ _ _ _ _ _)
      | (with_reducible exact ih2 _ _ _ _ _ _ _ _)
      | (with_reducible exact ih3 _ _ _ _ _ _ _ _ _)
      | (with_reducible exact LeO.refl _)
      | (with_reducible exact LeO.none _)
      | (with_reducible refine LeO.ite ?_ ?_)
      | (with_reducible refine LeO.bind ?_ (fun _ => ?_))
      | exact ih0 _ _ _ _
      | exact ih1 _ _ _ _ _ _ _ _
      | exact ih2 _ _ _ _ _ _ _ _
      | exact ih3 _ _ _ _ _ _ _ _ _
      | exact LeO.none _
      | refine LeO.ite ?_ ?_
      | refine LeO.bind ?_ (fun _ => ?_)
    · intro y0 y1 y2 y3 y4 y5 y6 y7
      unfold storagebarterref14_Check.j2
      repeat' first
      | (with_reducible exact ih0 _ _ _ _)
      | (with_reducible exact ih1 _ _ _ _ _ _ _ _)
      | (with_reducible exact ih2 _ _ _ _ _ _ _ _)
      | (with_reducible exact ih3 _ _ _ _ _ _ _ _ _)
      | (with_reducible exact LeO.refl _)
      | (with_reducible exact LeO.none _)
      | (with_reducible refine LeO.ite ?_ ?_)
      | (with_reducible refine LeO.bind ?_ (fun _ => ?_))
      | exact ih0 _ _ _ _
      | exact ih1 _ _ _ _ _ _ _ _
      | exact ih2 _ _ _ _ _ _ _ _
      | exact ih3 _ _ _ _ _ _ _ _ _
      | exact LeO.none _
      | refine LeO.ite ?_ ?_
      | refine LeO.bind ?_ (fun _ => ?_)
    · intro y0 y1 y2 y3 y4 y5 y6 y7 y8
      unfold storagebarterref14_Check.l1
      repeat' first
      | (with_reducible exact ih0 _ _ _ _)
      | (with_reducible exact ih1 _ _ _ _ _ _ _ _)
      | (with_reducible exact ih2 _ _ _ _ _ _ _ _)
      | (with_reducible exact ih3 _ _ _ _ _ _ _ _ _)
      | (with_reducible exact LeO.refl _)
      | (with_reducible exact LeO.none _)
      | (with_reducible refine LeO.ite ?_ ?_)
      | (with_reducible refine LeO.bind ?_ (fun _ => ?_))
      | exact ih0 _ _ _ _
      | exact ih1 _ _ _ _ _ _ _ _
      | exact ih2 _ _ _ _ _ _ _ _
      | exact ih3 _ _ _ _ _ _ _ _ _
      | exact LeO.none _
      | refine LeO.ite ?_ ?_
      | refine LeO.bind ?_ (fun _ => ?_)
theorem storagebarterref14_Check.mono : ∀ a0 k, LeO (storagebarterref14_Check.f k a0) (storagebarterref14_Check.f (k + 1) a0) := by
  intro a0 k
  obtain ⟨ih0, ih1, ih2, ih3⟩ := storagebarterref14_Check.mono_l k
  unfold storagebarterref14_Check.f
  repeat' first
      | (with_reducible exact ih0 _ _ _ _)
      | (with_reducible exact ih1 _ _ _ _ _ _ _ _)
      | (with_reducible exact ih2 _ _ _ _ _ _ _ _)
      | (with_reducible exact ih3 _ _ _ _ _ _ _ _ _)
      | (with_reducible exact LeO.refl _)
      | (with_reducible exact LeO.none _)
      | (with_reducible refine LeO.ite ?_ ?_)
      | (with_reducible refine LeO.bind ?_ (fun _ => ?_))
      | exact ih0 _ _ _ _
      | exact ih1 _ _ _ _ _ _ _ _
      | exact ih2 _ _ _ _ _ _ _ _
      | exact ih3 _ _ _ _ _ _ _ _ _
      | exact LeO.none _
      | refine LeO.ite ?_ ?_
      | refine LeO.bind ?_ (fun _ => ?_)
set_option maxHeartbeats 8000000 in
set_option maxRecDepth 100000 in
theorem storagebarterref14_Check.calls (k : Nat) (A0 : Option Addr) (c0 : Nat) (l0 : List (S31)) (r : Int) (w : World) (hr0 : Kd.C k31 w A0 l0.length l0) (hc0 : l0.length ≤ c0) (h : storagebarterref14_Check.f k l0 = some r) :
    Calls Try.prog 12 #[.slice A0 l0.length c0] w fun e w' => e = .returned (.int .i64 r) ∧ Below w.heap.size w w' := by
  have hu31 := Try.underlying31
  have HR0 := Aside0.mk hr0
  have HC0 := Aside0.mk hc0
  clear hr0 hc0
  have HB := Aside0.mk (Below.refl w.heap.size w)
  have H : (if (l0.length : Int) > 16 then (some 4) else (storagebarterref14_Check.l0 k l0 l0 (l0.length : Int) 0)) = some r := h
  clear h
  by_cases c2 : (l0.length : Int) > 16
  · rw [if_pos c2] at H
    have c2b0 : decide (16 < (l0.length : Int)) = true := decide_eq_true c2
    have c2b1 : decide (16 < l0.length) = true := decide_eq_true (by omega)
    clear c2
    obtain rfl := Option.some.inj H
    go_enter Try.func12, Try.ntmps12
    go_wp2
    repeat (go_quiet (fail); try go_wp2)
    go_ret
    exact ⟨by first | rfl | (simp [errW_none, errW_some] <;> rfl) | (simp [*, errW_none, errW_some] <;> rfl), by repeat (first | (with_reducible first | exact HB.out | apply below_alloc | apply pw_below_drewN | apply below_drew1) | exact HB.out)⟩
  · rw [if_neg c2] at H
    have c2b0 : decide (16 < (l0.length : Int)) = false := decide_eq_false c2
    have c2b1 : decide (16 < l0.length) = false := decide_eq_false (by omega)
    clear c2
    have H' := Aside0.mk H
    clear H
    go_enter Try.func12, Try.ntmps12
    go_wp2
    repeat (go_quiet (fail); try go_wp2)
    go_loopg [12] k (fun kq v12 w' => ∃ (x12_1 : Int), v12 = .int .i64 x12_1 ∧ Aside0 (storagebarterref14_Check.l0 kq l0 l0 (l0.length : Int) x12_1 = some r) ∧ Aside0 (kq ≤ k) ∧ Aside0 (Below w.heap.size w w'))
    case atStart => exact ⟨(0), (by first | rfl | (simp; done) | (simp [*]; done)), H', ⟨Nat.le_refl _⟩, ⟨by repeat (first | (with_reducible first | exact HB.out | apply below_alloc | apply pw_below_drewN | apply below_drew1) | exact HB.out)⟩⟩
    case round =>
      clear H'
      try clear c1
      try clear c2
      try clear c2b0
      try clear c2b1
      try clear p2
      obtain ⟨x12_1, rfl, HA, HK1, HB⟩ := hrel
      cases gk with
      | zero => exact absurd HA.out (by simp [storagebarterref14_Check.l0])
      | succ k1 =>
        have H := HA.out
        clear HA
        simp only [storagebarterref14_Check.l0] at H
        by_cases c3 : x12_1 < (l0.length : Int)
        · rw [if_pos c3] at H
          have c3b0 : decide (x12_1 < (l0.length : Int)) = true := decide_eq_true c3
          clear c3
          by_cases c4 : 0 ≤ x12_1
          · rw [if_pos c4] at H
            have c4b0 : decide (0 ≤ x12_1) = true := decide_eq_true c4
            clear c4
            by_cases c5 : x12_1 < (l0.length : Int)
            · rw [if_pos c5] at H
              have c5b0 : decide (x12_1 < (l0.length : Int)) = true := decide_eq_true c5
              clear c5
              have HC6 := Aside0.mk H
              clear H
              have p127 : 0 ≤ (x12_1 : Int) := of_decide_eq_true (by first | (with_reducible assumption) | assumption)
              have q127 : x12_1 < (l0.length : Int) := of_decide_eq_true (by first | (with_reducible assumption) | assumption)
              obtain ⟨ad127, e127, hx127_0, hx127_1⟩ := at_T31 HR0.out x12_1 p127 q127
              cases e127
              replace hx127_0 := (HB.out.cell (World.block_lt_of_cell? w _ hx127_0)).trans hx127_0
              replace hx127_1 := (HB.out.cell (World.block_lt_of_cell? w _ hx127_1)).trans hx127_1
              replace p127 := eq_true p127
              replace q127 := eq_true q127
              go_upto_region 6 with (first | ((with_reducible refine gate_dst (N := 4) rfl ?_); refine box_event ?hg (N := 4) ?hd (cs := #[.int .i64 0, .int .i64 0]) (t := 31) ?hr ?_; (case hd => rfl); (case hg => rfl); (case hr => first | (go_simp; done) | (go_simp; rfl)); intro gb128 hg w7 hbox hb; have n0_ := Aside0.mk (below_step (by repeat (first | (with_reducible first | exact HB.out | apply below_alloc | apply pw_below_drewN | apply below_drew1) | exact HB.out)) hb); have n1_ := Aside0.mk (hbox); have n2_ := Aside0.mk ((by rw [hg]; exact (below_size (by repeat (first | (with_reducible first | exact HB.out | apply below_alloc | apply pw_below_drewN | apply below_drew1) | exact HB.out))) : w.heap.size ≤ gb128)); have n3_ := Aside0.mk ((by rw [hg]; exact (below_size (by repeat (first | (with_reducible first | exact HB.out | apply below_alloc | apply pw_below_drewN | apply below_drew1) | exact HB.out))) : w.heap.size ≤ gb128)); clear HB; have HB := n0_; have BK128 := n1_; have GW128 := n2_; have GE128 := n3_; clear n0_ n1_ n2_ n3_; clear hb hbox hg; have hcz8_0 : w7.cell? ⟨gb128, 0, none⟩ = some (.int .i64 0) := (blk_cell BK128.out 0).trans rfl; have hcz8_1 : w7.cell? ⟨gb128, 1, none⟩ = some (.int .i64 0) := (blk_cell BK128.out 1).trans rfl; have hfz8_0 := blk_frozen BK128.out 0; have hfz8_1 := blk_frozen BK128.out 1))
              repeat (go_quiet (first | ((with_reducible refine gate_dst (N := 4) rfl ?_); refine box_event ?hg (N := 4) ?hd (cs := #[.int .i64 0, .int .i64 0]) (t := 31) ?hr ?_; (case hd => rfl); (case hg => rfl); (case hr => first | (go_simp; done) | (go_simp; rfl)); intro gb128 hg w7 hbox hb; have n0_ := Aside0.mk (below_step (by repeat (first | (with_reducible first | exact HB.out | apply below_alloc | apply pw_below_drewN | apply below_drew1) | exact HB.out)) hb); have n1_ := Aside0.mk (hbox); have n2_ := Aside0.mk ((by rw [hg]; exact (below_size (by repeat (first | (with_reducible first | exact HB.out | apply below_alloc | apply pw_below_drewN | apply below_drew1) | exact HB.out))) : w.heap.size ≤ gb128)); have n3_ := Aside0.mk ((by rw [hg]; exact (below_size (by repeat (first | (with_reducible first | exact HB.out | apply below_alloc | apply pw_below_drewN | apply below_drew1) | exact HB.out))) : w.heap.size ≤ gb128)); clear HB; have HB := n0_; have BK128 := n1_; have GW128 := n2_; have GE128 := n3_; clear n0_ n1_ n2_ n3_; clear hb hbox hg; have hcz8_0 : w7.cell? ⟨gb128, 0, none⟩ = some (.int .i64 0) := (blk_cell BK128.out 0).trans rfl; have hcz8_1 : w7.cell? ⟨gb128, 1, none⟩ = some (.int .i64 0) := (blk_cell BK128.out 1).trans rfl; have hfz8_0 := blk_frozen BK128.out 0; have hfz8_1 := blk_frozen BK128.out 1)); go_upto_region 6 with (first | ((with_reducible refine gate_dst (N := 4) rfl ?_); refine box_event ?hg (N := 4) ?hd (cs := #[.int .i64 0, .int .i64 0]) (t := 31) ?hr ?_; (case hd => rfl); (case hg => rfl); (case hr => first | (go_simp; done) | (go_simp; rfl)); intro gb128 hg w7 hbox hb; have n0_ := Aside0.mk (below_step (by repeat (first | (with_reducible first | exact HB.out | apply below_alloc | apply pw_below_drewN | apply below_drew1) | exact HB.out)) hb); have n1_ := Aside0.mk (hbox); have n2_ := Aside0.mk ((by rw [hg]; exact (below_size (by repeat (first | (with_reducible first | exact HB.out | apply below_alloc | apply pw_below_drewN | apply below_drew1) | exact HB.out))) : w.heap.size ≤ gb128)); have n3_ := Aside0.mk ((by rw [hg]; exact (below_size (by repeat (first | (with_reducible first | exact HB.out | apply below_alloc | apply pw_below_drewN | apply below_drew1) | exact HB.out))) : w.heap.size ≤ gb128)); clear HB; have HB := n0_; have BK128 := n1_; have GW128 := n2_; have GE128 := n3_; clear n0_ n1_ n2_ n3_; clear hb hbox hg; have hcz8_0 : w7.cell? ⟨gb128, 0, none⟩ = some (.int .i64 0) := (blk_cell BK128.out 0).trans rfl; have hcz8_1 : w7.cell? ⟨gb128, 1, none⟩ = some (.int .i64 0) := (blk_cell BK128.out 1).trans rfl; have hfz8_0 := blk_frozen BK128.out 0; have hfz8_1 := blk_frozen BK128.out 1)))
              (try simp only [Act.put, List.setIfInBounds_toArray, List.set_cons_zero, List.set_cons_succ])
              go_cut [26] (fun v26 wc => ∃ (kq : Nat) (x26_5 : Bool), v26 = .bool x26_5 ∧ Aside0 (storagebarterref14_Check.j1 kq l0 x12_1 l0 (l0.length : Int) x12_1 x26_5 ((rd_T31 l0 x12_1).f0) ((rd_T31 l0 x12_1).f1) = some r) ∧ Aside0 (kq ≤ k1) ∧ Aside0 (wc.heap[gb128]? = some (.cells #[.int .i64 ((rd_T31 l0 x12_1).f0), .int .i64 ((rd_T31 l0 x12_1).f1)] 31 (0, 0))) ∧ Aside0 (Below w.heap.size w wc))
              case first =>
                have H := HC6.out
                clear HC6
                replace H := Option.bind_eq_some_iff.mp H
                obtain ⟨t129, A90, H⟩ := H
                replace H : (if t129 = true then ((storagebarterref14_number.f ((rd_T31 l0 x12_1).f1)).bind fun t130 => (storagebarterref14_Check.j1 k1 l0 x12_1 l0 (l0.length : Int) x12_1 (!t130) ((rd_T31 l0 x12_1).f0) ((rd_T31 l0 x12_1).f1))) else (storagebarterref14_Check.j1 k1 l0 x12_1 l0 (l0.length : Int) x12_1 true ((rd_T31 l0 x12_1).f0) ((rd_T31 l0 x12_1).f1))) = some r := H
                have A9 := Aside0.mk A90
                clear A90
                by_cases c10 : t129 = true
                · subst c10
                  have H1 : ((storagebarterref14_number.f ((rd_T31 l0 x12_1).f1)).bind fun t130 => (storagebarterref14_Check.j1 k1 l0 x12_1 l0 (l0.length : Int) x12_1 (!t130) ((rd_T31 l0 x12_1).f0) ((rd_T31 l0 x12_1).f1))) = some r := by rw [if_pos rfl] at H; exact H
                  clear H
                  have H := H1
                  clear H1
                  replace H := Option.bind_eq_some_iff.mp H
                  obtain ⟨t130, A110, H⟩ := H
                  replace H : (storagebarterref14_Check.j1 k1 l0 x12_1 l0 (l0.length : Int) x12_1 (!t130) ((rd_T31 l0 x12_1).f0) ((rd_T31 l0 x12_1).f1)) = some r := H
                  have A11 := Aside0.mk A110
                  clear A110
                  have H' := Aside0.mk H
                  clear H
                  have hcz12_0 : w7.cell? ⟨gb128, 0, none⟩ = some (.int .i64 0) := (blk_cell BK128.out 0).trans rfl
                  have hcz12_1 : w7.cell? ⟨gb128, 1, none⟩ = some (.int .i64 0) := (blk_cell BK128.out 1).trans rfl
                  have hfz12_0 := blk_frozen BK128.out 0
                  have hfz12_1 := blk_frozen BK128.out 1
                  go_wp2_with (first | (go_at_call 21; (with_reducible refine (storagebarterref14_number.calls ((rd_T31 l0 x12_1).f0) true _ A9.out).mono ?_); rintro e w' ⟨rfl, ⟨nd, rfl⟩⟩; (try first | exact ⟨rfl, _, World.drewN_drewN _ _ _⟩ | exact ⟨rfl, _, Eq.trans (World.drewN_drewN _ _ _) (congrArg (World.drewN _) (Nat.add_assoc _ _ _))⟩)) | (go_at_call 21; (with_reducible refine (storagebarterref14_number.calls ((rd_T31 l0 x12_1).f1) t130 _ A11.out).mono ?_); rintro e w' ⟨rfl, ⟨nd, rfl⟩⟩; (try first | exact ⟨rfl, _, World.drewN_drewN _ _ _⟩ | exact ⟨rfl, _, Eq.trans (World.drewN_drewN _ _ _) (congrArg (World.drewN _) (Nat.add_assoc _ _ _))⟩)))
                  repeat (go_quiet (first | (go_at_call 21; (with_reducible refine (storagebarterref14_number.calls ((rd_T31 l0 x12_1).f0) true _ A9.out).mono ?_); rintro e w' ⟨rfl, ⟨nd, rfl⟩⟩; (try first | exact ⟨rfl, _, World.drewN_drewN _ _ _⟩ | exact ⟨rfl, _, Eq.trans (World.drewN_drewN _ _ _) (congrArg (World.drewN _) (Nat.add_assoc _ _ _))⟩)) | (go_at_call 21; (with_reducible refine (storagebarterref14_number.calls ((rd_T31 l0 x12_1).f1) t130 _ A11.out).mono ?_); rintro e w' ⟨rfl, ⟨nd, rfl⟩⟩; (try first | exact ⟨rfl, _, World.drewN_drewN _ _ _⟩ | exact ⟨rfl, _, Eq.trans (World.drewN_drewN _ _ _) (congrArg (World.drewN _) (Nat.add_assoc _ _ _))⟩))); try go_wp2_with (first | (go_at_call 21; (with_reducible refine (storagebarterref14_number.calls ((rd_T31 l0 x12_1).f0) true _ A9.out).mono ?_); rintro e w' ⟨rfl, ⟨nd, rfl⟩⟩; (try first | exact ⟨rfl, _, World.drewN_drewN _ _ _⟩ | exact ⟨rfl, _, Eq.trans (World.drewN_drewN _ _ _) (congrArg (World.drewN _) (Nat.add_assoc _ _ _))⟩)) | (go_at_call 21; (with_reducible refine (storagebarterref14_number.calls ((rd_T31 l0 x12_1).f1) t130 _ A11.out).mono ?_); rintro e w' ⟨rfl, ⟨nd, rfl⟩⟩; (try first | exact ⟨rfl, _, World.drewN_drewN _ _ _⟩ | exact ⟨rfl, _, Eq.trans (World.drewN_drewN _ _ _) (congrArg (World.drewN _) (Nat.add_assoc _ _ _))⟩))))
                  go_meet
                  case rel => exact ⟨_, (!t130), (by first | rfl | (simp; done) | (simp [*]; done)), H', ⟨by have := HK1.out; first | omega | exact Nat.le_refl _⟩, ⟨by (with_reducible repeat (first | refine blk_drewN ?_ _ | refine blk_drew ?_ | refine blk_alloc ?_ _)); refine blk_put (cs := #[.int .i64 ((rd_T31 l0 x12_1).f0), .int .i64 0]) ?_ 1 _ rfl; (with_reducible repeat (first | refine blk_drewN ?_ _ | refine blk_drew ?_ | refine blk_alloc ?_ _)); refine blk_put (cs := #[.int .i64 0, .int .i64 0]) ?_ 0 _ rfl; (with_reducible repeat (first | refine blk_drewN ?_ _ | refine blk_drew ?_ | refine blk_alloc ?_ _)); exact BK128.out⟩, ⟨by repeat (first | (with_reducible first | exact HB.out | apply below_alloc | apply pw_below_drewN | apply below_drew1 | refine below_set ?_ GE128.out) | exact HB.out)⟩⟩
                · replace c10 := Bool.eq_false_iff.mpr c10
                  subst c10
                  have H1 : (storagebarterref14_Check.j1 k1 l0 x12_1 l0 (l0.length : Int) x12_1 true ((rd_T31 l0 x12_1).f0) ((rd_T31 l0 x12_1).f1)) = some r := by rw [if_neg (show ¬ (false = true) by decide)] at H; exact H
                  clear H
                  have H := H1
                  clear H1
                  have H' := Aside0.mk H
                  clear H
                  have hcz13_0 : w7.cell? ⟨gb128, 0, none⟩ = some (.int .i64 0) := (blk_cell BK128.out 0).trans rfl
                  have hcz13_1 : w7.cell? ⟨gb128, 1, none⟩ = some (.int .i64 0) := (blk_cell BK128.out 1).trans rfl
                  have hfz13_0 := blk_frozen BK128.out 0
                  have hfz13_1 := blk_frozen BK128.out 1
                  go_wp2_with (first | (go_at_call 21; (with_reducible refine (storagebarterref14_number.calls ((rd_T31 l0 x12_1).f0) false _ A9.out).mono ?_); rintro e w' ⟨rfl, ⟨nd, rfl⟩⟩; (try first | exact ⟨rfl, _, World.drewN_drewN _ _ _⟩ | exact ⟨rfl, _, Eq.trans (World.drewN_drewN _ _ _) (congrArg (World.drewN _) (Nat.add_assoc _ _ _))⟩)))
                  repeat (go_quiet (first | (go_at_call 21; (with_reducible refine (storagebarterref14_number.calls ((rd_T31 l0 x12_1).f0) false _ A9.out).mono ?_); rintro e w' ⟨rfl, ⟨nd, rfl⟩⟩; (try first | exact ⟨rfl, _, World.drewN_drewN _ _ _⟩ | exact ⟨rfl, _, Eq.trans (World.drewN_drewN _ _ _) (congrArg (World.drewN _) (Nat.add_assoc _ _ _))⟩))); try go_wp2_with (first | (go_at_call 21; (with_reducible refine (storagebarterref14_number.calls ((rd_T31 l0 x12_1).f0) false _ A9.out).mono ?_); rintro e w' ⟨rfl, ⟨nd, rfl⟩⟩; (try first | exact ⟨rfl, _, World.drewN_drewN _ _ _⟩ | exact ⟨rfl, _, Eq.trans (World.drewN_drewN _ _ _) (congrArg (World.drewN _) (Nat.add_assoc _ _ _))⟩))))
                  go_meet
                  case rel => exact ⟨_, (true), (by first | rfl | (simp; done) | (simp [*]; done)), H', ⟨by have := HK1.out; first | omega | exact Nat.le_refl _⟩, ⟨by (with_reducible repeat (first | refine blk_drewN ?_ _ | refine blk_drew ?_ | refine blk_alloc ?_ _)); refine blk_put (cs := #[.int .i64 ((rd_T31 l0 x12_1).f0), .int .i64 0]) ?_ 1 _ rfl; (with_reducible repeat (first | refine blk_drewN ?_ _ | refine blk_drew ?_ | refine blk_alloc ?_ _)); refine blk_put (cs := #[.int .i64 0, .int .i64 0]) ?_ 0 _ rfl; (with_reducible repeat (first | refine blk_drewN ?_ _ | refine blk_drew ?_ | refine blk_alloc ?_ _)); exact BK128.out⟩, ⟨by repeat (first | (with_reducible first | exact HB.out | apply below_alloc | apply pw_below_drewN | apply below_drew1 | refine below_set ?_ GE128.out) | exact HB.out)⟩⟩
              case rest =>
                clear HC6
                try clear c1
                try clear p1
                try clear q1
                try clear hx1
                try clear c2
                try clear c2b0
                try clear c2b1
                try clear p2
                try clear c3
                try clear c3b0
                try clear c4
                try clear c4b0
                try clear c5
                try clear c5b0
                try clear c10
                try clear c12
                try clear p12
                try clear q12
                try clear hx12
                try clear hcz12_0
                try clear hcz12_1
                try clear hcz13_0
                try clear hcz13_1
                try clear hcz8_0
                try clear hcz8_1
                try clear hfz12_0
                try clear hfz12_1
                try clear hfz13_0
                try clear hfz13_1
                try clear hfz8_0
                try clear hfz8_1
                try clear hx127_0
                try clear hx127_1
                try clear p127
                try clear p2
                try clear q127
                obtain ⟨kq, x26_5, rfl, HA, HJ5, BK128, HB⟩ := hcut
                cases kq with
                | zero => exact absurd HA.out (by simp [storagebarterref14_Check.j1])
                | succ kj5 =>
                  have H := HA.out
                  clear HA
                  simp only [storagebarterref14_Check.j1] at H
                  by_cases c14 : x26_5 = true
                  · subst c14
                    have H1 : (some 1) = some r := by rw [if_pos rfl] at H; exact H
                    clear H
                    have H := H1
                    clear H1
                    obtain rfl := Option.some.inj H
                    go_wp2
                    repeat (go_quiet (fail); try go_wp2)
                    go_ret
                    exact ⟨by first | rfl | (simp [errW_none, errW_some] <;> rfl) | (simp [*, errW_none, errW_some] <;> rfl), by repeat (first | (with_reducible first | exact HB.out | apply below_alloc | apply pw_below_drewN | apply below_drew1 | refine below_set ?_ GE128.out) | exact HB.out)⟩
                  · replace c14 := Bool.eq_false_iff.mpr c14
                    subst c14
                    have H1 : (if x12_1 > 0 then (if 0 ≤ (wrap64 (x12_1 - 1)) then (if (wrap64 (x12_1 - 1)) < (l0.length : Int) then (storagebarterref14_Check.j2 kj5 l0 x12_1 l0 (l0.length : Int) x12_1 (decide (((rd_T31 l0 x12_1).f0) ≤ ((rd_T31 l0 (wrap64 (x12_1 - 1))).f0))) ((rd_T31 l0 x12_1).f0) ((rd_T31 l0 x12_1).f1)) else (none)) else (none)) else (storagebarterref14_Check.j2 kj5 l0 x12_1 l0 (l0.length : Int) x12_1 false ((rd_T31 l0 x12_1).f0) ((rd_T31 l0 x12_1).f1))) = some r := by rw [if_neg (show ¬ (false = true) by decide)] at H; exact H
                    clear H
                    have H := H1
                    clear H1
                    have HC15 := Aside0.mk H
                    clear H
                    go_upto_region 8 with (fail)
                    repeat (go_quiet (fail); go_upto_region 8 with (fail))
                    go_cut [39] (fun v39 wc => ∃ (kq : Nat) (x39_14 : Bool), v39 = .bool x39_14 ∧ Aside0 (storagebarterref14_Check.j2 kq l0 x12_1 l0 (l0.length : Int) x12_1 x39_14 ((rd_T31 l0 x12_1).f0) ((rd_T31 l0 x12_1).f1) = some r) ∧ Aside0 (kq ≤ kj5) ∧ Aside0 (wc.heap[gb128]? = some (.cells #[.int .i64 ((rd_T31 l0 x12_1).f0), .int .i64 ((rd_T31 l0 x12_1).f1)] 31 (0, 0))) ∧ Aside0 (Below w.heap.size w wc))
                    case first =>
                      have H := HC15.out
                      clear HC15
                      by_cases c16 : x12_1 > 0
                      · rw [if_pos c16] at H
                        have c16b0 : decide (0 < x12_1) = true := decide_eq_true c16
                        clear c16
                        (first | rw [c16b0] | (simp only [i64_w, i32_w]; rw [c16b0]) | skip)
                        obtain ⟨ji17, hji17⟩ : ∃ j_ : Int, (wrap64 (x12_1 - 1)) = j_ := ⟨_, rfl⟩
                        replace H : (if 0 ≤ (ji17) then (if (ji17) < (l0.length : Int) then (storagebarterref14_Check.j2 kj5 l0 x12_1 l0 (l0.length : Int) x12_1 (decide (((rd_T31 l0 x12_1).f0) ≤ ((rd_T31 l0 (ji17)).f0))) ((rd_T31 l0 x12_1).f0) ((rd_T31 l0 x12_1).f1)) else (none)) else (none)) = some r := by first | (rw [hji17] at H; exact H) | (simp only [hji17] at H ⊢; exact H)
                        have hji17w : (IntKind.i64.wrap (x12_1 - 1)) = ji17 := (i64_w _).trans hji17
                        by_cases c18 : 0 ≤ (ji17)
                        · rw [if_pos c18] at H
                          have c18b0 : decide (0 ≤ (ji17)) = true := decide_eq_true c18
                          clear c18
                          by_cases c19 : (ji17) < (l0.length : Int)
                          · rw [if_pos c19] at H
                            have c19b0 : decide ((ji17) < (l0.length : Int)) = true := decide_eq_true c19
                            clear c19
                            have H' := Aside0.mk H
                            clear H
                            have hcz20_0 : wc.cell? ⟨gb128, 0, none⟩ = some (.int .i64 ((rd_T31 l0 x12_1).f0)) := (blk_cell BK128.out 0).trans rfl
                            have hcz20_1 : wc.cell? ⟨gb128, 1, none⟩ = some (.int .i64 ((rd_T31 l0 x12_1).f1)) := (blk_cell BK128.out 1).trans rfl
                            have hfz20_0 := blk_frozen BK128.out 0
                            have hfz20_1 := blk_frozen BK128.out 1
                            have p131 : 0 ≤ ((ji17) : Int) := of_decide_eq_true (by first | (with_reducible assumption) | assumption)
                            have q131 : (ji17) < (l0.length : Int) := of_decide_eq_true (by first | (with_reducible assumption) | assumption)
                            obtain ⟨ad131, e131, hx131_0, hx131_1⟩ := at_T31 HR0.out (ji17) p131 q131
                            obtain rfl : ad127 = ad131 := (by injection e131)
                            replace hx131_0 := (HB.out.cell (World.block_lt_of_cell? w _ hx131_0)).trans hx131_0
                            replace hx131_1 := (HB.out.cell (World.block_lt_of_cell? w _ hx131_1)).trans hx131_1
                            replace p131 := eq_true p131
                            replace q131 := eq_true q131
                            go_wp2
                            repeat (go_quiet (fail); try go_wp2)
                            go_meet
                            case rel => exact ⟨_, (decide (((rd_T31 l0 x12_1).f0) ≤ ((rd_T31 l0 (ji17)).f0))), (by first | rfl | (simp; done) | (simp only [← hji17] <;> (first | rfl | simp)) | (simp [*]; done)), H', ⟨by have := HK1.out; have := HJ5.out; first | omega | exact Nat.le_refl _⟩, ⟨by (with_reducible repeat (first | refine blk_drewN ?_ _ | refine blk_drew ?_ | refine blk_alloc ?_ _)); exact BK128.out⟩, ⟨by repeat (first | (with_reducible first | exact HB.out | apply below_alloc | apply pw_below_drewN | apply below_drew1 | refine below_set ?_ GE128.out) | exact HB.out)⟩⟩
                          · rw [if_neg c19] at H
                            exact absurd H (by simp)
                        · rw [if_neg c18] at H
                          exact absurd H (by simp)
                      · rw [if_neg c16] at H
                        have c16b0 : decide (0 < x12_1) = false := decide_eq_false c16
                        clear c16
                        (first | rw [c16b0] | (simp only [i64_w, i32_w]; rw [c16b0]) | skip)
                        have H' := Aside0.mk H
                        clear H
                        go_wp2
                        repeat (go_quiet (fail); try go_wp2)
                        go_meet
                        case rel => exact ⟨_, (false), (by first | rfl | (simp; done) | (simp [*]; done)), H', ⟨by have := HK1.out; have := HJ5.out; first | omega | exact Nat.le_refl _⟩, ⟨by (with_reducible repeat (first | refine blk_drewN ?_ _ | refine blk_drew ?_ | refine blk_alloc ?_ _)); exact BK128.out⟩, ⟨by repeat (first | (with_reducible first | exact HB.out | apply below_alloc | apply pw_below_drewN | apply below_drew1 | refine below_set ?_ GE128.out) | exact HB.out)⟩⟩
                    case rest =>
                      clear HC15
                      try clear c1
                      try clear p1
                      try clear q1
                      try clear hx1
                      try clear c2
                      try clear c2b0
                      try clear c2b1
                      try clear p2
                      try clear c3
                      try clear c3b0
                      try clear c4
                      try clear c4b0
                      try clear c5
                      try clear c5b0
                      try clear p6
                      try clear c10
                      try clear c12
                      try clear p12
                      try clear q12
                      try clear hx12
                      try clear p13
                      try clear q13
                      try clear hx13
                      try clear c14
                      try clear c16
                      try clear c16b0
                      try clear c18
                      try clear c18b0
                      try clear c19
                      try clear c19b0
                      try clear hcz12_0
                      try clear hcz12_1
                      try clear hcz13_0
                      try clear hcz13_1
                      try clear hcz20_0
                      try clear hcz20_1
                      try clear hcz8_0
                      try clear hcz8_1
                      try clear hfz12_0
                      try clear hfz12_1
                      try clear hfz13_0
                      try clear hfz13_1
                      try clear hfz20_0
                      try clear hfz20_1
                      try clear hfz8_0
                      try clear hfz8_1
                      try clear hx127_0
                      try clear hx127_1
                      try clear hx131_0
                      try clear hx131_1
                      try clear p1
                      try clear p12
                      try clear p127
                      try clear p131
                      try clear p2
                      try clear q1
                      try clear q12
                      try clear q127
                      try clear q131
                      obtain ⟨kq, x39_14, rfl, HA, HJ14, BK128, HB⟩ := hcut
                      cases kq with
                      | zero => exact absurd HA.out (by simp [storagebarterref14_Check.j2])
                      | succ kj14 =>
                        have H := HA.out
                        clear HA
                        simp only [storagebarterref14_Check.j2] at H
                        by_cases c21 : x39_14 = true
                        · subst c21
                          have H1 : (some 5) = some r := by rw [if_pos rfl] at H; exact H
                          clear H
                          have H := H1
                          clear H1
                          obtain rfl := Option.some.inj H
                          go_wp2
                          repeat (go_quiet (fail); try go_wp2)
                          go_ret
                          exact ⟨by first | rfl | (simp [errW_none, errW_some] <;> rfl) | (simp [*, errW_none, errW_some] <;> rfl), by repeat (first | (with_reducible first | exact HB.out | apply below_alloc | apply pw_below_drewN | apply below_drew1 | refine below_set ?_ GE128.out) | exact HB.out)⟩
                        · replace c21 := Bool.eq_false_iff.mpr c21
                          subst c21
                          have H1 : (if 0 ≤ x12_1 then (if x12_1 ≤ (l0.length : Int) then ((some (l0.take (x12_1 : Int).toNat : List (S31))).bind fun y132 => (storagebarterref14_Check.l1 kj14 l0 l0 (l0.length : Int) x12_1 y132 (y132.length : Int) 0 ((rd_T31 l0 x12_1).f0) ((rd_T31 l0 x12_1).f1))) else (none)) else (none)) = some r := by rw [if_neg (show ¬ (false = true) by decide)] at H; exact H
                          clear H
                          have H := H1
                          clear H1
                          by_cases c22 : 0 ≤ x12_1
                          · rw [if_pos c22] at H
                            have c22b0 := eq_true c22
                            have c22b1 : decide (0 ≤ x12_1) = true := decide_eq_true c22
                            clear c22
                            by_cases c23 : x12_1 ≤ (l0.length : Int)
                            · rw [if_pos c23] at H
                              have c23b0 := eq_true c23
                              have c23b1 : decide (x12_1 ≤ (l0.length : Int)) = true := decide_eq_true c23
                              clear c23
                              obtain ⟨y132, hy132⟩ : ∃ y_ : List (S31), y_ = (l0.take (x12_1 : Int).toNat) := ⟨_, rfl⟩
                              replace H : (storagebarterref14_Check.l1 kj14 l0 l0 (l0.length : Int) x12_1 y132 (y132.length : Int) 0 ((rd_T31 l0 x12_1).f0) ((rd_T31 l0 x12_1).f1)) = some r := by first | (rw [hy132]; with_reducible exact H) | (have H2_ := (Option.bind_some _ _).symm.trans H; rw [hy132]; with_reducible exact H2_) | (have H2_ := (Option.bind_some _ _).symm.trans H; with_reducible exact H2_) | with_reducible exact H | (rw [hy132]; exact H) | exact H
                              have Ny132 := Aside0.mk hy132
                              clear hy132
                              have H' := Aside0.mk H
                              clear H
                              have q24 : (x12_1 : Int) ≤ ((l0.length : Int) : Int) := of_decide_eq_true (by first | (with_reducible assumption) | assumption)
                              obtain ⟨i024, hi024, _, hsz24, _⟩ := info_parts info31
                              have hroom24 : l0.length ≤ c0 := HC0.out
                              have hC24 : Kd.C k31 _ (some ad127) l0.length l0 := HR0.out
                              have hcut24 := cut_to (P := Try.prog) 23 31 .i64 Try.underlying23 hi024 (some ad127) l0.length c0 x12_1 (of_decide_eq_true (by first | (with_reducible assumption) | assumption)) q24 hroom24
                              have hr24 := Kd.C_take (m := (x12_1 : Int).toNat) hC24 (by omega)
                              have hy24 : y132.length = (x12_1 : Int).toNat := (by rw [Ny132.out, List.length_take]; omega)
                              rw [← Ny132.out] at hr24
                              rw [← hy24] at hcut24
                              have HR135 := Aside0.mk hr24
                              have HC135 := Aside0.mk (show y132.length ≤ c0 from by omega)
                              clear hr24 hC24 hroom24 hi024 hsz24
                              have KY24 := Aside0.mk hy24
                              clear hy24
                              replace q24 := eq_true q24
                              go_wp2
                              repeat (go_quiet (fail); try go_wp2)
                              go_loopg [44] kj14 (fun kq v44 w' => ∃ (x44_4 : Int), v44 = .int .i64 x44_4 ∧ Aside0 (storagebarterref14_Check.l1 kq l0 l0 (l0.length : Int) x12_1 y132 (y132.length : Int) x44_4 ((rd_T31 l0 x12_1).f0) ((rd_T31 l0 x12_1).f1) = some r) ∧ Aside0 (kq ≤ kj14) ∧ Aside0 (w'.heap[gb128]? = some (.cells #[.int .i64 ((rd_T31 l0 x12_1).f0), .int .i64 ((rd_T31 l0 x12_1).f1)] 31 (0, 0))) ∧ Aside0 (Below w.heap.size w w'))
                              case atStart => exact ⟨(0), (by first | rfl | (simp; done) | (simp [*]; done)), H', ⟨Nat.le_refl _⟩, ⟨by (with_reducible repeat (first | refine blk_drewN ?_ _ | refine blk_drew ?_ | refine blk_alloc ?_ _)); exact BK128.out⟩, ⟨by repeat (first | (with_reducible first | exact HB.out | apply below_alloc | apply pw_below_drewN | apply below_drew1 | refine below_set ?_ GE128.out) | exact HB.out)⟩⟩
                              case round =>
                                clear H'
                                try clear c1
                                try clear p1
                                try clear q1
                                try clear hx1
                                try clear c2
                                try clear c2b0
                                try clear c2b1
                                try clear p2
                                try clear q2
                                try clear c3
                                try clear c3b0
                                try clear c4
                                try clear c4b0
                                try clear c5
                                try clear c5b0
                                try clear p6
                                try clear c10
                                try clear c12
                                try clear p12
                                try clear q12
                                try clear hx12
                                try clear p13
                                try clear q13
                                try clear hx13
                                try clear c14
                                try clear c16
                                try clear c16b0
                                try clear c18
                                try clear c18b0
                                try clear c19
                                try clear c19b0
                                try clear c21
                                try clear c22
                                try clear c22b0
                                try clear c22b1
                                try clear c23
                                try clear c23b0
                                try clear c23b1
                                try clear q24
                                try clear hcz12_0
                                try clear hcz12_1
                                try clear hcz13_0
                                try clear hcz13_1
                                try clear hcz20_0
                                try clear hcz20_1
                                try clear hcz8_0
                                try clear hcz8_1
                                try clear hfz12_0
                                try clear hfz12_1
                                try clear hfz13_0
                                try clear hfz13_1
                                try clear hfz20_0
                                try clear hfz20_1
                                try clear hfz8_0
                                try clear hfz8_1
                                try clear hx127_0
                                try clear hx127_1
                                try clear hx131_0
                                try clear hx131_1
                                try clear p1
                                try clear p12
                                try clear p127
                                try clear p13
                                try clear p131
                                try clear p2
                                try clear p6
                                try clear q1
                                try clear q12
                                try clear q127
                                try clear q13
                                try clear q131
                                try clear q24
                                obtain ⟨x44_4, rfl, HA, HK4, BK128, HB⟩ := hrel
                                cases gk with
                                | zero => exact absurd HA.out (by simp [storagebarterref14_Check.l1])
                                | succ k4 =>
                                  have H := HA.out
                                  clear HA
                                  simp only [storagebarterref14_Check.l1] at H
                                  by_cases c25 : x44_4 < (y132.length : Int)
                                  · rw [if_pos c25] at H
                                    have c25b0 : decide (x44_4 < (y132.length : Int)) = true := decide_eq_true c25
                                    clear c25
                                    by_cases c26 : 0 ≤ x44_4
                                    · rw [if_pos c26] at H
                                      have c26b0 : decide (0 ≤ x44_4) = true := decide_eq_true c26
                                      clear c26
                                      by_cases c27 : x44_4 < (y132.length : Int)
                                      · rw [if_pos c27] at H
                                        have c27b0 : decide (x44_4 < (y132.length : Int)) = true := decide_eq_true c27
                                        clear c27
                                        by_cases c28 : ((rd_T31 y132 x44_4).f1) = ((rd_T31 l0 x12_1).f1)
                                        · rw [if_pos c28] at H
                                          have c28b0 : (((rd_T31 y132 x44_4).f1) == ((rd_T31 l0 x12_1).f1)) = true := beq_iff_eq.mpr c28
                                          have c28b1 : (((rd_T31 y132 x44_4).f1) != ((rd_T31 l0 x12_1).f1)) = false := bne_eq_false_iff_eq.mpr c28
                                          clear c28
                                          obtain rfl := Option.some.inj H
                                          have p136 : 0 ≤ (x44_4 : Int) := of_decide_eq_true (by first | (with_reducible assumption) | assumption)
                                          have q136 : x44_4 < (y132.length : Int) := of_decide_eq_true (by first | (with_reducible assumption) | assumption)
                                          obtain ⟨ad136, e136, hx136_0, hx136_1⟩ := at_T31 HR135.out x44_4 p136 q136
                                          obtain rfl : ad127 = ad136 := (by injection e136)
                                          replace hx136_0 := (HB.out.cell (World.block_lt_of_cell? w _ hx136_0)).trans hx136_0
                                          replace hx136_1 := (HB.out.cell (World.block_lt_of_cell? w _ hx136_1)).trans hx136_1
                                          replace p136 := eq_true p136
                                          replace q136 := eq_true q136
                                          go_wp2_with (first | ((with_reducible refine gate_dst (N := 6) rfl ?_); refine box_event ?hg (N := 6) ?hd (cs := #[.int .i64 0, .int .i64 0]) (t := 31) ?hr ?_; (case hd => rfl); (case hg => rfl); (case hr => first | (go_simp; done) | (go_simp; rfl)); intro gb137 hg w29 hbox hb; have n0_ := Aside0.mk (blk_below (g := gb128) (o := .cells #[.int .i64 ((rd_T31 l0 x12_1).f0), .int .i64 ((rd_T31 l0 x12_1).f1)] 31 (0, 0)) (by (with_reducible repeat (first | refine blk_drewN ?_ _ | refine blk_drew ?_ | refine blk_alloc ?_ _)); exact BK128.out) hb); have n1_ := Aside0.mk (below_step (by repeat (first | (with_reducible first | exact HB.out | apply below_alloc | apply pw_below_drewN | apply below_drew1 | refine below_set ?_ GE128.out) | exact HB.out)) hb); have n2_ := Aside0.mk (hbox); have n3_ := Aside0.mk ((by rw [hg]; exact (below_size (by repeat (first | (with_reducible first | exact HB.out | apply below_alloc | apply pw_below_drewN | apply below_drew1 | refine below_set ?_ GE128.out) | exact HB.out))) : w.heap.size ≤ gb137)); have n4_ := Aside0.mk ((by rw [hg]; exact (below_size (by repeat (first | (with_reducible first | exact HB.out | apply below_alloc | apply pw_below_drewN | apply below_drew1 | refine below_set ?_ GE128.out) | exact HB.out))) : w.heap.size ≤ gb137)); have n5_ := Aside0.mk ((by rw [hg]; exact Nat.ne_of_lt (blk_lt (g := gb128) (o := .cells #[.int .i64 ((rd_T31 l0 x12_1).f0), .int .i64 ((rd_T31 l0 x12_1).f1)] 31 (0, 0)) (by (with_reducible repeat (first | refine blk_drewN ?_ _ | refine blk_drew ?_ | refine blk_alloc ?_ _)); exact BK128.out)) : gb128 ≠ gb137)); have n6_ := Aside0.mk ((by rw [hg]; exact Nat.ne_of_gt (blk_lt (g := gb128) (o := .cells #[.int .i64 ((rd_T31 l0 x12_1).f0), .int .i64 ((rd_T31 l0 x12_1).f1)] 31 (0, 0)) (by (with_reducible repeat (first | refine blk_drewN ?_ _ | refine blk_drew ?_ | refine blk_alloc ?_ _)); exact BK128.out)) : gb137 ≠ gb128)); clear BK128; clear HB; have BK128 := n0_; have HB := n1_; have BK137 := n2_; have GW137 := n3_; have GE137 := n4_; have NB128_137 := n5_; have NB137_128 := n6_; clear n0_ n1_ n2_ n3_ n4_ n5_ n6_; clear hb hbox hg; have hnb30 := NB137_128.out; have hnc30 := NB128_137.out; have hcz31_0 : w29.cell? ⟨gb137, 0, none⟩ = some (.int .i64 0) := (blk_cell BK137.out 0).trans rfl; have hcz31_1 : w29.cell? ⟨gb137, 1, none⟩ = some (.int .i64 0) := (blk_cell BK137.out 1).trans rfl; have hfz31_0 := blk_frozen BK137.out 0; have hfz31_1 := blk_frozen BK137.out 1; have hcz32_0 : w29.cell? ⟨gb128, 0, none⟩ = some (.int .i64 ((rd_T31 l0 x12_1).f0)) := (blk_cell BK128.out 0).trans rfl; have hcz32_1 : w29.cell? ⟨gb128, 1, none⟩ = some (.int .i64 ((rd_T31 l0 x12_1).f1)) := (blk_cell BK128.out 1).trans rfl; have hfz32_0 := blk_frozen BK128.out 0; have hfz32_1 := blk_frozen BK128.out 1))
                                          repeat (go_quiet (first | ((with_reducible refine gate_dst (N := 6) rfl ?_); refine box_event ?hg (N := 6) ?hd (cs := #[.int .i64 0, .int .i64 0]) (t := 31) ?hr ?_; (case hd => rfl); (case hg => rfl); (case hr => first | (go_simp; done) | (go_simp; rfl)); intro gb137 hg w29 hbox hb; have n0_ := Aside0.mk (blk_below (g := gb128) (o := .cells #[.int .i64 ((rd_T31 l0 x12_1).f0), .int .i64 ((rd_T31 l0 x12_1).f1)] 31 (0, 0)) (by (with_reducible repeat (first | refine blk_drewN ?_ _ | refine blk_drew ?_ | refine blk_alloc ?_ _)); exact BK128.out) hb); have n1_ := Aside0.mk (below_step (by repeat (first | (with_reducible first | exact HB.out | apply below_alloc | apply pw_below_drewN | apply below_drew1 | refine below_set ?_ GE128.out) | exact HB.out)) hb); have n2_ := Aside0.mk (hbox); have n3_ := Aside0.mk ((by rw [hg]; exact (below_size (by repeat (first | (with_reducible first | exact HB.out | apply below_alloc | apply pw_below_drewN | apply below_drew1 | refine below_set ?_ GE128.out) | exact HB.out))) : w.heap.size ≤ gb137)); have n4_ := Aside0.mk ((by rw [hg]; exact (below_size (by repeat (first | (with_reducible first | exact HB.out | apply below_alloc | apply pw_below_drewN | apply below_drew1 | refine below_set ?_ GE128.out) | exact HB.out))) : w.heap.size ≤ gb137)); have n5_ := Aside0.mk ((by rw [hg]; exact Nat.ne_of_lt (blk_lt (g := gb128) (o := .cells #[.int .i64 ((rd_T31 l0 x12_1).f0), .int .i64 ((rd_T31 l0 x12_1).f1)] 31 (0, 0)) (by (with_reducible repeat (first | refine blk_drewN ?_ _ | refine blk_drew ?_ | refine blk_alloc ?_ _)); exact BK128.out)) : gb128 ≠ gb137)); have n6_ := Aside0.mk ((by rw [hg]; exact Nat.ne_of_gt (blk_lt (g := gb128) (o := .cells #[.int .i64 ((rd_T31 l0 x12_1).f0), .int .i64 ((rd_T31 l0 x12_1).f1)] 31 (0, 0)) (by (with_reducible repeat (first | refine blk_drewN ?_ _ | refine blk_drew ?_ | refine blk_alloc ?_ _)); exact BK128.out)) : gb137 ≠ gb128)); clear BK128; clear HB; have BK128 := n0_; have HB := n1_; have BK137 := n2_; have GW137 := n3_; have GE137 := n4_; have NB128_137 := n5_; have NB137_128 := n6_; clear n0_ n1_ n2_ n3_ n4_ n5_ n6_; clear hb hbox hg; have hnb30 := NB137_128.out; have hnc30 := NB128_137.out; have hcz31_0 : w29.cell? ⟨gb137, 0, none⟩ = some (.int .i64 0) := (blk_cell BK137.out 0).trans rfl; have hcz31_1 : w29.cell? ⟨gb137, 1, none⟩ = some (.int .i64 0) := (blk_cell BK137.out 1).trans rfl; have hfz31_0 := blk_frozen BK137.out 0; have hfz31_1 := blk_frozen BK137.out 1; have hcz32_0 : w29.cell? ⟨gb128, 0, none⟩ = some (.int .i64 ((rd_T31 l0 x12_1).f0)) := (blk_cell BK128.out 0).trans rfl; have hcz32_1 : w29.cell? ⟨gb128, 1, none⟩ = some (.int .i64 ((rd_T31 l0 x12_1).f1)) := (blk_cell BK128.out 1).trans rfl; have hfz32_0 := blk_frozen BK128.out 0; have hfz32_1 := blk_frozen BK128.out 1)); try go_wp2_with (first | ((with_reducible refine gate_dst (N := 6) rfl ?_); refine box_event ?hg (N := 6) ?hd (cs := #[.int .i64 0, .int .i64 0]) (t := 31) ?hr ?_; (case hd => rfl); (case hg => rfl); (case hr => first | (go_simp; done) | (go_simp; rfl)); intro gb137 hg w29 hbox hb; have n0_ := Aside0.mk (blk_below (g := gb128) (o := .cells #[.int .i64 ((rd_T31 l0 x12_1).f0), .int .i64 ((rd_T31 l0 x12_1).f1)] 31 (0, 0)) (by (with_reducible repeat (first | refine blk_drewN ?_ _ | refine blk_drew ?_ | refine blk_alloc ?_ _)); exact BK128.out) hb); have n1_ := Aside0.mk (below_step (by repeat (first | (with_reducible first | exact HB.out | apply below_alloc | apply pw_below_drewN | apply below_drew1 | refine below_set ?_ GE128.out) | exact HB.out)) hb); have n2_ := Aside0.mk (hbox); have n3_ := Aside0.mk ((by rw [hg]; exact (below_size (by repeat (first | (with_reducible first | exact HB.out | apply below_alloc | apply pw_below_drewN | apply below_drew1 | refine below_set ?_ GE128.out) | exact HB.out))) : w.heap.size ≤ gb137)); have n4_ := Aside0.mk ((by rw [hg]; exact (below_size (by repeat (first | (with_reducible first | exact HB.out | apply below_alloc | apply pw_below_drewN | apply below_drew1 | refine below_set ?_ GE128.out) | exact HB.out))) : w.heap.size ≤ gb137)); have n5_ := Aside0.mk ((by rw [hg]; exact Nat.ne_of_lt (blk_lt (g := gb128) (o := .cells #[.int .i64 ((rd_T31 l0 x12_1).f0), .int .i64 ((rd_T31 l0 x12_1).f1)] 31 (0, 0)) (by (with_reducible repeat (first | refine blk_drewN ?_ _ | refine blk_drew ?_ | refine blk_alloc ?_ _)); exact BK128.out)) : gb128 ≠ gb137)); have n6_ := Aside0.mk ((by rw [hg]; exact Nat.ne_of_gt (blk_lt (g := gb128) (o := .cells #[.int .i64 ((rd_T31 l0 x12_1).f0), .int .i64 ((rd_T31 l0 x12_1).f1)] 31 (0, 0)) (by (with_reducible repeat (first | refine blk_drewN ?_ _ | refine blk_drew ?_ | refine blk_alloc ?_ _)); exact BK128.out)) : gb137 ≠ gb128)); clear BK128; clear HB; have BK128 := n0_; have HB := n1_; have BK137 := n2_; have GW137 := n3_; have GE137 := n4_; have NB128_137 := n5_; have NB137_128 := n6_; clear n0_ n1_ n2_ n3_ n4_ n5_ n6_; clear hb hbox hg; have hnb30 := NB137_128.out; have hnc30 := NB128_137.out; have hcz31_0 : w29.cell? ⟨gb137, 0, none⟩ = some (.int .i64 0) := (blk_cell BK137.out 0).trans rfl; have hcz31_1 : w29.cell? ⟨gb137, 1, none⟩ = some (.int .i64 0) := (blk_cell BK137.out 1).trans rfl; have hfz31_0 := blk_frozen BK137.out 0; have hfz31_1 := blk_frozen BK137.out 1; have hcz32_0 : w29.cell? ⟨gb128, 0, none⟩ = some (.int .i64 ((rd_T31 l0 x12_1).f0)) := (blk_cell BK128.out 0).trans rfl; have hcz32_1 : w29.cell? ⟨gb128, 1, none⟩ = some (.int .i64 ((rd_T31 l0 x12_1).f1)) := (blk_cell BK128.out 1).trans rfl; have hfz32_0 := blk_frozen BK128.out 0; have hfz32_1 := blk_frozen BK128.out 1)))
                                          go_ret
                                          exact ⟨by first | rfl | (simp [errW_none, errW_some] <;> rfl) | (simp [*, errW_none, errW_some] <;> rfl), by repeat (first | (with_reducible first | exact HB.out | apply below_alloc | apply pw_below_drewN | apply below_drew1 | refine below_set ?_ GE128.out | refine below_set ?_ GE137.out) | exact HB.out)⟩
                                        · rw [if_neg c28] at H
                                          have c28b0 : (((rd_T31 y132 x44_4).f1) == ((rd_T31 l0 x12_1).f1)) = false := beq_eq_false_iff_ne.mpr c28
                                          have c28b1 : (((rd_T31 y132 x44_4).f1) != ((rd_T31 l0 x12_1).f1)) = true := bne_iff_ne.mpr c28
                                          have H' := Aside0.mk H
                                          clear H
                                          have p136 : 0 ≤ (x44_4 : Int) := of_decide_eq_true (by first | (with_reducible assumption) | assumption)
                                          have q136 : x44_4 < (y132.length : Int) := of_decide_eq_true (by first | (with_reducible assumption) | assumption)
                                          obtain ⟨ad136, e136, hx136_0, hx136_1⟩ := at_T31 HR135.out x44_4 p136 q136
                                          obtain rfl : ad127 = ad136 := (by injection e136)
                                          replace hx136_0 := (HB.out.cell (World.block_lt_of_cell? w _ hx136_0)).trans hx136_0
                                          replace hx136_1 := (HB.out.cell (World.block_lt_of_cell? w _ hx136_1)).trans hx136_1
                                          replace p136 := eq_true p136
                                          replace q136 := eq_true q136
                                          go_wp2_with (first | ((with_reducible refine gate_dst (N := 6) rfl ?_); refine box_event ?hg (N := 6) ?hd (cs := #[.int .i64 0, .int .i64 0]) (t := 31) ?hr ?_; (case hd => rfl); (case hg => rfl); (case hr => first | (go_simp; done) | (go_simp; rfl)); intro gb137 hg w33 hbox hb; have n0_ := Aside0.mk (blk_below (g := gb128) (o := .cells #[.int .i64 ((rd_T31 l0 x12_1).f0), .int .i64 ((rd_T31 l0 x12_1).f1)] 31 (0, 0)) (by (with_reducible repeat (first | refine blk_drewN ?_ _ | refine blk_drew ?_ | refine blk_alloc ?_ _)); exact BK128.out) hb); have n1_ := Aside0.mk (below_step (by repeat (first | (with_reducible first | exact HB.out | apply below_alloc | apply pw_below_drewN | apply below_drew1 | refine below_set ?_ GE128.out) | exact HB.out)) hb); have n2_ := Aside0.mk (hbox); have n3_ := Aside0.mk ((by rw [hg]; exact (below_size (by repeat (first | (with_reducible first | exact HB.out | apply below_alloc | apply pw_below_drewN | apply below_drew1 | refine below_set ?_ GE128.out) | exact HB.out))) : w.heap.size ≤ gb137)); have n4_ := Aside0.mk ((by rw [hg]; exact (below_size (by repeat (first | (with_reducible first | exact HB.out | apply below_alloc | apply pw_below_drewN | apply below_drew1 | refine below_set ?_ GE128.out) | exact HB.out))) : w.heap.size ≤ gb137)); have n5_ := Aside0.mk ((by rw [hg]; exact Nat.ne_of_lt (blk_lt (g := gb128) (o := .cells #[.int .i64 ((rd_T31 l0 x12_1).f0), .int .i64 ((rd_T31 l0 x12_1).f1)] 31 (0, 0)) (by (with_reducible repeat (first | refine blk_drewN ?_ _ | refine blk_drew ?_ | refine blk_alloc ?_ _)); exact BK128.out)) : gb128 ≠ gb137)); have n6_ := Aside0.mk ((by rw [hg]; exact Nat.ne_of_gt (blk_lt (g := gb128) (o := .cells #[.int .i64 ((rd_T31 l0 x12_1).f0), .int .i64 ((rd_T31 l0 x12_1).f1)] 31 (0, 0)) (by (with_reducible repeat (first | refine blk_drewN ?_ _ | refine blk_drew ?_ | refine blk_alloc ?_ _)); exact BK128.out)) : gb137 ≠ gb128)); clear BK128; clear HB; have BK128 := n0_; have HB := n1_; have BK137 := n2_; have GW137 := n3_; have GE137 := n4_; have NB128_137 := n5_; have NB137_128 := n6_; clear n0_ n1_ n2_ n3_ n4_ n5_ n6_; clear hb hbox hg; have hnb34 := NB137_128.out; have hnc34 := NB128_137.out; have hcz35_0 : w33.cell? ⟨gb137, 0, none⟩ = some (.int .i64 0) := (blk_cell BK137.out 0).trans rfl; have hcz35_1 : w33.cell? ⟨gb137, 1, none⟩ = some (.int .i64 0) := (blk_cell BK137.out 1).trans rfl; have hfz35_0 := blk_frozen BK137.out 0; have hfz35_1 := blk_frozen BK137.out 1; have hcz36_0 : w33.cell? ⟨gb128, 0, none⟩ = some (.int .i64 ((rd_T31 l0 x12_1).f0)) := (blk_cell BK128.out 0).trans rfl; have hcz36_1 : w33.cell? ⟨gb128, 1, none⟩ = some (.int .i64 ((rd_T31 l0 x12_1).f1)) := (blk_cell BK128.out 1).trans rfl; have hfz36_0 := blk_frozen BK128.out 0; have hfz36_1 := blk_frozen BK128.out 1))
                                          repeat (go_quiet (first | ((with_reducible refine gate_dst (N := 6) rfl ?_); refine box_event ?hg (N := 6) ?hd (cs := #[.int .i64 0, .int .i64 0]) (t := 31) ?hr ?_; (case hd => rfl); (case hg => rfl); (case hr => first | (go_simp; done) | (go_simp; rfl)); intro gb137 hg w33 hbox hb; have n0_ := Aside0.mk (blk_below (g := gb128) (o := .cells #[.int .i64 ((rd_T31 l0 x12_1).f0), .int .i64 ((rd_T31 l0 x12_1).f1)] 31 (0, 0)) (by (with_reducible repeat (first | refine blk_drewN ?_ _ | refine blk_drew ?_ | refine blk_alloc ?_ _)); exact BK128.out) hb); have n1_ := Aside0.mk (below_step (by repeat (first | (with_reducible first | exact HB.out | apply below_alloc | apply pw_below_drewN | apply below_drew1 | refine below_set ?_ GE128.out) | exact HB.out)) hb); have n2_ := Aside0.mk (hbox); have n3_ := Aside0.mk ((by rw [hg]; exact (below_size (by repeat (first | (with_reducible first | exact HB.out | apply below_alloc | apply pw_below_drewN | apply below_drew1 | refine below_set ?_ GE128.out) | exact HB.out))) : w.heap.size ≤ gb137)); have n4_ := Aside0.mk ((by rw [hg]; exact (below_size (by repeat (first | (with_reducible first | exact HB.out | apply below_alloc | apply pw_below_drewN | apply below_drew1 | refine below_set ?_ GE128.out) | exact HB.out))) : w.heap.size ≤ gb137)); have n5_ := Aside0.mk ((by rw [hg]; exact Nat.ne_of_lt (blk_lt (g := gb128) (o := .cells #[.int .i64 ((rd_T31 l0 x12_1).f0), .int .i64 ((rd_T31 l0 x12_1).f1)] 31 (0, 0)) (by (with_reducible repeat (first | refine blk_drewN ?_ _ | refine blk_drew ?_ | refine blk_alloc ?_ _)); exact BK128.out)) : gb128 ≠ gb137)); have n6_ := Aside0.mk ((by rw [hg]; exact Nat.ne_of_gt (blk_lt (g := gb128) (o := .cells #[.int .i64 ((rd_T31 l0 x12_1).f0), .int .i64 ((rd_T31 l0 x12_1).f1)] 31 (0, 0)) (by (with_reducible repeat (first | refine blk_drewN ?_ _ | refine blk_drew ?_ | refine blk_alloc ?_ _)); exact BK128.out)) : gb137 ≠ gb128)); clear BK128; clear HB; have BK128 := n0_; have HB := n1_; have BK137 := n2_; have GW137 := n3_; have GE137 := n4_; have NB128_137 := n5_; have NB137_128 := n6_; clear n0_ n1_ n2_ n3_ n4_ n5_ n6_; clear hb hbox hg; have hnb34 := NB137_128.out; have hnc34 := NB128_137.out; have hcz35_0 : w33.cell? ⟨gb137, 0, none⟩ = some (.int .i64 0) := (blk_cell BK137.out 0).trans rfl; have hcz35_1 : w33.cell? ⟨gb137, 1, none⟩ = some (.int .i64 0) := (blk_cell BK137.out 1).trans rfl; have hfz35_0 := blk_frozen BK137.out 0; have hfz35_1 := blk_frozen BK137.out 1; have hcz36_0 : w33.cell? ⟨gb128, 0, none⟩ = some (.int .i64 ((rd_T31 l0 x12_1).f0)) := (blk_cell BK128.out 0).trans rfl; have hcz36_1 : w33.cell? ⟨gb128, 1, none⟩ = some (.int .i64 ((rd_T31 l0 x12_1).f1)) := (blk_cell BK128.out 1).trans rfl; have hfz36_0 := blk_frozen BK128.out 0; have hfz36_1 := blk_frozen BK128.out 1)); try go_wp2_with (first | ((with_reducible refine gate_dst (N := 6) rfl ?_); refine box_event ?hg (N := 6) ?hd (cs := #[.int .i64 0, .int .i64 0]) (t := 31) ?hr ?_; (case hd => rfl); (case hg => rfl); (case hr => first | (go_simp; done) | (go_simp; rfl)); intro gb137 hg w33 hbox hb; have n0_ := Aside0.mk (blk_below (g := gb128) (o := .cells #[.int .i64 ((rd_T31 l0 x12_1).f0), .int .i64 ((rd_T31 l0 x12_1).f1)] 31 (0, 0)) (by (with_reducible repeat (first | refine blk_drewN ?_ _ | refine blk_drew ?_ | refine blk_alloc ?_ _)); exact BK128.out) hb); have n1_ := Aside0.mk (below_step (by repeat (first | (with_reducible first | exact HB.out | apply below_alloc | apply pw_below_drewN | apply below_drew1 | refine below_set ?_ GE128.out) | exact HB.out)) hb); have n2_ := Aside0.mk (hbox); have n3_ := Aside0.mk ((by rw [hg]; exact (below_size (by repeat (first | (with_reducible first | exact HB.out | apply below_alloc | apply pw_below_drewN | apply below_drew1 | refine below_set ?_ GE128.out) | exact HB.out))) : w.heap.size ≤ gb137)); have n4_ := Aside0.mk ((by rw [hg]; exact (below_size (by repeat (first | (with_reducible first | exact HB.out | apply below_alloc | apply pw_below_drewN | apply below_drew1 | refine below_set ?_ GE128.out) | exact HB.out))) : w.heap.size ≤ gb137)); have n5_ := Aside0.mk ((by rw [hg]; exact Nat.ne_of_lt (blk_lt (g := gb128) (o := .cells #[.int .i64 ((rd_T31 l0 x12_1).f0), .int .i64 ((rd_T31 l0 x12_1).f1)] 31 (0, 0)) (by (with_reducible repeat (first | refine blk_drewN ?_ _ | refine blk_drew ?_ | refine blk_alloc ?_ _)); exact BK128.out)) : gb128 ≠ gb137)); have n6_ := Aside0.mk ((by rw [hg]; exact Nat.ne_of_gt (blk_lt (g := gb128) (o := .cells #[.int .i64 ((rd_T31 l0 x12_1).f0), .int .i64 ((rd_T31 l0 x12_1).f1)] 31 (0, 0)) (by (with_reducible repeat (first | refine blk_drewN ?_ _ | refine blk_drew ?_ | refine blk_alloc ?_ _)); exact BK128.out)) : gb137 ≠ gb128)); clear BK128; clear HB; have BK128 := n0_; have HB := n1_; have BK137 := n2_; have GW137 := n3_; have GE137 := n4_; have NB128_137 := n5_; have NB137_128 := n6_; clear n0_ n1_ n2_ n3_ n4_ n5_ n6_; clear hb hbox hg; have hnb34 := NB137_128.out; have hnc34 := NB128_137.out; have hcz35_0 : w33.cell? ⟨gb137, 0, none⟩ = some (.int .i64 0) := (blk_cell BK137.out 0).trans rfl; have hcz35_1 : w33.cell? ⟨gb137, 1, none⟩ = some (.int .i64 0) := (blk_cell BK137.out 1).trans rfl; have hfz35_0 := blk_frozen BK137.out 0; have hfz35_1 := blk_frozen BK137.out 1; have hcz36_0 : w33.cell? ⟨gb128, 0, none⟩ = some (.int .i64 ((rd_T31 l0 x12_1).f0)) := (blk_cell BK128.out 0).trans rfl; have hcz36_1 : w33.cell? ⟨gb128, 1, none⟩ = some (.int .i64 ((rd_T31 l0 x12_1).f1)) := (blk_cell BK128.out 1).trans rfl; have hfz36_0 := blk_frozen BK128.out 0; have hfz36_1 := blk_frozen BK128.out 1)))
                                          go_roundg k4
                                          case measure => have := HK1.out; have := HJ5.out; have := HJ14.out; have := HK4.out; omega
                                          case rel => exact ⟨(wrap64 (x44_4 + 1)), (by first | rfl | (simp; done) | (simp [*]; done)), H', ⟨by have := HK1.out; have := HJ5.out; have := HJ14.out; have := HK4.out; omega⟩, ⟨by (with_reducible repeat (first | refine blk_drewN ?_ _ | refine blk_drew ?_ | refine blk_alloc ?_ _)); refine blk_far ?_ NB128_137.out _; (with_reducible repeat (first | refine blk_drewN ?_ _ | refine blk_drew ?_ | refine blk_alloc ?_ _)); refine blk_far ?_ NB128_137.out _; (with_reducible repeat (first | refine blk_drewN ?_ _ | refine blk_drew ?_ | refine blk_alloc ?_ _)); exact BK128.out⟩, ⟨by repeat (first | (with_reducible first | exact HB.out | apply below_alloc | apply pw_below_drewN | apply below_drew1 | refine below_set ?_ GE128.out | refine below_set ?_ GE137.out) | exact HB.out)⟩⟩
                                      · rw [if_neg c27] at H
                                        exact absurd H (by simp)
                                    · rw [if_neg c26] at H
                                      exact absurd H (by simp)
                                  · rw [if_neg c25] at H
                                    have c25b0 : decide (x44_4 < (y132.length : Int)) = false := decide_eq_false c25
                                    clear c25
                                    have H' := Aside0.mk H
                                    clear H
                                    go_wp2
                                    repeat (go_quiet (fail); try go_wp2)
                                    go_roundg k4
                                    case measure => have := HK1.out; have := HJ5.out; have := HJ14.out; have := HK4.out; omega
                                    case rel => exact ⟨(wrap64 (x12_1 + 1)), (by first | rfl | (simp; done) | (simp [*]; done)), H', ⟨by have := HK1.out; have := HJ5.out; have := HJ14.out; have := HK4.out; omega⟩, ⟨by repeat (first | (with_reducible first | exact HB.out | apply below_alloc | apply pw_below_drewN | apply below_drew1 | refine below_set ?_ GE128.out) | exact HB.out)⟩⟩
                            · rw [if_neg c23] at H
                              exact absurd H (by simp)
                          · rw [if_neg c22] at H
                            exact absurd H (by simp)
            · rw [if_neg c5] at H
              exact absurd H (by simp)
          · rw [if_neg c4] at H
            exact absurd H (by simp)
        · rw [if_neg c3] at H
          have c3b0 : decide (x12_1 < (l0.length : Int)) = false := decide_eq_false c3
          clear c3
          obtain rfl := Option.some.inj H
          go_wp2
          repeat (go_quiet (fail); try go_wp2)
          go_ret
          exact ⟨by first | rfl | (simp [errW_none, errW_some] <;> rfl) | (simp [*, errW_none, errW_some] <;> rfl), by repeat (first | (with_reducible first | exact HB.out | apply below_alloc | apply pw_below_drewN | apply below_drew1) | exact HB.out)⟩

end Go.Proofs.Ytcalkhlchjjalaa.Q

namespace Go.Proofs.Ytcalkhlchjjalaa.Q
open Go.RowKit Go.Proofs.YtcalkhlchjjalaaW.PrintWords Go.Proofs.YtcalkhlchjjalaaW.PrintLast Go.Proofs.YtcalkhlchjjalaaW.PrintMore Go.Proofs.Ytcalkhlchjjalaa.Gput
attribute [local go_sem] max2_int min2_int max_two min_two max_three min_three max_four min_four   -- for this text's walks alone
set_option linter.unusedVariables false
set_option linter.unusedSimpArgs false

/-! ### storagebarterref14_Find: function 15 -/
def storagebarterref14_Find.l0 : Nat → Int → List (S31) → Int → Int → Option (Int × Int × Bool)
  | 0, _, _, _, _ => none
  | k + 1, x1, x12, x13, x14 => if x14 < x13 then (if 0 ≤ x14 then (if x14 < (x12.length : Int) then (if ((rd_T31 x12 x14).f0) = x1 then (some ((rd_T31 x12 x14).f0, (rd_T31 x12 x14).f1, true)) else (storagebarterref14_Find.l0 k x1 x12 x13 (wrap64 (x14 + 1)))) else (none)) else (none)) else (some (0, 0, false))
def storagebarterref14_Find.f (k : Nat) (l0 : List (S31)) (a1 : Int) : Option (Int × Int × Bool) := (storagebarterref14_Check.f k l0).bind fun t139 => (if t139 = 0 then (storagebarterref14_Find.l0 k a1 l0 (l0.length : Int) 0) else (some (0, 0, false)))
theorem storagebarterref14_Find.mono_l : ∀ k, (∀ y0 y1 y2 y3, LeO (storagebarterref14_Find.l0 k y0 y1 y2 y3) (storagebarterref14_Find.l0 (k + 1) y0 y1 y2 y3))
  | 0 => fun _ _ _ _ r h => by simp [storagebarterref14_Find.l0] at h
  | k + 1 => by
    have ih0 := storagebarterref14_Find.mono_l k
    · intro y0 y1 y2 y3
      unfold storagebarterref14_Find.l0
      repeat' first
      | (with_reducible exact ih0 _ _ _ _)
      | (with_reducible exact storagebarterref14_Check.mono _ _)
      | (with_reducible exact LeO.refl _)
      | (with_reducible exact LeO.none _)
      | (with_reducible refine LeO.ite ?_ ?_)
      | (with_reducible refine LeO.bind ?_ (fun _ => ?_))
      | exact ih0 _ _ _ _
      | exact storagebarterref14_Check.mono _ _
      | exact LeO.none _
      | refine LeO.ite ?_ ?_
      | refine LeO.bind ?_ (fun _ => ?_)
theorem storagebarterref14_Find.mono : ∀ a0 a1 k, LeO (storagebarterref14_Find.f k a0 a1) (storagebarterref14_Find.f (k + 1) a0 a1) := by
  intro a0 a1 k
  have ih0 := storagebarterref14_Find.mono_l k
  unfold storagebarterref14_Find.f
  repeat' first
      | (with_reducible exact ih0 _ _ _ _)
      | (with_reducible exact storagebarterref14_Check.mono _ _)
      | (with_reducible exact LeO.refl _)
      | (with_reducible exact LeO.none _)
      | (with_reducible refine LeO.ite ?_ ?_)
      | (with_reducible refine LeO.bind ?_ (fun _ => ?_))
      | exact ih0 _ _ _ _
      | exact storagebarterref14_Check.mono _ _
      | exact LeO.none _
      | refine LeO.ite ?_ ?_
      | refine LeO.bind ?_ (fun _ => ?_)
set_option maxHeartbeats 8000000 in
set_option maxRecDepth 100000 in
theorem storagebarterref14_Find.calls (k : Nat) (A0 : Option Addr) (c0 : Nat) (l0 : List (S31)) (a1 : Int) (r1 : Int) (r2 : Int) (r3 : Bool) (w : World) (hr0 : Kd.C k31 w A0 l0.length l0) (hc0 : l0.length ≤ c0) (h : storagebarterref14_Find.f k l0 a1 = some (r1, r2, r3)) :
    Calls Try.prog 15 #[.slice A0 l0.length c0, .int .i64 a1] w fun e w' => e = .returned (.tuple #[.agg #[.int .i64 r1, .int .i64 r2], .bool r3]) ∧ Below w.heap.size w w' := by
  have hu31 := Try.underlying31
  have HR0 := Aside0.mk hr0
  have HC0 := Aside0.mk hc0
  clear hr0 hc0
  have HB := Aside0.mk (Below.refl w.heap.size w)
  have H : ((storagebarterref14_Check.f k l0).bind fun t139 => (if t139 = 0 then (storagebarterref14_Find.l0 k a1 l0 (l0.length : Int) 0) else (some (0, 0, false)))) = some (r1, r2, r3) := h
  clear h
  replace H := Option.bind_eq_some_iff.mp H
  obtain ⟨t139, A30, H⟩ := H
  replace H : (if t139 = 0 then (storagebarterref14_Find.l0 k a1 l0 (l0.length : Int) 0) else (some (0, 0, false))) = some (r1, r2, r3) := H
  have A3 := Aside0.mk A30
  clear A30
  by_cases c4 : t139 = 0
  · rw [if_pos c4] at H
    have c4b0 : (t139 == 0) = true := beq_iff_eq.mpr c4
    have c4b1 : (t139 != 0) = false := bne_eq_false_iff_eq.mpr c4
    clear c4
    have H' := Aside0.mk H
    clear H
    go_enter Try.func15, Try.ntmps15
    go_wp2_with (first | ((with_reducible refine gate_dst (N := 4) rfl ?_); refine box_event ?hg (N := 4) ?hd (cs := #[.int .i64 0, .int .i64 0]) (t := 31) ?hr ?_; (case hd => rfl); (case hg => rfl); (case hr => first | (go_simp; done) | (go_simp; rfl)); intro gb138 hg w5 hbox hb; have n0_ := Aside0.mk (below_step (by repeat (first | (with_reducible first | exact HB.out | apply below_alloc | apply pw_below_drewN | apply below_drew1) | exact HB.out)) hb); have n1_ := Aside0.mk (hbox); have n2_ := Aside0.mk ((by rw [hg]; exact (below_size (by repeat (first | (with_reducible first | exact HB.out | apply below_alloc | apply pw_below_drewN | apply below_drew1) | exact HB.out))) : w.heap.size ≤ gb138)); have n3_ := Aside0.mk ((by rw [hg]; exact (below_size (by repeat (first | (with_reducible first | exact HB.out | apply below_alloc | apply pw_below_drewN | apply below_drew1) | exact HB.out))) : w.heap.size ≤ gb138)); clear HB; have HB := n0_; have BK138 := n1_; have GW138 := n2_; have GE138 := n3_; clear n0_ n1_ n2_ n3_; clear hb hbox hg) | ((with_reducible refine gate_callee (f := 12) rfl ?_); refine goesL_ (some 9) rfl rfl Try.func12 (by kernel_rfl) rfl #[.slice A0 l0.length c0] rfl (by (try simp only [List.map_toArray, List.map_cons, List.map_nil]); first | done | rfl | (simp only [List.length_drop, List.length_take]; rfl)) ?_; (with_reducible refine (storagebarterref14_Check.calls k _ _ l0 t139 _ ?side1 ?side2 A3.out).mono ?_); (case side1 => repeat (first | exact (Kd.C_below HR0.out HB.out) | (with_reducible refine Kd.C_alloc ?_ _) | (with_reducible refine Kd.C_drewN ?_ _) | (with_reducible refine Kd.C_drew ?_))); (case side2 => exact HC0.out); rintro e w6 ⟨rfl, hb⟩; refine ⟨_, rfl, ?_⟩; have n0_ := Aside0.mk (blk_below (g := gb138) (o := .cells #[.int .i64 0, .int .i64 0] 31 (0, 0)) (by (with_reducible repeat (first | refine blk_drewN ?_ _ | refine blk_drew ?_ | refine blk_alloc ?_ _)); exact BK138.out) hb); have n1_ := Aside0.mk (below_step (by repeat (first | (with_reducible first | exact HB.out | apply below_alloc | apply pw_below_drewN | apply below_drew1 | refine below_set ?_ GE138.out) | exact HB.out)) hb); clear BK138; clear HB; have BK138 := n0_; have HB := n1_; clear n0_ n1_; (try clear hb); (try clear hb2); (try clear hk); (try clear hi)))
    go_loopg [14] k (fun kq v14 w' => ∃ (x14_1 : Int) (x139000_1 : Int) (x139001_1 : Int), v14 = .int .i64 x14_1 ∧ Aside0 (storagebarterref14_Find.l0 kq a1 l0 (l0.length : Int) x14_1 = some (r1, r2, r3)) ∧ Aside0 (kq ≤ k) ∧ Aside0 (w'.heap[gb138]? = some (.cells #[.int .i64 x139000_1, .int .i64 x139001_1] 31 (0, 0))) ∧ Aside0 (Below w.heap.size w w'))
    case atStart => exact ⟨(0), (0), (0), (by first | rfl | (simp; done) | (simp [*]; done)), H', ⟨Nat.le_refl _⟩, ⟨by (with_reducible repeat (first | refine blk_drewN ?_ _ | refine blk_drew ?_ | refine blk_alloc ?_ _)); exact BK138.out⟩, ⟨by repeat (first | (with_reducible first | exact HB.out | apply below_alloc | apply pw_below_drewN | apply below_drew1 | refine below_set ?_ GE138.out) | exact HB.out)⟩⟩
    case round =>
      clear H'
      try clear c1
      try clear p2
      try clear c4
      try clear c4b0
      try clear c4b1
      obtain ⟨x14_1, x139000_1, x139001_1, rfl, HA, HK1, BK138, HB⟩ := hrel
      cases gk with
      | zero => exact absurd HA.out (by simp [storagebarterref14_Find.l0])
      | succ k1 =>
        have H := HA.out
        clear HA
        simp only [storagebarterref14_Find.l0] at H
        by_cases c7 : x14_1 < (l0.length : Int)
        · rw [if_pos c7] at H
          have c7b0 : decide (x14_1 < (l0.length : Int)) = true := decide_eq_true c7
          clear c7
          by_cases c8 : 0 ≤ x14_1
          · rw [if_pos c8] at H
            have c8b0 : decide (0 ≤ x14_1) = true := decide_eq_true c8
            clear c8
            by_cases c9 : x14_1 < (l0.length : Int)
            · rw [if_pos c9] at H
              have c9b0 : decide (x14_1 < (l0.length : Int)) = true := decide_eq_true c9
              clear c9
              by_cases c10 : ((rd_T31 l0 x14_1).f0) = a1
              · rw [if_pos c10] at H
                have c10b0 : (((rd_T31 l0 x14_1).f0) == a1) = true := beq_iff_eq.mpr c10
                have c10b1 : (((rd_T31 l0 x14_1).f0) != a1) = false := bne_eq_false_iff_eq.mpr c10
                clear c10
                simp only [Option.some.injEq, Prod.mk.injEq] at H
                obtain ⟨rfl, rfl, rfl⟩ := H
                have p140 : 0 ≤ (x14_1 : Int) := of_decide_eq_true (by first | (with_reducible assumption) | assumption)
                have q140 : x14_1 < (l0.length : Int) := of_decide_eq_true (by first | (with_reducible assumption) | assumption)
                obtain ⟨ad140, e140, hx140_0, hx140_1⟩ := at_T31 HR0.out x14_1 p140 q140
                cases e140
                replace hx140_0 := (HB.out.cell (World.block_lt_of_cell? w _ hx140_0)).trans hx140_0
                replace hx140_1 := (HB.out.cell (World.block_lt_of_cell? w _ hx140_1)).trans hx140_1
                replace p140 := eq_true p140
                replace q140 := eq_true q140
                go_wp2_with (first | ((with_reducible refine gate_dst (N := 7) rfl ?_); refine box_event ?hg (N := 7) ?hd (cs := #[.int .i64 0, .int .i64 0]) (t := 31) ?hr ?_; (case hd => rfl); (case hg => rfl); (case hr => first | (go_simp; done) | (go_simp; rfl)); intro gb141 hg w11 hbox hb; have n0_ := Aside0.mk (blk_below (g := gb138) (o := .cells #[.int .i64 x139000_1, .int .i64 x139001_1] 31 (0, 0)) (by (with_reducible repeat (first | refine blk_drewN ?_ _ | refine blk_drew ?_ | refine blk_alloc ?_ _)); exact BK138.out) hb); have n1_ := Aside0.mk (below_step (by repeat (first | (with_reducible first | exact HB.out | apply below_alloc | apply pw_below_drewN | apply below_drew1 | refine below_set ?_ GE138.out) | exact HB.out)) hb); have n2_ := Aside0.mk (hbox); have n3_ := Aside0.mk ((by rw [hg]; exact (below_size (by repeat (first | (with_reducible first | exact HB.out | apply below_alloc | apply pw_below_drewN | apply below_drew1 | refine below_set ?_ GE138.out) | exact HB.out))) : w.heap.size ≤ gb141)); have n4_ := Aside0.mk ((by rw [hg]; exact (below_size (by repeat (first | (with_reducible first | exact HB.out | apply below_alloc | apply pw_below_drewN | apply below_drew1 | refine below_set ?_ GE138.out) | exact HB.out))) : w.heap.size ≤ gb141)); have n5_ := Aside0.mk ((by rw [hg]; exact Nat.ne_of_lt (blk_lt (g := gb138) (o := .cells #[.int .i64 x139000_1, .int .i64 x139001_1] 31 (0, 0)) (by (with_reducible repeat (first | refine blk_drewN ?_ _ | refine blk_drew ?_ | refine blk_alloc ?_ _)); exact BK138.out)) : gb138 ≠ gb141)); have n6_ := Aside0.mk ((by rw [hg]; exact Nat.ne_of_gt (blk_lt (g := gb138) (o := .cells #[.int .i64 x139000_1, .int .i64 x139001_1] 31 (0, 0)) (by (with_reducible repeat (first | refine blk_drewN ?_ _ | refine blk_drew ?_ | refine blk_alloc ?_ _)); exact BK138.out)) : gb141 ≠ gb138)); clear BK138; clear HB; have BK138 := n0_; have HB := n1_; have BK141 := n2_; have GW141 := n3_; have GE141 := n4_; have NB138_141 := n5_; have NB141_138 := n6_; clear n0_ n1_ n2_ n3_ n4_ n5_ n6_; clear hb hbox hg; have hnb12 := NB141_138.out; have hnc12 := NB138_141.out; have hcz13_0 : w11.cell? ⟨gb141, 0, none⟩ = some (.int .i64 0) := (blk_cell BK141.out 0).trans rfl; have hcz13_1 : w11.cell? ⟨gb141, 1, none⟩ = some (.int .i64 0) := (blk_cell BK141.out 1).trans rfl; have hfz13_0 := blk_frozen BK141.out 0; have hfz13_1 := blk_frozen BK141.out 1; have hcz14_0 : w11.cell? ⟨gb138, 0, none⟩ = some (.int .i64 x139000_1) := (blk_cell BK138.out 0).trans rfl; have hcz14_1 : w11.cell? ⟨gb138, 1, none⟩ = some (.int .i64 x139001_1) := (blk_cell BK138.out 1).trans rfl; have hfz14_0 := blk_frozen BK138.out 0; have hfz14_1 := blk_frozen BK138.out 1))
                refine bodyPost_ret (results_ct rfl _ _ gb138 31 #[.int .i64 ((rd_T31 l0 x14_1).f0), .int .i64 ((rd_T31 l0 x14_1).f1)] (0, 0) _ rfl (by (with_reducible repeat (first | refine blk_drewN ?_ _ | refine blk_drew ?_ | refine blk_alloc ?_ _)); refine blk_put (cs := #[.int .i64 ((rd_T31 l0 x14_1).f0), .int .i64 x139001_1]) ?_ 1 _ rfl; (with_reducible repeat (first | refine blk_drewN ?_ _ | refine blk_drew ?_ | refine blk_alloc ?_ _)); refine blk_put (cs := #[.int .i64 x139000_1, .int .i64 x139001_1]) ?_ 0 _ rfl; (with_reducible repeat (first | refine blk_drewN ?_ _ | refine blk_drew ?_ | refine blk_alloc ?_ _)); refine blk_far ?_ NB138_141.out _; (with_reducible repeat (first | refine blk_drewN ?_ _ | refine blk_drew ?_ | refine blk_alloc ?_ _)); refine blk_far ?_ NB138_141.out _; (with_reducible repeat (first | refine blk_drewN ?_ _ | refine blk_drew ?_ | refine blk_alloc ?_ _)); exact BK138.out) Try.underlying31 rfl (by kernel_rfl)) rfl ?_
                exact ⟨by first | rfl | (simp [errW_none, errW_some] <;> rfl) | (simp [*, errW_none, errW_some] <;> rfl), by repeat (first | (with_reducible first | exact HB.out | apply below_alloc | apply pw_below_drewN | apply below_drew1 | refine below_set ?_ GE138.out | refine below_set ?_ GE141.out) | exact HB.out)⟩
              · rw [if_neg c10] at H
                have c10b0 : (((rd_T31 l0 x14_1).f0) == a1) = false := beq_eq_false_iff_ne.mpr c10
                have c10b1 : (((rd_T31 l0 x14_1).f0) != a1) = true := bne_iff_ne.mpr c10
                have H' := Aside0.mk H
                clear H
                have p140 : 0 ≤ (x14_1 : Int) := of_decide_eq_true (by first | (with_reducible assumption) | assumption)
                have q140 : x14_1 < (l0.length : Int) := of_decide_eq_true (by first | (with_reducible assumption) | assumption)
                obtain ⟨ad140, e140, hx140_0, hx140_1⟩ := at_T31 HR0.out x14_1 p140 q140
                cases e140
                replace hx140_0 := (HB.out.cell (World.block_lt_of_cell? w _ hx140_0)).trans hx140_0
                replace hx140_1 := (HB.out.cell (World.block_lt_of_cell? w _ hx140_1)).trans hx140_1
                replace p140 := eq_true p140
                replace q140 := eq_true q140
                go_wp2_with (first | ((with_reducible refine gate_dst (N := 7) rfl ?_); refine box_event ?hg (N := 7) ?hd (cs := #[.int .i64 0, .int .i64 0]) (t := 31) ?hr ?_; (case hd => rfl); (case hg => rfl); (case hr => first | (go_simp; done) | (go_simp; rfl)); intro gb141 hg w15 hbox hb; have n0_ := Aside0.mk (blk_below (g := gb138) (o := .cells #[.int .i64 x139000_1, .int .i64 x139001_1] 31 (0, 0)) (by (with_reducible repeat (first | refine blk_drewN ?_ _ | refine blk_drew ?_ | refine blk_alloc ?_ _)); exact BK138.out) hb); have n1_ := Aside0.mk (below_step (by repeat (first | (with_reducible first | exact HB.out | apply below_alloc | apply pw_below_drewN | apply below_drew1 | refine below_set ?_ GE138.out) | exact HB.out)) hb); have n2_ := Aside0.mk (hbox); have n3_ := Aside0.mk ((by rw [hg]; exact (below_size (by repeat (first | (with_reducible first | exact HB.out | apply below_alloc | apply pw_below_drewN | apply below_drew1 | refine below_set ?_ GE138.out) | exact HB.out))) : w.heap.size ≤ gb141)); have n4_ := Aside0.mk ((by rw [hg]; exact (below_size (by repeat (first | (with_reducible first | exact HB.out | apply below_alloc | apply pw_below_drewN | apply below_drew1 | refine below_set ?_ GE138.out) | exact HB.out))) : w.heap.size ≤ gb141)); have n5_ := Aside0.mk ((by rw [hg]; exact Nat.ne_of_lt (blk_lt (g := gb138) (o := .cells #[.int .i64 x139000_1, .int .i64 x139001_1] 31 (0, 0)) (by (with_reducible repeat (first | refine blk_drewN ?_ _ | refine blk_drew ?_ | refine blk_alloc ?_ _)); exact BK138.out)) : gb138 ≠ gb141)); have n6_ := Aside0.mk ((by rw [hg]; exact Nat.ne_of_gt (blk_lt (g := gb138) (o := .cells #[.int .i64 x139000_1, .int .i64 x139001_1] 31 (0, 0)) (by (with_reducible repeat (first | refine blk_drewN ?_ _ | refine blk_drew ?_ | refine blk_alloc ?_ _)); exact BK138.out)) : gb141 ≠ gb138)); clear BK138; clear HB; have BK138 := n0_; have HB := n1_; have BK141 := n2_; have GW141 := n3_; have GE141 := n4_; have NB138_141 := n5_; have NB141_138 := n6_; clear n0_ n1_ n2_ n3_ n4_ n5_ n6_; clear hb hbox hg; have hnb16 := NB141_138.out; have hnc16 := NB138_141.out; have hcz17_0 : w15.cell? ⟨gb141, 0, none⟩ = some (.int .i64 0) := (blk_cell BK141.out 0).trans rfl; have hcz17_1 : w15.cell? ⟨gb141, 1, none⟩ = some (.int .i64 0) := (blk_cell BK141.out 1).trans rfl; have hfz17_0 := blk_frozen BK141.out 0; have hfz17_1 := blk_frozen BK141.out 1))
                go_roundg k1
                case measure => have := HK1.out; omega
                case rel => exact ⟨(wrap64 (x14_1 + 1)), (x139000_1), (x139001_1), (by first | rfl | (simp; done) | (simp [*]; done)), H', ⟨by have := HK1.out; omega⟩, ⟨by (with_reducible repeat (first | refine blk_drewN ?_ _ | refine blk_drew ?_ | refine blk_alloc ?_ _)); refine blk_far ?_ NB138_141.out _; (with_reducible repeat (first | refine blk_drewN ?_ _ | refine blk_drew ?_ | refine blk_alloc ?_ _)); refine blk_far ?_ NB138_141.out _; (with_reducible repeat (first | refine blk_drewN ?_ _ | refine blk_drew ?_ | refine blk_alloc ?_ _)); exact BK138.out⟩, ⟨by repeat (first | (with_reducible first | exact HB.out | apply below_alloc | apply pw_below_drewN | apply below_drew1 | refine below_set ?_ GE138.out | refine below_set ?_ GE141.out) | exact HB.out)⟩⟩
            · rw [if_neg c9] at H
              exact absurd H (by simp)
          · rw [if_neg c8] at H
            exact absurd H (by simp)
        · rw [if_neg c7] at H
          have c7b0 : decide (x14_1 < (l0.length : Int)) = false := decide_eq_false c7
          clear c7
          simp only [Option.some.injEq, Prod.mk.injEq] at H
          obtain ⟨rfl, rfl, rfl⟩ := H
          have hcz18_0 : wr.cell? ⟨gb138, 0, none⟩ = some (.int .i64 x139000_1) := (blk_cell BK138.out 0).trans rfl
          have hcz18_1 : wr.cell? ⟨gb138, 1, none⟩ = some (.int .i64 x139001_1) := (blk_cell BK138.out 1).trans rfl
          have hfz18_0 := blk_frozen BK138.out 0
          have hfz18_1 := blk_frozen BK138.out 1
          go_wp2
          refine bodyPost_ret (results_ct rfl _ _ gb138 31 #[.int .i64 0, .int .i64 0] (0, 0) _ rfl (by (with_reducible repeat (first | refine blk_drewN ?_ _ | refine blk_drew ?_ | refine blk_alloc ?_ _)); refine blk_put (cs := #[.int .i64 0, .int .i64 x139001_1]) ?_ 1 _ rfl; (with_reducible repeat (first | refine blk_drewN ?_ _ | refine blk_drew ?_ | refine blk_alloc ?_ _)); refine blk_put (cs := #[.int .i64 x139000_1, .int .i64 x139001_1]) ?_ 0 _ rfl; (with_reducible repeat (first | refine blk_drewN ?_ _ | refine blk_drew ?_ | refine blk_alloc ?_ _)); exact BK138.out) Try.underlying31 rfl (by kernel_rfl)) rfl ?_
          exact ⟨by first | rfl | (simp [errW_none, errW_some] <;> rfl) | (simp [*, errW_none, errW_some] <;> rfl), by repeat (first | (with_reducible first | exact HB.out | apply below_alloc | apply pw_below_drewN | apply below_drew1 | refine below_set ?_ GE138.out) | exact HB.out)⟩
  · rw [if_neg c4] at H
    have c4b0 : (t139 == 0) = false := beq_eq_false_iff_ne.mpr c4
    have c4b1 : (t139 != 0) = true := bne_iff_ne.mpr c4
    simp only [Option.some.injEq, Prod.mk.injEq] at H
    obtain ⟨rfl, rfl, rfl⟩ := H
    go_enter Try.func15, Try.ntmps15
    go_wp2_with (first | ((with_reducible refine gate_dst (N := 4) rfl ?_); refine box_event ?hg (N := 4) ?hd (cs := #[.int .i64 0, .int .i64 0]) (t := 31) ?hr ?_; (case hd => rfl); (case hg => rfl); (case hr => first | (go_simp; done) | (go_simp; rfl)); intro gb138 hg w19 hbox hb; have n0_ := Aside0.mk (below_step (by repeat (first | (with_reducible first | exact HB.out | apply below_alloc | apply pw_below_drewN | apply below_drew1) | exact HB.out)) hb); have n1_ := Aside0.mk (hbox); have n2_ := Aside0.mk ((by rw [hg]; exact (below_size (by repeat (first | (with_reducible first | exact HB.out | apply below_alloc | apply pw_below_drewN | apply below_drew1) | exact HB.out))) : w.heap.size ≤ gb138)); have n3_ := Aside0.mk ((by rw [hg]; exact (below_size (by repeat (first | (with_reducible first | exact HB.out | apply below_alloc | apply pw_below_drewN | apply below_drew1) | exact HB.out))) : w.heap.size ≤ gb138)); clear HB; have HB := n0_; have BK138 := n1_; have GW138 := n2_; have GE138 := n3_; clear n0_ n1_ n2_ n3_; clear hb hbox hg) | ((with_reducible refine gate_callee (f := 12) rfl ?_); refine goesL_ (some 9) rfl rfl Try.func12 (by kernel_rfl) rfl #[.slice A0 l0.length c0] rfl (by (try simp only [List.map_toArray, List.map_cons, List.map_nil]); first | done | rfl | (simp only [List.length_drop, List.length_take]; rfl)) ?_; (with_reducible refine (storagebarterref14_Check.calls k _ _ l0 t139 _ ?side1 ?side2 A3.out).mono ?_); (case side1 => repeat (first | exact (Kd.C_below HR0.out HB.out) | (with_reducible refine Kd.C_alloc ?_ _) | (with_reducible refine Kd.C_drewN ?_ _) | (with_reducible refine Kd.C_drew ?_))); (case side2 => exact HC0.out); rintro e w20 ⟨rfl, hb⟩; refine ⟨_, rfl, ?_⟩; have n0_ := Aside0.mk (blk_below (g := gb138) (o := .cells #[.int .i64 0, .int .i64 0] 31 (0, 0)) (by (with_reducible repeat (first | refine blk_drewN ?_ _ | refine blk_drew ?_ | refine blk_alloc ?_ _)); exact BK138.out) hb); have n1_ := Aside0.mk (below_step (by repeat (first | (with_reducible first | exact HB.out | apply below_alloc | apply pw_below_drewN | apply below_drew1 | refine below_set ?_ GE138.out) | exact HB.out)) hb); clear BK138; clear HB; have BK138 := n0_; have HB := n1_; clear n0_ n1_; (try clear hb); (try clear hb2); (try clear hk); (try clear hi); have hcz21_0 : w20.cell? ⟨gb138, 0, none⟩ = some (.int .i64 0) := (blk_cell BK138.out 0).trans rfl; have hcz21_1 : w20.cell? ⟨gb138, 1, none⟩ = some (.int .i64 0) := (blk_cell BK138.out 1).trans rfl; have hfz21_0 := blk_frozen BK138.out 0; have hfz21_1 := blk_frozen BK138.out 1))
    refine bodyPost_ret (results_ct rfl _ _ gb138 31 #[.int .i64 0, .int .i64 0] (0, 0) _ rfl (by (with_reducible repeat (first | refine blk_drewN ?_ _ | refine blk_drew ?_ | refine blk_alloc ?_ _)); refine blk_put (cs := #[.int .i64 0, .int .i64 0]) ?_ 1 _ rfl; (with_reducible repeat (first | refine blk_drewN ?_ _ | refine blk_drew ?_ | refine blk_alloc ?_ _)); refine blk_put (cs := #[.int .i64 0, .int .i64 0]) ?_ 0 _ rfl; (with_reducible repeat (first | refine blk_drewN ?_ _ | refine blk_drew ?_ | refine blk_alloc ?_ _)); exact BK138.out) Try.underlying31 rfl (by kernel_rfl)) rfl ?_
    exact ⟨by first | rfl | (simp [errW_none, errW_some] <;> rfl) | (simp [*, errW_none, errW_some] <;> rfl), by repeat (first | (with_reducible first | exact HB.out | apply below_alloc | apply pw_below_drewN | apply below_drew1 | refine below_set ?_ GE138.out) | exact HB.out)⟩

end Go.Proofs.Ytcalkhlchjjalaa.Q

namespace Go.Proofs.Ytcalkhlchjjalaa.Q
open Go.RowKit Go.Proofs.YtcalkhlchjjalaaW.PrintWords Go.Proofs.YtcalkhlchjjalaaW.PrintLast Go.Proofs.YtcalkhlchjjalaaW.PrintMore Go.Proofs.Ytcalkhlchjjalaa.Gput
attribute [local go_sem] max2_int min2_int max_two min_two max_three min_three max_four min_four   -- for this text's walks alone
set_option linter.unusedVariables false
set_option linter.unusedSimpArgs false

/-! ### storagebarterref02_Sum: function 25 -/
def storagebarterref02_Sum.l0 : Nat → ByteArray → Int → Int → Option (Int)
  | 0, _, _, _ => none
  | k + 1, x0, x3, x4 => if x4 < (x0.size : Int) then (if 0 ≤ x4 then (storagebarterref02_Sum.l0 k x0 (Int.tmod (wrap64 ((wrap64 ((wrap64 (x3 * 1000003)) + (wrap64 (bt x0 x4)))) + 1)) 2147483647) (wrap64 (x4 + 1))) else (none)) else (some x3)
def storagebarterref02_Sum.f (k : Nat) (a0 : ByteArray) : Option (Int) := storagebarterref02_Sum.l0 k a0 1 0
theorem storagebarterref02_Sum.mono_l : ∀ k, (∀ y0 y1 y2, LeO (storagebarterref02_Sum.l0 k y0 y1 y2) (storagebarterref02_Sum.l0 (k + 1) y0 y1 y2))
  | 0 => fun _ _ _ r h => by simp [storagebarterref02_Sum.l0] at h
  | k + 1 => by
    have ih0 := storagebarterref02_Sum.mono_l k
    · intro y0 y1 y2
      unfold storagebarterref02_Sum.l0
      repeat' first
      | (with_reducible exact ih0 _ _ _)
      | (with_reducible exact LeO.refl _)
      | (with_reducible exact LeO.none _)
      | (with_reducible refine LeO.ite ?_ ?_)
      | (with_reducible refine LeO.bind ?_ (fun _ => ?_))
      | exact ih0 _ _ _
      | exact LeO.none _
      | refine LeO.ite ?_ ?_
      | refine LeO.bind ?_ (fun _ => ?_)
theorem storagebarterref02_Sum.mono : ∀ a0 k, LeO (storagebarterref02_Sum.f k a0) (storagebarterref02_Sum.f (k + 1) a0) := by
  intro a0 k
  have ih0 := storagebarterref02_Sum.mono_l k
  unfold storagebarterref02_Sum.f
  repeat' first
      | (with_reducible exact ih0 _ _ _)
      | (with_reducible exact LeO.refl _)
      | (with_reducible exact LeO.none _)
      | (with_reducible refine LeO.ite ?_ ?_)
      | (with_reducible refine LeO.bind ?_ (fun _ => ?_))
      | exact ih0 _ _ _
      | exact LeO.none _
      | refine LeO.ite ?_ ?_
      | refine LeO.bind ?_ (fun _ => ?_)
set_option maxHeartbeats 8000000 in
set_option maxRecDepth 100000 in
theorem storagebarterref02_Sum.calls (k : Nat) (a0 : ByteArray) (r : Int) (w : World) (h : storagebarterref02_Sum.f k a0 = some r) :
    Calls Try.prog 25 #[.string a0] w fun e w' => e = .returned (.int .i64 r) ∧ Drawn0 w w' := by
  have H : (storagebarterref02_Sum.l0 k a0 1 0) = some r := h
  clear h
  have H' := Aside0.mk H
  clear H
  go_enter Try.func25, Try.ntmps25
  go_wp2
  go_loopg [3, 4] k (fun kq v3 v4 w' => ∃ (x3_1 : Int) (x4_1 : Int), v3 = .int .i64 x3_1 ∧ v4 = .int .i64 x4_1 ∧ Aside0 (storagebarterref02_Sum.l0 kq a0 x3_1 x4_1 = some r) ∧ Aside0 (kq ≤ k) ∧ Drawn0 w w')
  case atStart => exact ⟨(1), (0), (by first | rfl | (simp; done) | (simp [*]; done)), (by first | rfl | (simp; done) | (simp [*]; done)), H', ⟨Nat.le_refl _⟩, by repeat (first | exact Drawn0.refl _ | apply Drawn0.step)⟩
  case round =>
    clear H'
    obtain ⟨x3_1, x4_1, rfl, rfl, HA, HK1, ⟨m1, rfl⟩⟩ := hrel
    cases gk with
    | zero => exact absurd HA.out (by simp [storagebarterref02_Sum.l0])
    | succ k1 =>
      have H := HA.out
      clear HA
      simp only [storagebarterref02_Sum.l0] at H
      by_cases c2 : x4_1 < (a0.size : Int)
      · rw [if_pos c2] at H
        have c2b0 : decide (x4_1 < (a0.size : Int)) = true := decide_eq_true c2
        clear c2
        by_cases c3 : 0 ≤ x4_1
        · rw [if_pos c3] at H
          have c3b0 : decide (0 ≤ x4_1) = true := decide_eq_true c3
          clear c3
          have H' := Aside0.mk H
          clear H
          have p4 : 0 ≤ (x4_1 : Int) := of_decide_eq_true (by first | (with_reducible assumption) | assumption)
          have q4 : x4_1 < (a0.size : Int) := of_decide_eq_true (by first | (with_reducible assumption) | assumption)
          have hx4 := bt_at a0 x4_1
          replace p4 := eq_true p4
          replace q4 := eq_true q4
          go_wp2
          go_roundg k1
          case measure => have := HK1.out; omega
          case rel => exact ⟨(Int.tmod (wrap64 ((wrap64 ((wrap64 (x3_1 * 1000003)) + (wrap64 (bt a0 x4_1)))) + 1)) 2147483647), (wrap64 (x4_1 + 1)), (by first | rfl | (simp; done) | (simp [*]; done)), (by first | rfl | (simp; done) | (simp [*]; done)), H', ⟨by have := HK1.out; omega⟩, by repeat (first | exact Drawn0.refl _ | apply Drawn0.step)⟩
        · rw [if_neg c3] at H
          exact absurd H (by simp)
      · rw [if_neg c2] at H
        have c2b0 : decide (x4_1 < (a0.size : Int)) = false := decide_eq_false c2
        clear c2
        obtain rfl := Option.some.inj H
        go_wp2
        go_ret
        exact ⟨by first | rfl | (simp; done) | (simp [*]; done), by repeat (first | exact Drawn0.refl _ | apply Drawn0.step)⟩

end Go.Proofs.Ytcalkhlchjjalaa.Q

namespace Go.Proofs.Ytcalkhlchjjalaa.Q
open Go.RowKit Go.Proofs.YtcalkhlchjjalaaW.PrintWords Go.Proofs.YtcalkhlchjjalaaW.PrintLast Go.Proofs.YtcalkhlchjjalaaW.PrintMore Go.Proofs.Ytcalkhlchjjalaa.Gput
attribute [local go_sem] max2_int min2_int max_two min_two max_three min_three max_four min_four   -- for this text's walks alone
set_option linter.unusedVariables false
set_option linter.unusedSimpArgs false

/-! ### storagebarterref01_PutInt: function 26 -/
def storagebarterref01_PutInt.l0 : Nat → ByteArray → Int → Option (ByteArray)
  | 0, _, _ => none
  | k + 1, x0, x5 => if x5 > 127 then ((some (([Go.bits .or .u8 ((x5) % 256) 128] : List Int) : List Int)).bind fun y142 => (if x0.size + (strOfNums y142).size ≤ 9223372036854775807 then (storagebarterref01_PutInt.l0 k (x0 ++ (strOfNums y142)) (x5 / 128)) else (none))) else ((some (([(x5) % 256] : List Int) : List Int)).bind fun y145 => (if x0.size + (strOfNums y145).size ≤ 9223372036854775807 then (some (x0 ++ (strOfNums y145))) else (none)))
def storagebarterref01_PutInt.f (k : Nat) (a0 : ByteArray) (a1 : Int) : Option (ByteArray) := storagebarterref01_PutInt.l0 k a0 (Go.bits .xor .u64 (IntKind.u64.wrap ((IntKind.u64.wrap (a1)) * 2)) (IntKind.u64.wrap (a1 / 9223372036854775808)))
theorem storagebarterref01_PutInt.mono_l : ∀ k, (∀ y0 y1, LeO (storagebarterref01_PutInt.l0 k y0 y1) (storagebarterref01_PutInt.l0 (k + 1) y0 y1))
  | 0 => fun _ _ r h => by simp [storagebarterref01_PutInt.l0] at h
  | k + 1 => by
    have ih0 := storagebarterref01_PutInt.mono_l k
    · intro y0 y1
      unfold storagebarterref01_PutInt.l0
      repeat' first
      | (with_reducible exact ih0 _ _)
      | (with_reducible exact LeO.refl _)
      | (with_reducible exact LeO.none _)
      | (with_reducible refine LeO.ite ?_ ?_)
      | (with_reducible refine LeO.bind ?_ (fun _ => ?_))
      | exact ih0 _ _
      | exact LeO.none _
      | refine LeO.ite ?_ ?_
      | refine LeO.bind ?_ (fun _ => ?_)
theorem storagebarterref01_PutInt.mono : ∀ a0 a1 k, LeO (storagebarterref01_PutInt.f k a0 a1) (storagebarterref01_PutInt.f (k + 1) a0 a1) := by
  intro a0 a1 k
  have ih0 := storagebarterref01_PutInt.mono_l k
  unfold storagebarterref01_PutInt.f
  repeat' first
      | (with_reducible exact ih0 _ _)
      | (with_reducible exact LeO.refl _)
      | (with_reducible exact LeO.none _)
      | (with_reducible refine LeO.ite ?_ ?_)
      | (with_reducible refine LeO.bind ?_ (fun _ => ?_))
      | exact ih0 _ _
      | exact LeO.none _
      | refine LeO.ite ?_ ?_
      | refine LeO.bind ?_ (fun _ => ?_)
set_option maxHeartbeats 8000000 in
set_option maxRecDepth 100000 in
theorem storagebarterref01_PutInt.calls (k : Nat) (a0 : ByteArray) (a1 : Int) (r : ByteArray) (w : World) (h : storagebarterref01_PutInt.f k a0 a1 = some r) :
    Calls Try.prog 26 #[.string a0, .int .i64 a1] w fun e w' => e = .returned (.string r) ∧ Below w.heap.size w w' := by
  have HB := Aside0.mk (Below.refl w.heap.size w)
  have H : (storagebarterref01_PutInt.l0 k a0 (Go.bits .xor .u64 (IntKind.u64.wrap ((IntKind.u64.wrap (a1)) * 2)) (IntKind.u64.wrap (a1 / 9223372036854775808)))) = some r := h
  clear h
  have H' := Aside0.mk H
  clear H
  go_enter Try.func26, Try.ntmps26
  go_wp2
  go_loopg [0, 5] k (fun kq v0 v5 w' => ∃ (x0_1 : ByteArray) (x5_1 : Int), v0 = .string x0_1 ∧ v5 = .int .u64 x5_1 ∧ Aside0 (storagebarterref01_PutInt.l0 kq x0_1 x5_1 = some r) ∧ Aside0 (kq ≤ k) ∧ Aside0 (Below w.heap.size w w'))
  case atStart => exact ⟨(a0), (Go.bits .xor .u64 (IntKind.u64.wrap ((IntKind.u64.wrap (a1)) * 2)) (IntKind.u64.wrap (a1 / 9223372036854775808))), (by first | rfl | (simp; done) | (simp [*]; done)), (by first | rfl | (simp; done) | (simp [*]; done)), H', ⟨Nat.le_refl _⟩, ⟨by repeat (first | (with_reducible first | exact HB.out | apply below_alloc | apply pw_below_drewN | apply below_drew1) | exact HB.out)⟩⟩
  case round =>
    clear H'
    try clear c2
    try clear p2
    obtain ⟨x0_1, x5_1, rfl, rfl, HA, HK1, HB⟩ := hrel
    cases gk with
    | zero => exact absurd HA.out (by simp [storagebarterref01_PutInt.l0])
    | succ k1 =>
      have H := HA.out
      clear HA
      simp only [storagebarterref01_PutInt.l0] at H
      by_cases c3 : x5_1 > 127
      · rw [if_pos c3] at H
        have c3b0 : decide (127 < x5_1) = true := decide_eq_true c3
        clear c3
        obtain ⟨y142, hy142⟩ : ∃ y_ : List Int, y_ = (([Go.bits .or .u8 ((x5_1) % 256) 128] : List Int)) := ⟨_, rfl⟩
        replace H : (if x0_1.size + (strOfNums y142).size ≤ 9223372036854775807 then (storagebarterref01_PutInt.l0 k1 (x0_1 ++ (strOfNums y142)) (x5_1 / 128)) else (none)) = some r := by first | (rw [hy142]; with_reducible exact H) | (have H2_ := (Option.bind_some _ _).symm.trans H; rw [hy142]; with_reducible exact H2_) | (have H2_ := (Option.bind_some _ _).symm.trans H; with_reducible exact H2_) | with_reducible exact H | (rw [hy142]; exact H) | exact H
        have Ny142 := Aside0.mk hy142
        clear hy142
        by_cases c4 : x0_1.size + (strOfNums y142).size ≤ 9223372036854775807
        · rw [if_pos c4] at H
          have c4b0 := eq_true c4
          have c4b1 : decide (x0_1.size + (strOfNums y142).size ≤ 9223372036854775807) = true := decide_eq_true c4
          try have c4b2 : (9223372036854775807 < x0_1.size + (strOfNums y142).size) = False := eq_false (Nat.not_lt.2 c4)
          have H' := Aside0.mk H
          clear H
          go_wp2_with (first | ((with_reducible refine gate_dst (N := 19) rfl ?_); refine Kd.R_lit (Kd.int .u8) _ 5 ?hg (N := 19) ?hd (xs := ([Go.bits .or .u8 ((x5_1) % 256) 128] : List Int)) (inner := [.int .u8 (Go.bits .or .u8 ((x5_1) % 256) 128)]) (ok := fun _ => True) (okp := fun _ => True) ?hr ?hp (fun _ hk => hk) trivial (Below.refl _ _) (Nat.le_refl _) (by simp) ?_; (case hd => rfl); (case hg => rfl); (case hr => first | (go_simp; done) | (go_simp; rfl)); (case hp => exact (Reps.one (show Kd.M (Kd.int .u8) _ _ _ (Go.bits .or .u8 ((x5_1) % 256) 128) [.int .u8 (Go.bits .or .u8 ((x5_1) % 256) 128)] from rfl) (Reps.none _ _))); intro v143 w5 ho6 hb hg_ hnew_; clear hg_ hnew_; (first | rw [← Ny142.out] at ho6 | (simp only [Int.reduceToNat] at ho6; rw [← Ny142.out] at ho6)); have n0_ := Aside0.mk (Kd.R_lower ho6 (below_size (by repeat (first | (with_reducible first | exact HB.out | apply below_alloc | apply pw_below_drewN | apply below_drew1) | exact HB.out)))); have n1_ := Aside0.mk (below_step (by repeat (first | (with_reducible first | exact HB.out | apply below_alloc | apply pw_below_drewN | apply below_drew1) | exact HB.out)) hb); clear HB; have HO144 := n0_; have HB := n1_; clear n0_ n1_; clear hb ho6; have hcv7 := own_string (P := Try.prog) Try.underlying43 Try.underlying5 Try.underlying9 (Kd.own_of_R HO144.out)))
          go_roundg k1
          case measure => have := HK1.out; omega
          case rel => exact ⟨(x0_1 ++ (strOfNums y142)), (x5_1 / 128), (by first | rfl | (simp; done) | (simp [*]; done)), (by first | rfl | (simp; done) | (simp [*]; done)), H', ⟨by have := HK1.out; omega⟩, ⟨by repeat (first | (with_reducible first | exact HB.out | apply below_alloc | apply pw_below_drewN | apply below_drew1) | exact HB.out)⟩⟩
        · rw [if_neg c4] at H
          exact absurd H (by simp)
      · rw [if_neg c3] at H
        have c3b0 : decide (127 < x5_1) = false := decide_eq_false c3
        clear c3
        obtain ⟨y145, hy145⟩ : ∃ y_ : List Int, y_ = (([(x5_1) % 256] : List Int)) := ⟨_, rfl⟩
        replace H : (if x0_1.size + (strOfNums y145).size ≤ 9223372036854775807 then (some (x0_1 ++ (strOfNums y145))) else (none)) = some r := by first | (rw [hy145]; with_reducible exact H) | (have H2_ := (Option.bind_some _ _).symm.trans H; rw [hy145]; with_reducible exact H2_) | (have H2_ := (Option.bind_some _ _).symm.trans H; with_reducible exact H2_) | with_reducible exact H | (rw [hy145]; exact H) | exact H
        have Ny145 := Aside0.mk hy145
        clear hy145
        by_cases c8 : x0_1.size + (strOfNums y145).size ≤ 9223372036854775807
        · rw [if_pos c8] at H
          have c8b0 := eq_true c8
          have c8b1 : decide (x0_1.size + (strOfNums y145).size ≤ 9223372036854775807) = true := decide_eq_true c8
          try have c8b2 : (9223372036854775807 < x0_1.size + (strOfNums y145).size) = False := eq_false (Nat.not_lt.2 c8)
          obtain rfl := Option.some.inj H
          go_wp2_with (first | ((with_reducible refine gate_dst (N := 27) rfl ?_); refine Kd.R_lit (Kd.int .u8) _ 5 ?hg (N := 27) ?hd (xs := ([(x5_1) % 256] : List Int)) (inner := [.int .u8 ((x5_1) % 256)]) (ok := fun _ => True) (okp := fun _ => True) ?hr ?hp (fun _ hk => hk) trivial (Below.refl _ _) (Nat.le_refl _) (by simp) ?_; (case hd => rfl); (case hg => rfl); (case hr => first | (go_simp; done) | (go_simp; rfl)); (case hp => exact (Reps.one (show Kd.M (Kd.int .u8) _ _ _ ((x5_1) % 256) [.int .u8 ((x5_1) % 256)] from rfl) (Reps.none _ _))); intro v146 w9 ho10 hb hg_ hnew_; clear hg_ hnew_; (first | rw [← Ny145.out] at ho10 | (simp only [Int.reduceToNat] at ho10; rw [← Ny145.out] at ho10)); have n0_ := Aside0.mk (Kd.R_lower ho10 (below_size (by repeat (first | (with_reducible first | exact HB.out | apply below_alloc | apply pw_below_drewN | apply below_drew1) | exact HB.out)))); have n1_ := Aside0.mk (below_step (by repeat (first | (with_reducible first | exact HB.out | apply below_alloc | apply pw_below_drewN | apply below_drew1) | exact HB.out)) hb); clear HB; have HO147 := n0_; have HB := n1_; clear n0_ n1_; clear hb ho10; have hcv11 := own_string (P := Try.prog) Try.underlying43 Try.underlying5 Try.underlying9 (Kd.own_of_R HO147.out)))
          go_ret
          exact ⟨by first | rfl | (simp [errW_none, errW_some] <;> rfl) | (simp [*, errW_none, errW_some] <;> rfl), by repeat (first | (with_reducible first | exact HB.out | apply below_alloc | apply pw_below_drewN | apply below_drew1) | exact HB.out)⟩
        · rw [if_neg c8] at H
          exact absurd H (by simp)

end Go.Proofs.Ytcalkhlchjjalaa.Q

namespace Go.Proofs.Ytcalkhlchjjalaa.Q
open Go.RowKit Go.Proofs.YtcalkhlchjjalaaW.PrintWords Go.Proofs.YtcalkhlchjjalaaW.PrintLast Go.Proofs.YtcalkhlchjjalaaW.PrintMore Go.Proofs.Ytcalkhlchjjalaa.Gput
attribute [local go_sem] max2_int min2_int max_two min_two max_three min_three max_four min_four   -- for this text's walks alone
set_option linter.unusedVariables false
set_option linter.unusedSimpArgs false

/-! ### storagebarterref14_Sign: function 16 -/
def storagebarterref14_Sign.f (k : Nat) (a0 : Int) (a1 : ByteArray) : Option (Int × Int) := (storagebarterref14_number.f a0).bind fun t148 => (if t148 = true then (if (a1.size : Int) > 16384 then (some (0, 4)) else ((storagebarterref01_PutInt.f k (⟨#[]⟩ : ByteArray) a0).bind fun t149 => (if t149.size + a1.size ≤ 9223372036854775807 then ((storagebarterref02_Sum.f k (t149 ++ a1)).bind fun t150 => (some (t150, 0))) else (none)))) else (some (0, 1)))
theorem storagebarterref14_Sign.mono : ∀ a0 a1 k, LeO (storagebarterref14_Sign.f k a0 a1) (storagebarterref14_Sign.f (k + 1) a0 a1) := by
  intro a0 a1 k
  unfold storagebarterref14_Sign.f
  repeat' first
      | (with_reducible exact storagebarterref01_PutInt.mono _ _ _)
      | (with_reducible exact storagebarterref02_Sum.mono _ _)
      | (with_reducible exact LeO.refl _)
      | (with_reducible exact LeO.none _)
      | (with_reducible refine LeO.ite ?_ ?_)
      | (with_reducible refine LeO.bind ?_ (fun _ => ?_))
      | exact storagebarterref01_PutInt.mono _ _ _
      | exact storagebarterref02_Sum.mono _ _
      | exact LeO.none _
      | refine LeO.ite ?_ ?_
      | refine LeO.bind ?_ (fun _ => ?_)
set_option maxHeartbeats 8000000 in
set_option maxRecDepth 100000 in
theorem storagebarterref14_Sign.calls (k : Nat) (a0 : Int) (a1 : ByteArray) (r1 : Int) (r2 : Int) (w : World) (h : storagebarterref14_Sign.f k a0 a1 = some (r1, r2)) :
    Calls Try.prog 16 #[.int .i64 a0, .string a1] w fun e w' => e = .returned (.tuple #[.int .i64 r1, .int .i64 r2]) ∧ Below w.heap.size w w' := by
  have HB := Aside0.mk (Below.refl w.heap.size w)
  have H : ((storagebarterref14_number.f a0).bind fun t148 => (if t148 = true then (if (a1.size : Int) > 16384 then (some (0, 4)) else ((storagebarterref01_PutInt.f k (⟨#[]⟩ : ByteArray) a0).bind fun t149 => (if t149.size + a1.size ≤ 9223372036854775807 then ((storagebarterref02_Sum.f k (t149 ++ a1)).bind fun t150 => (some (t150, 0))) else (none)))) else (some (0, 1)))) = some (r1, r2) := h
  clear h
  replace H := Option.bind_eq_some_iff.mp H
  obtain ⟨t148, A30, H⟩ := H
  replace H : (if t148 = true then (if (a1.size : Int) > 16384 then (some (0, 4)) else ((storagebarterref01_PutInt.f k (⟨#[]⟩ : ByteArray) a0).bind fun t149 => (if t149.size + a1.size ≤ 9223372036854775807 then ((storagebarterref02_Sum.f k (t149 ++ a1)).bind fun t150 => (some (t150, 0))) else (none)))) else (some (0, 1))) = some (r1, r2) := H
  have A3 := Aside0.mk A30
  clear A30
  by_cases c4 : t148 = true
  · subst c4
    have H1 : (if (a1.size : Int) > 16384 then (some (0, 4)) else ((storagebarterref01_PutInt.f k (⟨#[]⟩ : ByteArray) a0).bind fun t149 => (if t149.size + a1.size ≤ 9223372036854775807 then ((storagebarterref02_Sum.f k (t149 ++ a1)).bind fun t150 => (some (t150, 0))) else (none)))) = some (r1, r2) := by rw [if_pos rfl] at H; exact H
    clear H
    have H := H1
    clear H1
    by_cases c5 : (a1.size : Int) > 16384
    · rw [if_pos c5] at H
      have c5b0 : decide (16384 < (a1.size : Int)) = true := decide_eq_true c5
      have c5b1 : decide (16384 < a1.size) = true := decide_eq_true (by omega)
      clear c5
      simp only [Option.some.injEq, Prod.mk.injEq] at H
      obtain ⟨rfl, rfl⟩ := H
      go_enter Try.func16, Try.ntmps16
      go_wp2_with (first | ((with_reducible refine gate_callee (f := 21) rfl ?_); refine goesL_ (some 7) rfl rfl Try.func21 (by kernel_rfl) rfl #[.int .i64 a0] rfl (by (try simp only [List.map_toArray, List.map_cons, List.map_nil]); first | done | rfl | (simp only [List.length_drop, List.length_take]; rfl)) ?_; (with_reducible refine (storagebarterref14_number.calls a0 true _ A3.out).mono ?_); rintro e w' ⟨rfl, ⟨nd, rfl⟩⟩; refine ⟨_, rfl, ?_⟩))
      go_ret2
      exact ⟨by first | rfl | (simp [errW_none, errW_some] <;> rfl) | (simp [*, errW_none, errW_some] <;> rfl), by repeat (first | (with_reducible first | exact HB.out | apply below_alloc | apply pw_below_drewN | apply below_drew1) | exact HB.out)⟩
    · rw [if_neg c5] at H
      have c5b0 : decide (16384 < (a1.size : Int)) = false := decide_eq_false c5
      have c5b1 : decide (16384 < a1.size) = false := decide_eq_false (by omega)
      clear c5
      replace H := Option.bind_eq_some_iff.mp H
      obtain ⟨t149, A60, H⟩ := H
      replace H : (if t149.size + a1.size ≤ 9223372036854775807 then ((storagebarterref02_Sum.f k (t149 ++ a1)).bind fun t150 => (some (t150, 0))) else (none)) = some (r1, r2) := H
      have A6 := Aside0.mk A60
      clear A60
      by_cases c7 : t149.size + a1.size ≤ 9223372036854775807
      · rw [if_pos c7] at H
        have c7b0 := eq_true c7
        have c7b1 : decide (t149.size + a1.size ≤ 9223372036854775807) = true := decide_eq_true c7
        try have c7b2 : (9223372036854775807 < t149.size + a1.size) = False := eq_false (Nat.not_lt.2 c7)
        replace H := Option.bind_eq_some_iff.mp H
        obtain ⟨t150, A80, H⟩ := H
        replace H : (some (t150, 0)) = some (r1, r2) := H
        have A8 := Aside0.mk A80
        clear A80
        simp only [Option.some.injEq, Prod.mk.injEq] at H
        obtain ⟨rfl, rfl⟩ := H
        go_enter Try.func16, Try.ntmps16
        go_wp2_with (first | ((with_reducible refine gate_callee (f := 21) rfl ?_); refine goesL_ (some 7) rfl rfl Try.func21 (by kernel_rfl) rfl #[.int .i64 a0] rfl (by (try simp only [List.map_toArray, List.map_cons, List.map_nil]); first | done | rfl | (simp only [List.length_drop, List.length_take]; rfl)) ?_; (with_reducible refine (storagebarterref14_number.calls a0 true _ A3.out).mono ?_); rintro e w' ⟨rfl, ⟨nd, rfl⟩⟩; refine ⟨_, rfl, ?_⟩) | ((with_reducible refine gate_callee (f := 26) rfl ?_); refine goesL_ (some 13) rfl rfl Try.func26 (by kernel_rfl) rfl #[.string (⟨#[]⟩ : ByteArray), .int .i64 a0] rfl (by (try simp only [List.map_toArray, List.map_cons, List.map_nil]); first | done | rfl | (simp only [List.length_drop, List.length_take]; rfl)) ?_; (with_reducible refine (storagebarterref01_PutInt.calls k (⟨#[]⟩ : ByteArray) a0 t149 _ A6.out).mono ?_); rintro e w9 ⟨rfl, hb⟩; refine ⟨_, rfl, ?_⟩; have n0_ := Aside0.mk (below_step (by repeat (first | (with_reducible first | exact HB.out | apply below_alloc | apply pw_below_drewN | apply below_drew1) | exact HB.out)) hb); clear HB; have HB := n0_; clear n0_; (try clear hb); (try clear hb2); (try clear hk); (try clear hi)) | ((with_reducible refine gate_callee (f := 25) rfl ?_); refine goesL_ (some 16) rfl rfl Try.func25 (by kernel_rfl) rfl #[.string (t149 ++ a1)] rfl (by (try simp only [List.map_toArray, List.map_cons, List.map_nil]); first | done | rfl | (simp only [List.length_drop, List.length_take]; rfl)) ?_; (with_reducible refine (storagebarterref02_Sum.calls k (t149 ++ a1) t150 _ A8.out).mono ?_); rintro e w' ⟨rfl, ⟨nd, rfl⟩⟩; refine ⟨_, rfl, ?_⟩))
        go_ret2
        exact ⟨by first | rfl | (simp [errW_none, errW_some] <;> rfl) | (simp [*, errW_none, errW_some] <;> rfl), by repeat (first | (with_reducible first | exact HB.out | apply below_alloc | apply pw_below_drewN | apply below_drew1) | exact HB.out)⟩
      · rw [if_neg c7] at H
        exact absurd H (by simp)
  · replace c4 := Bool.eq_false_iff.mpr c4
    subst c4
    have H1 : (some (0, 1)) = some (r1, r2) := by rw [if_neg (show ¬ (false = true) by decide)] at H; exact H
    clear H
    have H := H1
    clear H1
    simp only [Option.some.injEq, Prod.mk.injEq] at H
    obtain ⟨rfl, rfl⟩ := H
    go_enter Try.func16, Try.ntmps16
    go_wp2_with (first | ((with_reducible refine gate_callee (f := 21) rfl ?_); refine goesL_ (some 7) rfl rfl Try.func21 (by kernel_rfl) rfl #[.int .i64 a0] rfl (by (try simp only [List.map_toArray, List.map_cons, List.map_nil]); first | done | rfl | (simp only [List.length_drop, List.length_take]; rfl)) ?_; (with_reducible refine (storagebarterref14_number.calls a0 false _ A3.out).mono ?_); rintro e w' ⟨rfl, ⟨nd, rfl⟩⟩; refine ⟨_, rfl, ?_⟩))
    go_ret2
    exact ⟨by first | rfl | (simp [errW_none, errW_some] <;> rfl) | (simp [*, errW_none, errW_some] <;> rfl), by repeat (first | (with_reducible first | exact HB.out | apply below_alloc | apply pw_below_drewN | apply below_drew1) | exact HB.out)⟩

end Go.Proofs.Ytcalkhlchjjalaa.Q
