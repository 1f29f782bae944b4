/- The bytes of every number, and what any bytes mean as a number, or the error. -/
import Derived.ProofKit
import Derived.Laws.Strings
import Derived.Test.YtpebhbhdkmpjeaaCWireInts1
import Derived.Test.YtpebhbhdkmpjeaaProg
import Derived.OpenShut
import Derived.Laws.BitsLemmas
import Derived.Test.YtpebhbhdkmpjeaaWMore
import Derived.Deep.LoopGhost
import Derived.WalkArith
import Derived.Below
import Derived.Deep.Draws
import Derived.Deep.AppendLies
import Derived.Maps.AppendAt
import Derived.OwnWalk
import Derived.Laws.BytesArg
import Derived.Laws.MakeOwn
import Derived.Laws.OwnMore
import Derived.Deep.OwnRows
import Derived.Tactics
import Derived.Lib.ConvBytes
import Derived.Laws.Slices
import Derived.WalkKit
import Derived.KernelRfl
import Derived.RowKit3
import Derived.Deep.QuietTactic
import Derived.BigQuiet
import Derived.WideLaws
import Derived.Deep.DeepCutAuto
import Derived.Deep.CutBlock
import Derived.Deep.RegionHeld3
import Derived.Laws.Rows
import Derived.Lib.AppendStr
import Derived.ArgAppend
import Derived.Laws.IdiomCopy
import Derived.OrdersHeld
import Derived.RowKit
import Derived.Test.YtpebhbhdkmpjeaaWWords
import Derived.Test.YtpebhbhdkmpjeaaWLast
import Derived.Test.YtpebhbhdkmpjeaaWTab
import Derived.Test.YtpebhbhdkmpjeaaWFour
import Derived.Test.YtpebhbhdkmpjeaaWQPut
import Derived.Test.YtpebhbhdkmpjeaaWApart
import Derived.Test.YtpebhbhdkmpjeaaWArr
import Derived.Test.YtpebhbhdkmpjeaaWZeros
import Derived.Test.YtpebhbhdkmpjeaaWFoot
import Derived.Test.YtpebhbhdkmpjeaaWKept
import Derived.Test.YtpebhbhdkmpjeaaWShare
import Derived.Test.YtpebhbhdkmpjeaaWN
import Derived.Test.YtpebhbhdkmpjeaaWFootNe
import Derived.Test.YtpebhbhdkmpjeaaWAt
import Derived.Test.YtpebhbhdkmpjeaaWEqStruct
import Derived.Test.YtpebhbhdkmpjeaaWRepsOne
import Derived.Test.YtpebhbhdkmpjeaaWInv
import Derived.Test.YtpebhbhdkmpjeaaWInvWords
import Derived.Test.YtpebhbhdkmpjeaaWGuard
import Derived.Test.YtpebhbhdkmpjeaaWNEv
/- Numbers as bytes: plain facts, no program in sight. -/
namespace Go.Proofs.Ytpebhbhdkmpjeaa.Gm

/-- The bytes of a number without a sign, the lowest group first. -/
def grp (u : Nat) : List UInt8 := if h : 127 < u then UInt8.ofNat (u % 128 + 128) :: grp (u / 128) else [UInt8.ofNat u]
termination_by u
decreasing_by omega

theorem grp_more {u : Nat} (h : 127 < u) : grp u = UInt8.ofNat (u % 128 + 128) :: grp (u / 128) := by rw [grp, dif_pos h]
theorem grp_last {u : Nat} (h : ¬ 127 < u) : grp u = [UInt8.ofNat u] := by rw [grp, dif_neg h]

/-- A number as one without a sign, and back. -/
def zig (n : Int) : Nat := if 0 ≤ n then (2 * n).toNat else (-2 * n - 1).toNat
def unzig (u : Nat) : Int := if u % 2 = 0 then ((u / 2 : Nat) : Int) else -((u / 2 : Nat) : Int) - 1

theorem unzig_zig (n : Int) : unzig (zig n) = n := by
  unfold unzig zig
  split <;> split <;> omega

theorem zig_unzig (u : Nat) : zig (unzig u) = u := by
  unfold unzig zig
  split <;> split <;> omega

theorem zig_inj {m n : Int} (h : zig m = zig n) : m = n := by rw [← unzig_zig m, ← unzig_zig n, h]

theorem unzig_range {u : Nat} (h : u < 18446744073709551616) : -9223372036854775808 ≤ unzig u ∧ unzig u ≤ 9223372036854775807 := by
  unfold unzig
  split <;> omega

theorem zig_range {n : Int} (h : -9223372036854775808 ≤ n ∧ n ≤ 9223372036854775807) : zig n < 18446744073709551616 := by
  unfold zig
  split <;> omega

def putI (n : Int) : List UInt8 := grp (zig n)

theorem grp_pos (u : Nat) : 0 < (grp u).length := by rw [grp]; split <;> simp

theorem grp_len (k u : Nat) (h : u < 128 ^ (k + 1)) : (grp u).length ≤ k + 1 := by
  induction k generalizing u with
  | zero => rw [grp_last (by omega)]; simp
  | succ k ih =>
    by_cases h127 : 127 < u
    · rw [grp_more h127]
      have := ih (u / 128) (by rw [Nat.pow_succ] at h; exact Nat.div_lt_of_lt_mul (by omega))
      simp; omega
    · rw [grp_last h127]; simp

theorem grp_len10 (u : Nat) (h : u < 18446744073709551616) : (grp u).length ≤ 10 := grp_len 9 u (by simp; omega)

/-- A list of numbers as bytes. -/
def putL (l : List Int) : List UInt8 := putI l.length ++ l.flatMap putI

theorem putI_pos (n : Int) : 0 < (putI n).length := grp_pos _
theorem putI_len {n : Int} (h : -9223372036854775808 ≤ n ∧ n ≤ 9223372036854775807) : (putI n).length ≤ 10 := grp_len10 _ (zig_range h)

theorem u8_ofNat (n : Nat) (h : n < 256) : (UInt8.ofNat n).toNat = n := UInt8.toNat_ofNat_of_lt' (by simpa using h)
theorem u8_eq {a b : UInt8} (h : a.toNat = b.toNat) : a = b := UInt8.toNat_inj.1 h

/-- What bytes mean: the number, how many bytes there are, the error; k bytes were read before, which make u. -/
def rdU : Nat → Nat → List UInt8 → Nat × Nat × Nat
  | _, _, [] => (0, 0, 3)
  | k, u, b :: l => if (k = 9 ∧ 1 < b.toNat) ∨ (0 < k ∧ b.toNat = 0) then (0, 0, 2)
    else if b.toNat < 128 then (u + b.toNat * 128 ^ k, k + 1, 0) else rdU (k + 1) (u + b.toNat % 128 * 128 ^ k) l

theorem pow_split {k : Nat} (h : k ≤ 9) : ∃ m, 18446744073709551616 = 128 ^ k * m ∧ 2 ≤ m ∧ (k < 9 → 256 ≤ m) := by
  refine ⟨2 * 128 ^ (9 - k), ?_, ?_, ?_⟩
  · rw [← Nat.mul_assoc, Nat.mul_comm (128 ^ k) 2, Nat.mul_assoc, ← Nat.pow_add, Nat.add_sub_cancel' h]
  · have : 0 < 128 ^ (9 - k) := Nat.pow_pos (by decide)
    omega
  · intro hk
    obtain ⟨j, hj⟩ : ∃ j, 9 - k = j + 1 := ⟨8 - k, by omega⟩
    rw [hj, Nat.pow_succ]
    have : 0 < 128 ^ j := Nat.pow_pos (by decide)
    omega

theorem small_k {k v : Nat} (hv : 1 ≤ v) (h : v * 128 ^ k < 18446744073709551616) : k ≤ 9 := by
  rcases Nat.lt_or_ge 9 k with h9 | h9
  · exfalso
    have h1 : 128 ^ 10 ≤ 128 ^ k := Nat.pow_le_pow_right (by decide) h9
    have h2 : 128 ^ k ≤ v * 128 ^ k := Nat.le_mul_of_pos_left _ hv
    have h3 : (128 : Nat) ^ 10 = 1180591620717411303424 := by decide
    omega
  · exact h9

theorem at9 {v : Nat} (h : v * 128 ^ 9 < 18446744073709551616) : v ≤ 1 := by
  have h3 : (128 : Nat) ^ 9 = 9223372036854775808 := by decide
  rw [h3] at h
  omega

theorem step_val (u v k : Nat) : u + v % 128 * 128 ^ k + v / 128 * 128 ^ (k + 1) = u + v * 128 ^ k := by
  have h := Nat.div_add_mod v 128
  rw [Nat.pow_succ, Nat.mul_comm (128 ^ k) 128, ← Nat.mul_assoc, Nat.add_assoc, ← Nat.add_mul]
  congr 2
  omega

/-- The bytes of a number are read back. -/
theorem rdU_grp (l : List UInt8) : ∀ (v k u : Nat), (0 < k → 1 ≤ v) → v * 128 ^ k < 18446744073709551616 → rdU k u (grp v ++ l) = (u + v * 128 ^ k, k + (grp v).length, 0) := by
  intro v
  induction v using Nat.strongRecOn with
  | _ v ih =>
  intro k u hk hv
  have h9 : k ≤ 9 := by
    rcases Nat.eq_zero_or_pos k with h | h
    · omega
    · exact small_k (hk h) hv
  by_cases h127 : 127 < v
  · have hn : ¬ ((k = 9 ∧ 1 < v % 128 + 128) ∨ (0 < k ∧ v % 128 + 128 = 0)) := by
      rintro (⟨rfl, _⟩ | ⟨_, h0⟩)
      · have := at9 hv; omega
      · omega
    have hval := step_val u v k
    have hle : v / 128 * 128 ^ (k + 1) ≤ v * 128 ^ k := by omega
    rw [grp_more h127, List.cons_append, rdU, u8_ofNat _ (by omega), if_neg hn, if_neg (by omega), show (v % 128 + 128) % 128 = v % 128 by omega, ih (v / 128) (by omega) (k + 1) _ (by omega) (by omega), hval]
    simp only [List.length_cons]
    congr 2
    omega
  · have hn : ¬ ((k = 9 ∧ 1 < v) ∨ (0 < k ∧ v = 0)) := by
      rintro (⟨rfl, h1⟩ | ⟨h0, h1⟩)
      · have := at9 hv; omega
      · have := hk h0; omega
    rw [grp_last h127, List.singleton_append, rdU, u8_ofNat _ (by omega), if_neg hn, if_pos (by omega)]
    rfl

/-- What is read is the bytes of a number. -/
theorem rdU_inv : ∀ (l : List UInt8) (k u r n : Nat), k ≤ 9 → rdU k u l = (r, n, 0) → ∃ v, r = u + v * 128 ^ k ∧ n = k + (grp v).length ∧ l.take (grp v).length = grp v ∧ (grp v).length ≤ l.length ∧ (0 < k → 1 ≤ v) ∧ v * 128 ^ k < 18446744073709551616
  | [], k, u, r, n, _, h => by simp [rdU] at h
  | b :: l, k, u, r, n, h9, h => by
    have hb := b.toNat_lt
    rw [rdU] at h
    split at h
    · simp at h
    rename_i hn
    have hbz : k = 9 → b.toNat ≤ 1 := fun e => by
      rcases Nat.lt_or_ge 1 b.toNat with h1 | h1
      · exact (hn (.inl ⟨e, h1⟩)).elim
      · exact h1
    obtain ⟨m, hm, hm2, hm9⟩ := pow_split h9
    split at h
    · rename_i h128
      simp only [Prod.mk.injEq, and_true] at h
      obtain ⟨rfl, rfl⟩ := h
      refine ⟨b.toNat, rfl, ?_⟩
      rw [grp_last (by omega)]
      refine ⟨rfl, by simp, by simp, fun hk => ?_, ?_⟩
      · rcases Nat.eq_zero_or_pos b.toNat with h0 | h0
        · exact (hn (.inr ⟨hk, h0⟩)).elim
        · exact h0
      · rw [hm, Nat.mul_comm]
        refine Nat.mul_lt_mul_of_pos_left ?_ (Nat.pow_pos (by decide))
        rcases Nat.lt_or_ge k 9 with hk | hk
        · have := hm9 hk; omega
        · have := hbz (by omega); omega
    · rename_i h128
      have hk9 : k < 9 := by
        rcases Nat.lt_or_ge k 9 with hk | hk
        · exact hk
        · have := hbz (by omega); omega
      obtain ⟨v, hr, hnn, ht, hl, hv1, hv2⟩ := rdU_inv l (k + 1) _ r n (by omega) h
      have hv1 := hv1 (by omega)
      have e1 : (b.toNat % 128 + 128 * v) % 128 = b.toNat % 128 := by omega
      have e2 : (b.toNat % 128 + 128 * v) / 128 = v := by omega
      have e3 : UInt8.ofNat (b.toNat % 128 + 128) = b := u8_eq (by rw [u8_ofNat _ (by omega)]; omega)
      refine ⟨b.toNat % 128 + 128 * v, ?_⟩
      have hs := step_val u (b.toNat % 128 + 128 * v) k
      rw [e1, e2] at hs
      rw [grp_more (by omega), e1, e2, e3]
      refine ⟨hr.trans hs, by simp; omega, by simp [ht], by simpa using hl, fun _ => by omega, ?_⟩
      have hs0 := step_val 0 (b.toNat % 128 + 128 * v) k
      rw [e1, e2] at hs0
      obtain ⟨m', hm', hm2', -⟩ := pow_split (show k + 1 ≤ 9 by omega)
      have hvm : v < m' := by
        rw [hm', Nat.mul_comm] at hv2
        exact Nat.lt_of_mul_lt_mul_left hv2
      have h1 : v * 128 ^ (k + 1) + 128 ^ (k + 1) ≤ 18446744073709551616 := by
        rw [hm', ← Nat.succ_mul, Nat.mul_comm]
        exact Nat.mul_le_mul_left _ hvm
      have h2 : b.toNat % 128 * 128 ^ k < 128 ^ (k + 1) := by
        rw [Nat.pow_succ, Nat.mul_comm]
        exact Nat.mul_lt_mul_of_pos_left (by omega) (Nat.pow_pos (by decide))
      omega

/-- Bytes of a number that are cut are too short. -/
theorem rdU_cut : ∀ (v k u j : Nat), (0 < k → 1 ≤ v) → v * 128 ^ k < 18446744073709551616 → j < (grp v).length → rdU k u ((grp v).take j) = (0, 0, 3) := by
  intro v
  induction v using Nat.strongRecOn with
  | _ v ih =>
  intro k u j hk hv hj
  cases j with
  | zero => rfl
  | succ j =>
    by_cases h127 : 127 < v
    · have hn : ¬ ((k = 9 ∧ 1 < v % 128 + 128) ∨ (0 < k ∧ v % 128 + 128 = 0)) := by
        rintro (⟨rfl, _⟩ | ⟨_, h0⟩)
        · have := at9 hv; omega
        · omega
      have hval := step_val u v k
      rw [grp_more h127] at hj ⊢
      rw [List.take_succ_cons, rdU, u8_ofNat _ (by omega), if_neg hn, if_neg (by omega)]
      exact ih (v / 128) (by omega) (k + 1) _ j (by omega) (by omega) (by simpa using hj)
    · rw [grp_last h127] at hj
      simp at hj

/-- No number's bytes begin with those of another one. -/
theorem grp_free {u v : Nat} (hu : u < 18446744073709551616) (hv : v < 18446744073709551616) (h : (grp v).take (grp u).length = grp u) : u = v := by
  have h1 := rdU_grp ((grp v).drop (grp u).length) u 0 0 (by omega) (by simpa using hu)
  have h2 := rdU_grp [] v 0 0 (by omega) (by simpa using hv)
  have h3 : grp u ++ (grp v).drop (grp u).length = grp v ++ [] := by
    rw [List.append_nil]
    have := List.take_append_drop (grp u).length (grp v)
    rw [h] at this
    exact this
  rw [h3, h2] at h1
  simp at h1
  exact h1.1.symm

/-! ### Texts as lists of bytes -/

def B (l : List UInt8) : ByteArray := ⟨l.toArray⟩

theorem B_data (l : List UInt8) : (B l).data.toList = l := rfl
theorem B_toList (l : List UInt8) : (B l).toList = l := by rw [ByteArray.toList_eq]; rfl
theorem B_size (l : List UInt8) : (B l).size = l.length := by simp [B, ByteArray.size]
theorem eq_B (s : ByteArray) : s = B s.data.toList := rfl
theorem exB (s : ByteArray) : ∃ l, s = B l := ⟨_, rfl⟩
theorem B_nil : (⟨#[]⟩ : ByteArray) = B [] := rfl
theorem B_inj {l m : List UInt8} : B l = B m ↔ l = m := ⟨fun h => by rw [← B_data l, h]; rfl, fun h => by rw [h]⟩
theorem B_append (l m : List UInt8) : B l ++ B m = B (l ++ m) := by
  apply ByteArray.ext
  simp [B]
theorem B_extract (l : List UInt8) (i j : Nat) : (B l).extract i j = B ((l.take j).drop i) := by
  apply ByteArray.ext
  rw [ByteArray.data_extract]
  simp [B, List.drop_take]

end Go.Proofs.Ytpebhbhdkmpjeaa.Gm

/- The bytes of numbers: 'wire.put', whose loop ranges over the function value that 'groups' hands back; 'PutInt', 'PutList'. -/
namespace Go.Proofs.Ytpebhbhdkmpjeaa.Gput
open Go Go.RowKit Go.Shelf Go.Proofs.Ytpebhbhdkmpjeaa.Gb Go.Proofs.Ytpebhbhdkmpjeaa.Gm
attribute [local go_sem] Oper.semAt_some
set_option linter.unusedVariables false

theorem groups_in (F : Fence) (n : Nat) (hF : F.fn 54) (hro : F.round = none) (u : Int) (w : World) :
    CallsIn F n Try.prog 54 #[.int .u64 u] w fun e w' => e = .returned (.func (.func 57) #[] #[.pointer (some ⟨w.heap.size, 0, none⟩)]) ∧ w' = w.alloc (.cells #[.int .u64 u] 68) := by
  refine callsIn_of_wp Try.func54 rfl hF ?_ hro
  simp only [Try.ntmps54, List.size_toArray, List.length_cons, List.length_nil, Nat.reduceAdd, Nat.reduceSub, Array.replicate_succ, Array.replicate_zero, List.push_toArray, List.append_toArray, List.nil_append, List.cons_append]
  gi_wp2
  go_ret
  exact ⟨rfl, rfl⟩

theorem or128_all : ∀ n : Nat, n < 256 → n ||| 128 = n % 128 + 128 := by decide +kernel

theorem or128 (u : Nat) : bits .or .u8 ((u : Int) % 256) 128 = ((u % 128 + 128 : Nat) : Int) := by
  have h := (bits_nat .u8 8 (by decide) wraps_u8 (u % 256) 128 (by omega) (by decide)).2
  rw [or128_all _ (by omega)] at h
  have e : ((u : Int) % 256) = ((u % 256 : Nat) : Int) := by omega
  rw [e]
  refine h.trans ?_
  omega

theorem enc8_ofNat (n : Nat) (h : n < 256) : enc8 (UInt8.ofNat n) = .int .u8 (n : Int) := by
  unfold enc8
  rw [UInt8.toNat_ofNat_of_lt' (by simpa using h)]

/-- What is left, read off the cell. -/
def left8 (B : Nat) (w : World) : Nat := match w.cell? ⟨B, 0, none⟩ with
  | some (.int _ n) => n.toNat
  | _ => 0

set_option maxRecDepth 100000 in
set_option maxHeartbeats 1000000 in
theorem groups1_seq (F : Fence) (n : Nat) (hF : F.fn 57) (hro : F.round = none) (hn : 1 ≤ n) (Bu u : Nat) (hu : u < 18446744073709551616) :
    SeqCell F n Try.prog 57 #[.pointer (some ⟨Bu, 0, none⟩)] (fun x => #[enc8 x]) Bu 68 (.int .u64 u) (grp u) := by
  intro l J W hB hA hset hY h0
  refine callsIn_of_wp Try.func57 rfl hF ?_ hro
  simp only [Try.ntmps57, List.size_toArray, List.length_cons, List.length_nil, Nat.reduceAdd, Nat.reduceSub, Array.replicate_succ, Array.replicate_zero, List.push_toArray, List.append_toArray, List.nil_append, List.cons_append]
  gi_wp2
  gi_loopw [] (fun wr => ∃ (pre : List UInt8) (u' : Nat), grp u = pre ++ grp u' ∧ u' < 18446744073709551616 ∧ Boxed wr Bu 68 (.int .u64 u') ∧ J pre wr)
    (fun wr => left8 Bu wr)
  case atStart =>
    exact ⟨[], u, rfl, hu, hB, h0⟩
  case round =>
    obtain ⟨pre, u', hg, hu', hb, hj⟩ := hrel
    have hc := hb.cell
    have hf := hb.frozen
    have hlen : pre.length < (grp u).length := by
      rw [hg]; have : 0 < (grp u').length := by rw [grp]; split <;> simp
      simp; omega
    by_cases h127 : 127 < u'
    · obtain ⟨fn, tmps, assign, body, hy, hR⟩ := hY pre (UInt8.ofNat (u' % 128 + 128)) wr hj hlen
      rw [enc8_ofNat _ (by omega), ← or128] at hy
      gi_wp2
      refine hR.mono ?_
      rintro e W3 ⟨rfl, hJ3, hk3⟩
      have hb3 := hk3 _ hb
      have hc3 := hb3.cell
      have hf3 := hb3.frozen
      gi_wp2
      go_roundw
      case rel =>
        refine ⟨pre ++ [UInt8.ofNat (u' % 128 + 128)], u' / 128, by rw [hg, grp_more h127]; simp, by omega, hb3.set _, hset _ _ _ _ hb3 hJ3⟩
      case measure =>
        have e1 : left8 Bu wr = u' := by unfold left8; rw [hc]; simp
        have e2 : ∀ v, left8 Bu (W3.setCell ⟨Bu, 0, none⟩ (.int .u64 v)) = v.toNat := fun v => by unfold left8; rw [(hb3.set _).cell]
        rw [e1, e2]
        omega
    · obtain ⟨fn, tmps, assign, body, hy, hR⟩ := hY pre (UInt8.ofNat u') wr hj hlen
      rw [enc8_ofNat _ (by omega)] at hy
      have h256 : ((u' : Int) % 256) = u' := by omega
      gi_wp2
      refine hR.mono ?_
      rintro e W3 ⟨rfl, hJ3, hk3⟩
      gi_wp2
      go_end0
      exact ⟨⟨_, rfl⟩, by rw [hg, grp_last h127]; exact hJ3⟩

theorem zig_lt (n : Int) (h : (Lit.int .i64 n).wf = true) : zig n < 18446744073709551616 := by
  have := bounds_i64 h
  unfold zig
  split <;> omega

theorem bits_xor64 (a b : Nat) : bits .xor .u64 (a : Int) (b : Int) = IntKind.u64.wrap ((BitVec.ofNat 64 a ^^^ BitVec.ofNat 64 b).toNat : Int) := by
  unfold bits
  simp only [BitVec.ofInt_natCast]
  rfl

theorem zig_bits (m : Int) (h : (Lit.int .i64 m).wf = true) : bits .xor .u64 (IntKind.u64.wrap (IntKind.u64.wrap m * 2)) (IntKind.u64.wrap (m / 9223372036854775808)) = (zig m : Int) := by
  have hb := bounds_i64 h
  have wr : ∀ x : Int, IntKind.u64.wrap x = x % 18446744073709551616 := fun x => by simp [IntKind.wrap, IntKind.bits, IntKind.signed]
  unfold zig
  by_cases h0 : 0 ≤ m
  · have e1 : IntKind.u64.wrap (IntKind.u64.wrap m * 2) = ((2 * m).toNat : Int) := by rw [wr, wr]; omega
    have e2 : IntKind.u64.wrap (m / 9223372036854775808) = ((0 : Nat) : Int) := by rw [wr]; omega
    rw [e1, e2, if_pos h0]
    have hlt : (2 * m).toNat < 2 ^ 64 := by simp; omega
    rw [bits_xor64, BitVec.toNat_xor, BitVec.toNat_ofNat, BitVec.toNat_ofNat, Nat.mod_eq_of_lt hlt, Nat.zero_mod, Nat.xor_zero, wr]
    omega
  · have e1 : IntKind.u64.wrap (IntKind.u64.wrap m * 2) = ((2 * m + 18446744073709551616).toNat : Int) := by rw [wr, wr]; omega
    have e2 : IntKind.u64.wrap (m / 9223372036854775808) = ((18446744073709551615 : Nat) : Int) := by rw [wr]; omega
    rw [e1, e2, if_neg h0]
    have hlt : (2 * m + 18446744073709551616).toNat < 2 ^ 64 := by simp; omega
    have hn : (BitVec.ofNat 64 18446744073709551615) = BitVec.allOnes 64 := by decide
    rw [bits_xor64, hn, BitVec.xor_allOnes, BitVec.toNat_not, BitVec.toNat_ofNat, Nat.mod_eq_of_lt hlt, wr]
    omega

theorem info_byte : (Try.prog.info? 5).map (fun i => (i.zero, i.size, i.bytes)) = some (some (.int .u8 0), 1, 1) := by kernel_rfl

set_option maxRecDepth 100000 in
set_option maxHeartbeats 2000000 in
theorem put_in (F : Fence) (n : Nat) (h46 : F.fn 46) (h54 : F.fn 54) (h57 : F.fn 57) (hro : F.round = none) (hn : 3 ≤ n)
    (base : Nat) (v : Value) (xs : List UInt8) (m : Int) (hm : (Lit.int .i64 m).wf = true) (w : World) (hrow : Own8 w base 5 v xs) (hb : base ≤ w.heap.size) (hlen : xs.length + 10 ≤ 140737488355328) (u : Nat) (hu : zig m = u) :
    CallsIn F n Try.prog 46 #[v, .int .i64 m] w fun e W' => ∃ v', e = .returned v' ∧ Own8 W' base 5 v' (xs ++ grp u) ∧ Below base w W' := by
  have h1 : 1 ≤ n := by omega
  obtain ⟨i0, hi, hz0, hz1, hz2⟩ := info_parts info_byte
  refine callsIn_of_wp_marks Try.func46 rfl h46 ?_ hro
  simp only [Try.ntmps46, List.size_toArray, List.length_cons, List.length_nil, Nat.reduceAdd, Nat.reduceSub, Array.replicate_succ, Array.replicate_zero, List.push_toArray, List.append_toArray, List.nil_append, List.cons_append]
  obtain ⟨g, cap, cur, fz, rfl, hrest⟩ := id hrow
  gi_wp2_with (gi_at_call 54; refine (groups_in F (n - 1) h54 hro _ _).mono ?_; rintro e w' ⟨rfl, rfl⟩)
  have hz := zig_bits m hm
  have hzl := zig_lt m hm
  rw [hu] at hz hzl
  rw [hz]
  clear hz hu
  have hrow' : Own8 w base 5 (.slice (some ⟨g, 0, none⟩) xs.length cap) xs := hrow
  have bB := Boxed.new w 24 (.slice (some ⟨g, 0, none⟩) xs.length cap)
  have bU := Boxed.new (w.alloc (.cells #[.slice (some ⟨g, 0, none⟩) xs.length cap] 24)) 68 (.int .u64 u)
  rw [World.size_alloc] at bU
  have hB0 : Below base w ((w.alloc (.cells #[.slice (some ⟨g, 0, none⟩) xs.length cap] 24)).alloc (.cells #[.int .u64 u] 68)) := ((Below.refl _ w).alloc hb _).alloc (by simp; omega) _
  have hgl := grp_len10 u hzl
  refine rangeFunc_cell hro h1 (gf := 57) (lb := #[.pointer (some ⟨w.heap.size + 1, 0, none⟩)]) rfl h57 (enters_of Try.func57 (by kernel_rfl) rfl)
    (groups1_seq F (n - 1) h57 hro (by omega) (w.heap.size + 1) u hzl) bU (fun _ => rfl)
    (fun pre W => (∃ v, Boxed W w.heap.size 24 v ∧ Own8 W base 5 v (xs ++ pre)) ∧ Below base w W)
    (OwnFrom.and (Own.from (holds8_own base w.heap.size 24 5 (fun pre => xs ++ pre)) _) (ownFrom_below hb (by simp; omega)))
    (fun s W v v' hbu hs => ⟨by
      obtain ⟨⟨q, hq, hr⟩, _⟩ := hs
      exact ⟨q, hq.kept (grownBy_setCell' W _ v') (by simp), hr.setCell hbu (by decide) v'⟩, hs.2.setCell (p := ⟨w.heap.size + 1, 0, none⟩) (show base ≤ w.heap.size + 1 by omega) _⟩)
    ⟨⟨_, bB.alloc _, by rw [List.append_nil]; exact (hrow'.alloc _).alloc _⟩, hB0⟩
    (fun x => { tmps := #[.slice (some ⟨g, 0, none⟩) xs.length cap, .int .i64 m, .pointer (some ⟨w.heap.size, 0, none⟩), undef, .slice none 0 0, .int .u8 (x.toNat : Int), .int .i64 m, .int .u64 (IntKind.u64.wrap m), .int .u64 (IntKind.u64.wrap (IntKind.u64.wrap m * 2)), .int .i64 m, .int .i64 (m / 9223372036854775808), .int .u64 (IntKind.u64.wrap (m / 9223372036854775808)), .int .u64 u, .func (.func 57) #[] #[.pointer (some ⟨w.heap.size + 1, 0, none⟩)], .int .u8 (x.toNat : Int), undef, undef, undef, undef, undef], defers := [] }) ?assign ?body ?done
  case assign =>
    intro l x W K hK
    gi_wp2
    exact hK
  case body =>
    rintro l pre x W ⟨⟨v, hv, hrow⟩, hB⟩ hlt
    have hc := hv.cell
    have hpl : (xs ++ pre).length < xs.length + 10 := by rw [List.length_append]; omega
    gi_wp2_with (gi_at_builtin; refine wpListIn_append8 _ rfl _ _ 24 rfl base 5 i0 Try.underlying24 hi hz0 hz1 hz2 _ _ rfl (hrow.alloc _) ⟨W.heap.size, 0, none⟩ 1 x rfl (by rw [show (⟨W.heap.size, 0, none⟩ : Addr).add 0 = ⟨W.heap.size, 0, none⟩ from rfl]; exact (Boxed.new W 5 (enc8 x)).cell) (by omega) (by have := hB.size; simp; omega) ?_; intro v' w1 hown' hgrow; obtain ⟨hv1, hv2, hr2, hk2, hb2⟩ := Boxed.appended8 hv (by decide) hrow (Nat.le_trans hb hB.size) hb hown' hgrow; have hq2 := fun u2 (hu2 : Boxed W (w.heap.size + 1) 68 u2) => Boxed.beside8 (v' := v') hu2 (by decide) (by omega) hrow hgrow hv1; obtain ⟨g', cap', cur', fz', rfl, hrest'⟩ := id hown'; have hc1 := hv1.cell; have hf1 := hv1.frozen)
    have el : (xs ++ pre ++ [x]).length = xs.length + (pre.length + 1) := by simp
    rw [el] at hk2 hv2 hr2 hb2
    simp only [el] at hq2
    exact ⟨hk2, hq2, ⟨_, hv2, by rw [← List.append_assoc]; exact hr2⟩, hB.trans hb2⟩
  case done =>
    rintro D W hD ⟨⟨v, hv, hrow⟩, hB⟩ hK
    have hc := hv.cell
    gi_wp2
    refine ⟨by simp, .inl ⟨_, _, rfl, run_takeDeferred hK, ?_⟩⟩
    exact ⟨_, results_tmp rfl _ _ _, v, rfl, hrow.putObj _ hK rfl, hB.trans (belowK_b (w := w) hb W D _ _ (by simp at hD; omega) hK rfl rfl)⟩

theorem put_any (base : Nat) (v : Value) (xs : List UInt8) (m : Int) (hm : (Lit.int .i64 m).wf = true) (w : World) (hrow : Own8 w base 5 v xs) (hb : base ≤ w.heap.size) (hlen : xs.length + 10 ≤ 140737488355328) :
    Calls Try.prog 46 #[v, .int .i64 m] w fun e W' => ∃ v', e = .returned v' ∧ Own8 W' base 5 v' (xs ++ putI m) ∧ Below base w W' :=
  callsIn_wide.1 (put_in _ 3 trivial trivial trivial rfl (by omega) base v xs m hm w hrow hb hlen (zig m) rfl)

def wire_PutInt.f (a0 : ByteArray) (a1 : Int) : Option ByteArray :=
  if a0.size + 10 ≤ 140737488355328 ∧ (Lit.int .i64 a1).wf = true then some ⟨(a0.data.toList ++ putI a1).toArray⟩ else none

set_option maxHeartbeats 2000000 in
theorem wire_PutInt.calls (a0 : ByteArray) (a1 : Int) (r : ByteArray) (w : World) (h : wire_PutInt.f a0 a1 = some r) :
    Calls Try.prog 14 #[.string a0, .int .i64 a1] w fun e w' => e = .returned (.string r) ∧ Below w.heap.size w w' := by
  unfold wire_PutInt.f at h
  split at h
  case isFalse => cases h
  case isTrue hc =>
  obtain ⟨hs, hm⟩ := hc
  obtain rfl := Option.some.inj h
  clear h
  have hsm : a0.size ≤ maxLen := by unfold maxLen; omega
  have hcv := Lib.run_convert_string_bytes (P := Try.prog) w 9 24 5 a0 Try.underlying9 Try.underlying24 Try.underlying5
  have hown := own8_bytes w w.heap.size 5 a0 (Nat.le_refl _) hsm
  have hbw : Below w.heap.size w (Lib.bytesWorld w 5 a0) := (Below.refl _ w).grown (bytesWorld_grown w 5 a0) (Nat.le_refl _) (fun k e => by cases e)
  have hl : a0.data.toList.length + 10 ≤ 140737488355328 := by rw [Array.length_toList]; exact hs
  go_enter Try.func14, Try.ntmps14
  go_wp2_with (go_at_call 46; refine (put_any w.heap.size _ _ a1 hm _ hown (by rw [Lib.bytesWorld_size]; omega) hl).mono ?_; rintro e W1 ⟨v1, rfl, ho1, hb1⟩; have hst := run_string8 (P := Try.prog) W1 w.heap.size 24 9 5 Try.underlying24 Try.underlying5 Try.underlying9 v1 _ ho1)
  go_ret
  exact ⟨rfl, hbw.trans hb1⟩

end Go.Proofs.Ytpebhbhdkmpjeaa.Gput

/- 'wire.PutList': the bytes of a list of numbers. -/
namespace Go.Proofs.Ytpebhbhdkmpjeaa.Gputl
open Go Go.RowKit Go.Shelf Go.Proofs.Ytpebhbhdkmpjeaa.Gb Go.Proofs.Ytpebhbhdkmpjeaa.Gm Go.Proofs.Ytpebhbhdkmpjeaa.Gput Go.Proofs.YtpebhbhdkmpjeaaW.PrintWords Go.Proofs.YtpebhbhdkmpjeaaW.PrintLast Go.Proofs.YtpebhbhdkmpjeaaW.PrintMore
set_option linter.unusedVariables false

def wire_PutList.f (a0 : ByteArray) (l1 : List Int) : Option ByteArray :=
  if a0.size + 10 * (l1.length + 1) ≤ 140737488355328 ∧ (l1.all fun x => (Lit.int .i64 x).wf) = true then some ⟨(a0.data.toList ++ putL l1).toArray⟩ else none

theorem putI_snoc (l : List Int) (k : Nat) (h : k < l.length) : (l.take (k + 1)).flatMap putI = (l.take k).flatMap putI ++ putI (rd l k) := by
  rw [List.take_succ_eq_append_getElem h, List.flatMap_append]
  simp [rd, List.getD, h]

theorem flat_len (l : List Int) (h : (l.all fun x => (Lit.int .i64 x).wf) = true) : ∀ k, ((l.take k).flatMap putI).length ≤ 10 * k
  | 0 => by simp
  | k + 1 => by
    have ih := flat_len l h k
    rcases Nat.lt_or_ge k l.length with hk | hk
    · rw [putI_snoc l k hk, List.length_append]
      have hw := List.all_eq_true.1 h (l[k]) (List.getElem_mem hk)
      have := putI_len (bounds_i64 hw)
      have e : rd l k = l[k] := by simp [rd, List.getD, hk]
      rw [e]
      omega
    · rw [List.take_of_length_le (by omega)]
      rw [List.take_of_length_le hk] at ih
      omega

set_option maxRecDepth 100000 in
set_option maxHeartbeats 4000000 in
theorem wire_PutList.calls (a0 : ByteArray) (A1 : Option Addr) (c1 : Nat) (l1 : List Int) (r : ByteArray) (w : World) (hr1 : Kd.C (Kd.int .i64) w A1 l1.length l1) (hc1 : l1.length ≤ c1) (h : wire_PutList.f a0 l1 = some r) :
    Calls Try.prog 33 #[.string a0, .slice A1 l1.length c1] w fun e w' => e = .returned (.string r) ∧ Below w.heap.size w w' := by
  unfold wire_PutList.f at h
  split at h
  case isFalse => cases h
  case isTrue hc =>
  obtain ⟨hs, hall⟩ := hc
  obtain rfl := Option.some.inj h
  clear h
  have hsm : a0.size ≤ maxLen := by unfold maxLen; omega
  have hcv := Lib.run_convert_string_bytes (P := Try.prog) w 9 24 5 a0 Try.underlying9 Try.underlying24 Try.underlying5
  have hown := own8_bytes w w.heap.size 5 a0 (Nat.le_refl _) hsm
  have hbw : Below w.heap.size w (Lib.bytesWorld w 5 a0) := (Below.refl _ w).grown (bytesWorld_grown w 5 a0) (Nat.le_refl _) (fun k e => by cases e)
  have hsz : a0.data.toList.length = a0.size := by rw [Array.length_toList]; rfl
  have hwl : (Lit.int .i64 (l1.length : Int)).wf = true := by first | exact Go.WalkArith.wf_i64 ⟨by omega, by omega⟩ | go_wf
  have hpl := putI_len (bounds_i64 hwl)
  have hl : a0.data.toList.length + 10 ≤ 140737488355328 := by rw [hsz]; omega
  have HR := Aside0.mk hr1
  have HALL := Aside0.mk hall
  clear hr1 hall
  go_enter Try.func33, Try.ntmps33
  go_wp2_with (go_at_call 46; refine (put_any w.heap.size _ _ (l1.length : Int) hwl _ hown (by rw [Lib.bytesWorld_size]; omega) hl).mono ?_; rintro e W1 ⟨v1, rfl, ho1, hb1⟩)
  clear hcv hown
  go_loopw [5, 15] (fun v5 v15 wr => ∃ (k : Nat), k ≤ l1.length ∧ v15 = .int .i64 k ∧ Own8 wr w.heap.size 5 v5 (a0.data.toList ++ (putI (l1.length : Int) ++ (l1.take k).flatMap putI)) ∧ Below w.heap.size w wr)
    (fun _ v15 _ => l1.length - (intOf v15).toNat)
  case atStart => exact ⟨0, Nat.zero_le _, rfl, by simpa using ho1, hbw.trans hb1⟩
  case round =>
    obtain ⟨k, hk, rfl, hown, hbel⟩ := hrel
    by_cases hlt : k < l1.length
    · have hlen : (a0.data.toList ++ (putI (l1.length : Int) ++ (l1.take k).flatMap putI)).length + 10 ≤ 140737488355328 := by
        have := flat_len l1 HALL.out k
        simp only [List.length_append, hsz]
        omega
      have hwk : (Lit.int .i64 (rd l1 k)).wf = true := by
        have := List.all_eq_true.1 HALL.out (l1[k]) (List.getElem_mem hlt)
        have e : rd l1 k = l1[k] := by simp [rd, List.getD, hlt]
        rw [e]; exact this
      obtain ⟨ad, ead, hx⟩ := Kd.at_int HR.out k (by omega) (by omega)
      cases ead
      replace hx := (hbel.cell (World.block_lt_of_cell? w _ hx)).trans hx
      simp only [Int.toNat_natCast] at hx
      go_wp2_with (go_at_call 46; refine (put_any w.heap.size _ _ _ hwk _ hown hbel.size hlen).mono ?_; rintro e W2 ⟨v2, rfl, ho2, hb2⟩)
      go_roundw
      case rel => exact ⟨k + 1, by omega, by go_num, by rw [putI_snoc l1 k hlt]; simpa using ho2, hbel.trans hb2⟩
      case measure => simp [intOf]; omega
    · obtain rfl : k = l1.length := by omega
      have hst := run_string8 (P := Try.prog) wr w.heap.size 24 9 5 Try.underlying24 Try.underlying5 Try.underlying9 _ _ hown
      go_wp2
      go_ret
      exact ⟨rfl, hbel⟩

end Go.Proofs.Ytpebhbhdkmpjeaa.Gputl

namespace Go.Proofs.Ytpebhbhdkmpjeaa.Q
open Go.RowKit Go.Proofs.YtpebhbhdkmpjeaaW.PrintWords Go.Proofs.YtpebhbhdkmpjeaaW.PrintLast Go.Proofs.YtpebhbhdkmpjeaaW.PrintMore Go.Proofs.Ytpebhbhdkmpjeaa.Gput Go.Proofs.Ytpebhbhdkmpjeaa.Gputl
attribute [local go_sem] max2_int min2_int max_two min_two max_three min_three max_four min_four   -- for this text's walks alone
set_option linter.unusedVariables false
set_option linter.unusedSimpArgs false



def errW : Option Int → Value
  | none => .nilIface
  | some c => .iface 0 (.int .i64 c)
theorem errW_none : errW none = .nilIface := rfl
theorem errW_some (c : Int) : errW (some c) = .iface 0 (.int .i64 c) := rfl

theorem info3 : (Try.prog.info? 3).map (fun i => (i.zero, i.size, i.bytes)) = some (some (.int .i64 0), 1, 8) := by kernel_rfl
theorem info5 : (Try.prog.info? 5).map (fun i => (i.zero, i.size, i.bytes)) = some (some (.int .u8 0), 1, 1) := by kernel_rfl
theorem info9 : (Try.prog.info? 9).map (fun i => (i.zero, i.size, i.bytes)) = some (some (.string ⟨#[]⟩), 1, 16) := by kernel_rfl
theorem info34 : (Try.prog.info? 34).map (fun i => (i.zero, i.size, i.bytes)) = some (some (.agg #[(.int .i64 0), (.string ⟨#[]⟩)]), 2, 24) := by kernel_rfl
-- the values' own types
/-! #### struct type 34 -/
structure S34 where
  f0 : Int
  f1 : ByteArray
def z34 : S34 := ⟨(0 : Int), (⟨#[]⟩ : ByteArray)⟩
def k34 : Kd S34 := Kd.iso (Kd.pair (Kd.int .i64) Kd.string) (fun x : S34 => (x.f0, x.f1))
theorem k34_open {w : World} {x : S34} {cs : List Value} (h : k34.K w x cs) : cs = [.int .i64 x.f0, .string x.f1] := by
  obtain ⟨_, _, rfl, rfl, rfl⟩ := h
  exact rfl
theorem k34_openM {w : World} {base : Nat} {ok : Nat → Prop} {x : S34} {cs : List Value} (h : k34.M w base ok x cs) : cs = [.int .i64 x.f0, .string x.f1] := by
  obtain ⟨_, _, rfl, rfl, rfl⟩ := h
  exact rfl
theorem k34_mk (w : World) (x : S34)  : k34.K w x [.int .i64 x.f0, .string x.f1] := ⟨[.int .i64 x.f0], [.string x.f1], rfl, rfl, rfl⟩
theorem k34_mkM (w : World) (base : Nat) (ok : Nat → Prop) (x : S34)  : k34.M w base ok x [.int .i64 x.f0, .string x.f1] := ⟨[.int .i64 x.f0], [.string x.f1], rfl, rfl, rfl⟩
def rd_T34 (xs : List S34) (i : Int) : S34 := xs.getD i.toNat z34
theorem at_T34 {w : World} {A : Option Addr} {n : Nat} {xs : List S34} (h : Kd.C k34 w A n xs) (i : Int) (h0 : 0 ≤ i) (h1 : i < n) : ∃ ad , A = some ad ∧ w.cell? (ad.add (i.toNat * 2)) = some (.int .i64 (rd_T34 xs i).f0) ∧ w.cell? ⟨(ad.add (i.toNat * 2)).block, (ad.add (i.toNat * 2)).off + 1, none⟩ = some (.string (rd_T34 xs i).f1) := by
  obtain ⟨ad, c, e, _, hK, hc0⟩ := Kd.C_get h z34 i h0 h1
  have hc : ∀ j u, c[j]? = some u → w.cell? (ad.add (i.toNat * 2 + j)) = some u := hc0
  obtain rfl := k34_open hK
  exact ⟨ad, e, hc 0 _ rfl, by rw [← add_field _ _ 1 (by omega)]; exact hc 1 _ rfl⟩

end Go.Proofs.Ytpebhbhdkmpjeaa.Q

/- Rows of bytes that '[]byte(text)' makes, with their numbers as whole numbers: reads, stores, and the text again. -/
namespace Go.Proofs.Ytpebhbhdkmpjeaa.Gzb
open Go Go.RowKit Go.Proofs.Ytpebhbhdkmpjeaa.Gb Go.Proofs.YtpebhbhdkmpjeaaW.PrintWords Go.Proofs.YtpebhbhdkmpjeaaW.PrintLast Go.Proofs.YtpebhbhdkmpjeaaW.PrintMore
set_option linter.unusedVariables false

/-- The slice v holds the row of bytes xs, of which no cell is frozen; it lies at or beyond base. -/
def RZ (e : TypeId) (w : World) (base : Nat) (v : Value) (xs : List Int) : Prop :=
  ∃ g cap cur fz, v = .slice (some ⟨g, 0, none⟩) xs.length cap ∧ base ≤ g ∧ w.heap[g]? = some (.cells cur e fz) ∧ (fz = (0, 0) ∨ cur.size ≤ fz.1) ∧
    xs.length ≤ cap ∧ cur.size = cap ∧ cur.toList.take xs.length = xs.map (Value.int .u8)

theorem RZ.step {e : TypeId} {w w1 : World} {base : Nat} {v : Value} {xs : List Int} (h : RZ e w base v xs) (hm : ∀ k, k < w.heap.size → w1.heap[k]? = w.heap[k]?) : RZ e w1 base v xs := by
  obtain ⟨g, cap, cur, fz, rfl, hb, hgg, rest⟩ := h
  exact ⟨g, cap, cur, fz, rfl, hb, (hm g (Array.getElem?_eq_some_iff.1 hgg).1).trans hgg, rest⟩

theorem RZ.below {e : TypeId} {w w1 : World} {base : Nat} {v : Value} {xs : List Int} (h : RZ e w base v xs) (hb : Below w.heap.size w w1) : RZ e w1 base v xs :=
  h.step fun k hk => hb.block k hk

theorem RZ.drew {e : TypeId} {w : World} {base : Nat} {v : Value} {xs : List Int} (h : RZ e w base v xs) : RZ e w.drew base v xs :=
  h.below (below_drew (Below.refl _ _))
theorem RZ.drewN {e : TypeId} {w : World} {base : Nat} {v : Value} {xs : List Int} (h : RZ e w base v xs) (m : Nat) : RZ e (w.drewN m) base v xs :=
  h.below (pw_below_drewN (Below.refl _ _) m)
theorem RZ.alloc {e : TypeId} {w : World} {base : Nat} {v : Value} {xs : List Int} (h : RZ e w base v xs) (o : Obj) : RZ e (w.alloc o) base v xs :=
  h.below (below_alloc (Below.refl _ _) o)

theorem RZ.lt {e : TypeId} {w : World} {base : Nat} {v : Value} {xs : List Int} (h : RZ e w base v xs) : ∀ k, v.ownBlock = some k → k < w.heap.size := by
  obtain ⟨g, cap, cur, fz, rfl, hb, hgg, rest⟩ := h
  intro k hk
  have : g = k := by simpa [Value.ownBlock] using hk
  subst this
  exact (Array.getElem?_eq_some_iff.1 hgg).1

/-- '[]byte(text)'. -/
theorem conv {P : Program} {w0 : World} (w : World) (t : ByteArray) (y : List Int) (hy : y = ([] : List Int) ++ bytesOf t) (hl : ([] : List Int).length + t.size < 140737488355328) (s d e : TypeId) (hs : P.underlying s = some .string) (hd : P.underlying d = some (.slice e)) (he : P.underlying e = some (.int .u8)) (hB : Below w0.heap.size w0 w) :
    ∃ g c w1, (convert s d (.string t)).run P w = .ok (.slice (some ⟨g, 0, none⟩) y.length c) w1 ∧ RZ e w1 w0.heap.size (.slice (some ⟨g, 0, none⟩) y.length c) y ∧ Below w0.heap.size w0 w1 ∧ w0.heap.size ≤ g := by
  have hcv := Lib.run_convert_string_bytes (P := P) w s d e t hs hd he
  have hszw : w0.heap.size ≤ w.heap.size := below_size hB
  have hown := own8_bytes w w0.heap.size e t hszw (by unfold maxLen; simp at hl; omega)
  have hyl : y.length = t.size := by rw [hy, List.nil_append]; simp [bytesOf]
  have hym : y.map (Value.int .u8) = t.data.toList.map enc8 := by rw [hy, List.nil_append]; simp [bytesOf, enc8, Function.comp_def]
  have hdl : t.data.toList.length = t.size := by rw [Array.length_toList]; rfl
  refine ⟨_, _, _, by rw [hyl]; exact hcv, ?_, hB.grown (bytesWorld_grown w e t) hszw (fun k e => by cases e), hszw⟩
  obtain ⟨g, cap, cur, fz, hv, h1, h2, h3, h4, h5, h6, h7⟩ := hown
  rw [hdl] at hv h4 h7
  exact ⟨g, cap, cur, fz, by rw [hyl]; exact hv, h1, h2, h3, by rw [hyl]; exact h4, h6, by rw [hyl, hym]; exact h7⟩

theorem cell {e : TypeId} {w : World} {base g n cap : Nat} {xs : List Int} (h : RZ e w base (.slice (some ⟨g, 0, none⟩) n cap) xs) (i : Int) (h0 : 0 ≤ i) (hi : i < n) :
    w.cell? ⟨g, i.toNat, none⟩ = some (.int .u8 (rdOf 0 xs i)) ∧ w.frozen? ⟨g, i.toNat, none⟩ = false := by
  obtain ⟨g', cap', cur, fz, hv, hb, hgg, hfz, hl, hs, ht⟩ := h
  simp only [Value.slice.injEq, Option.some.injEq, Addr.mk.injEq] at hv
  obtain ⟨⟨rfl, -, -⟩, rfl, rfl⟩ := hv
  have hk : i.toNat < xs.length := by omega
  constructor
  · rw [cell_of_row w g i.toNat cur e fz hgg]
    have h1 : (cur.toList.take xs.length)[i.toNat]? = some (.int .u8 xs[i.toNat]) := by rw [ht]; simp [hk]
    rw [List.getElem?_take, if_pos hk] at h1
    rw [← Array.getElem?_toList, h1]
    unfold rdOf
    rw [List.getD_eq_getElem?_getD, List.getElem?_eq_getElem hk, Option.getD_some]
  · obtain ⟨lo, hi'⟩ := fz
    simp only [World.frozen?, hgg, Bool.and_eq_false_iff, decide_eq_false_iff_not]
    rcases hfz with h | h
    · right; cases h; omega
    · left; simp at h; omega

theorem putg {e : TypeId} {w : World} {base g n cap : Nat} {xs : List Int} (h : RZ e w base (.slice (some ⟨g, 0, none⟩) n cap) xs) (i : Int) (x : Int) :
    RZ e (w.setCell ⟨g, i.toNat, none⟩ (.int .u8 x)) base (.slice (some ⟨g, 0, none⟩) n cap) (xs.set i.toNat x) ∧ w.grownBy (w.setCell ⟨g, i.toNat, none⟩ (.int .u8 x)) (some g) := by
  obtain ⟨g', cap', cur, fz, hv, hb, hgg, hfz, hl, hs, ht⟩ := h
  simp only [Value.slice.injEq, Option.some.injEq, Addr.mk.injEq] at hv
  obtain ⟨⟨rfl, -, -⟩, rfl, rfl⟩ := hv
  rw [setCell_eq_setRow w g i.toNat cur e fz _ hgg]
  refine ⟨⟨g, cap, cur.setIfInBounds i.toNat (.int .u8 x), fz, by rw [List.length_set], hb, setRow_heap w g cur _ e _ hgg, by simpa using hfz, by simpa using hl, by simpa using hs, ?_⟩, ⟨rfl, rfl, rfl, by simp, fun k _ hk => setRow_other w g k _ (fun e => hk (by rw [e]))⟩⟩
  rw [Array.toList_setIfInBounds, List.length_set, List.take_set, ht, List.map_set]

/-- 'string(b)'. -/
theorem str {P : Program} {w : World} {base : Nat} {e src dst : TypeId} (hs : P.underlying src = some (.slice e)) (he : P.underlying e = some (.int .u8)) (hd : P.underlying dst = some .string) {v : Value} {xs : List Int} (h : RZ e w base v xs) :
    (convert src dst v).run P w = .ok (.string (strOfNums xs)) w := by
  have h0 := h
  obtain ⟨g, cap, cur, fz, rfl, hbg, hg, hfz, hnc, hcs, htake⟩ := h
  exact run_convert_bytes_arg (P := P) w src e hs he g 0 xs.length cap xs rfl (fun i hi => by
    have hc := (cell h0 (i : Int) (by omega) (by omega)).1
    rw [Int.toNat_natCast] at hc
    rw [Nat.zero_add, hc]
    simp [rdOf]) dst hd

end Go.Proofs.Ytpebhbhdkmpjeaa.Gzb

namespace Go.Proofs.Ytpebhbhdkmpjeaa.Q
open Go.RowKit Go.Proofs.YtpebhbhdkmpjeaaW.PrintWords Go.Proofs.YtpebhbhdkmpjeaaW.PrintLast Go.Proofs.YtpebhbhdkmpjeaaW.PrintMore Go.Proofs.Ytpebhbhdkmpjeaa.Gput Go.Proofs.Ytpebhbhdkmpjeaa.Gputl
attribute [local go_sem] max2_int min2_int max_two min_two max_three min_three max_four min_four   -- for this text's walks alone
set_option linter.unusedVariables false
set_option linter.unusedSimpArgs false

/-! ### wire_Int: function 16 -/
mutual
def wire_Int.j0 : Nat → ByteArray → Int → Bool → Option (Int × Int × Int)
  | 0, _, _, _ => none
  | k + 1, x0, x1, x17 => if x17 = true then (some (0, 0, 1)) else (wire_Int.l0 k x0 x1 0 0)
def wire_Int.l0 : Nat → ByteArray → Int → Int → Int → Option (Int × Int × Int)
  | 0, _, _, _, _ => none
  | k + 1, x0, x1, x7, x8 => if (wrap64 (x1 + x8)) = (x0.size : Int) then (some (0, 0, 3)) else (if 0 ≤ (wrap64 (x1 + x8)) then (if (wrap64 (x1 + x8)) < (x0.size : Int) then (if x8 = 9 then (if (bt x0 (wrap64 (x1 + x8))) > 1 then (wire_Int.j2 k x0 x1 x7 x8 (bt x0 (wrap64 (x1 + x8))) true) else (if x8 > 0 then (wire_Int.j2 k x0 x1 x7 x8 (bt x0 (wrap64 (x1 + x8))) ((bt x0 (wrap64 (x1 + x8))) == 0)) else (wire_Int.j2 k x0 x1 x7 x8 (bt x0 (wrap64 (x1 + x8))) false))) else (if x8 > 0 then (wire_Int.j2 k x0 x1 x7 x8 (bt x0 (wrap64 (x1 + x8))) ((bt x0 (wrap64 (x1 + x8))) == 0)) else (wire_Int.j2 k x0 x1 x7 x8 (bt x0 (wrap64 (x1 + x8))) false))) else (none)) else (none))
def wire_Int.j2 : Nat → ByteArray → Int → Int → Int → Int → Bool → Option (Int × Int × Int)
  | 0, _, _, _, _, _, _ => none
  | k + 1, x0, x1, x7, x8, x9, x44 => if x44 = true then (some (0, 0, 2)) else (if 0 ≤ (wrap64 (7 * x8)) then (if x9 < 128 then (some (Go.bits .xor .i64 (wrap64 ((Go.bits .or .u64 x7 (shl .u64 (IntKind.u64.wrap (Go.bits .and .u8 x9 127)) (wrap64 (7 * x8)))) / 2)) (wrap64 (-(wrap64 (Go.bits .and .u64 (Go.bits .or .u64 x7 (shl .u64 (IntKind.u64.wrap (Go.bits .and .u8 x9 127)) (wrap64 (7 * x8)))) 1)))), wrap64 ((wrap64 (x1 + x8)) + 1), 0)) else (wire_Int.l0 k x0 x1 (Go.bits .or .u64 x7 (shl .u64 (IntKind.u64.wrap (Go.bits .and .u8 x9 127)) (wrap64 (7 * x8)))) (wrap64 (x8 + 1)))) else (none))
end
def wire_Int.f (k : Nat) (a0 : ByteArray) (a1 : Int) : Option (Int × Int × Int) := if a1 < 0 then (wire_Int.j0 k a0 a1 true) else (wire_Int.j0 k a0 a1 (decide (a1 > (a0.size : Int))))
theorem wire_Int.mono_l : ∀ k, (∀ y0 y1 y2, LeO (wire_Int.j0 k y0 y1 y2) (wire_Int.j0 (k + 1) y0 y1 y2)) ∧ (∀ y0 y1 y2 y3, LeO (wire_Int.l0 k y0 y1 y2 y3) (wire_Int.l0 (k + 1) y0 y1 y2 y3)) ∧ (∀ y0 y1 y2 y3 y4 y5, LeO (wire_Int.j2 k y0 y1 y2 y3 y4 y5) (wire_Int.j2 (k + 1) y0 y1 y2 y3 y4 y5))
  | 0 => ⟨fun _ _ _ r h => by simp [wire_Int.j0] at h, fun _ _ _ _ r h => by simp [wire_Int.l0] at h, fun _ _ _ _ _ _ r h => by simp [wire_Int.j2] at h⟩
  | k + 1 => by
    obtain ⟨ih0, ih1, ih2⟩ := wire_Int.mono_l k
    refine ⟨?_, ?_, ?_⟩
    · intro y0 y1 y2
      unfold wire_Int.j0
      repeat' first
      | (with_reducible exact ih0 _ _ _)
      | (with_reducible exact ih1 _ _ _ _)
      | (with_reducible exact ih2 _ _ _ _ _ _)
      | (with_reducible exact LeO.refl _)
      | (with_reducible exact LeO.none _)
      | (with_reducible refine LeO.ite ?_ ?_)
      | (with_reducible refine LeO.bind ?_ (fun _ => ?_))
      | exact ih0 _ _ _
      | exact ih1 _ _ _ _
      | exact ih2 _ _ _ _ _ _
      | exact LeO.none _
      | refine LeO.ite ?_ ?_
      | refine LeO.bind ?_ (fun _ => ?_)
    · intro y0 y1 y2 y3
      unfold wire_Int.l0
      repeat' first
      | (with_reducible exact ih0 _ _ _)
      | (with_reducible exact ih1 _ _ _ _)
      | (with_reducible exact ih2 _ _ _ _ _ _)
      | (with_reducible exact LeO.refl _)
      | (with_reducible exact LeO.none _)
      | (with_reducible refine LeO.ite ?_ ?_)
      | (with_reducible refine LeO.bind ?_ (fun _ => ?_))
      | exact ih0 _ _ _
      | exact ih1 _ _ _ _
      | exact ih2 _ _ _ _ _ _
      | exact LeO.none _
      | refine LeO.ite ?_ ?_
      | refine LeO.bind ?_ (fun _ => ?_)
    · intro y0 y1 y2 y3 y4 y5
      unfold wire_Int.j2
      repeat' first
      | (with_reducible exact ih0 _ _ _)
      | (with_reducible exact ih1 _ _ _ _)
      | (with_reducible exact ih2 _ _ _ _ _ _)
      | (with_reducible exact LeO.refl _)
      | (with_reducible exact LeO.none _)
      | (with_reducible refine LeO.ite ?_ ?_)
      | (with_reducible refine LeO.bind ?_ (fun _ => ?_))
      | exact ih0 _ _ _
      | exact ih1 _ _ _ _
      | exact ih2 _ _ _ _ _ _
      | exact LeO.none _
      | refine LeO.ite ?_ ?_
      | refine LeO.bind ?_ (fun _ => ?_)
theorem wire_Int.mono : ∀ a0 a1 k, LeO (wire_Int.f k a0 a1) (wire_Int.f (k + 1) a0 a1) := by
  intro a0 a1 k
  obtain ⟨ih0, ih1, ih2⟩ := wire_Int.mono_l k
  unfold wire_Int.f
  repeat' first
      | (with_reducible exact ih0 _ _ _)
      | (with_reducible exact ih1 _ _ _ _)
      | (with_reducible exact ih2 _ _ _ _ _ _)
      | (with_reducible exact LeO.refl _)
      | (with_reducible exact LeO.none _)
      | (with_reducible refine LeO.ite ?_ ?_)
      | (with_reducible refine LeO.bind ?_ (fun _ => ?_))
      | exact ih0 _ _ _
      | exact ih1 _ _ _ _
      | exact ih2 _ _ _ _ _ _
      | exact LeO.none _
      | refine LeO.ite ?_ ?_
      | refine LeO.bind ?_ (fun _ => ?_)
set_option maxHeartbeats 8000000 in
set_option maxRecDepth 100000 in
theorem wire_Int.calls (k : Nat) (a0 : ByteArray) (a1 : Int) (r1 : Int) (r2 : Int) (r3 : Int) (w : World) (h : wire_Int.f k a0 a1 = some (r1, r2, r3)) :
    Calls Try.prog 16 #[.string a0, .int .i64 a1] w fun e w' => e = .returned (.tuple #[.int .i64 r1, .int .i64 r2, .int .i64 r3]) ∧ Drawn0 w w' := by
  have H : (if a1 < 0 then (wire_Int.j0 k a0 a1 true) else (wire_Int.j0 k a0 a1 (decide (a1 > (a0.size : Int))))) = some (r1, r2, r3) := h
  clear h
  have HC3 := Aside0.mk H
  clear H
  go_enter Try.func16, Try.ntmps16
  go_upto_region 1 with (fail)
  go_cut [17] (fun v17 wc => ∃ (kq : Nat) (x17_2 : Bool), v17 = .bool x17_2 ∧ Aside0 (wire_Int.j0 kq a0 a1 x17_2 = some (r1, r2, r3)) ∧ Aside0 (kq ≤ k) ∧ Drawn0 w wc)
  case first =>
    have H := HC3.out
    clear HC3
    by_cases c4 : a1 < 0
    · rw [if_pos c4] at H
      have c4b0 : decide (a1 < 0) = true := decide_eq_true c4
      clear c4
      (first | rw [c4b0] | (simp only [i64_w, i32_w]; rw [c4b0]) | skip)
      have H' := Aside0.mk H
      clear H
      go_wp2
      go_meet
      case rel => exact ⟨_, (true), (by first | rfl | (simp; done) | (simp [*]; done)), H', ⟨by first | omega | exact Nat.le_refl _⟩, by repeat (first | exact Drawn0.refl _ | apply Drawn0.step)⟩
    · rw [if_neg c4] at H
      have c4b0 : decide (a1 < 0) = false := decide_eq_false c4
      clear c4
      (first | rw [c4b0] | (simp only [i64_w, i32_w]; rw [c4b0]) | skip)
      have H' := Aside0.mk H
      clear H
      go_wp2
      go_meet
      case rel => exact ⟨_, (decide (a1 > (a0.size : Int))), (by first | rfl | (simp; done) | (simp [*]; done)), H', ⟨by first | omega | exact Nat.le_refl _⟩, by repeat (first | exact Drawn0.refl _ | apply Drawn0.step)⟩
  case rest =>
    clear HC3
    try clear c1
    try clear p2
    try clear c4
    try clear c4b0
    obtain ⟨kq, x17_2, rfl, HA, HJ2, ⟨mc2, rfl⟩⟩ := hcut
    cases kq with
    | zero => exact absurd HA.out (by simp [wire_Int.j0])
    | succ kj2 =>
      have H := HA.out
      clear HA
      simp only [wire_Int.j0] at H
      by_cases c5 : x17_2 = true
      · subst c5
        have H1 : (some (0, 0, 1)) = some (r1, r2, r3) := by rw [if_pos rfl] at H; exact H
        clear H
        have H := H1
        clear H1
        simp only [Option.some.injEq, Prod.mk.injEq] at H
        obtain ⟨rfl, rfl, rfl⟩ := H
        go_wp2
        go_ret3
        exact ⟨by first | rfl | (simp; done) | (simp [*]; done), by repeat (first | exact Drawn0.refl _ | apply Drawn0.step)⟩
      · replace c5 := Bool.eq_false_iff.mpr c5
        subst c5
        have H1 : (wire_Int.l0 kj2 a0 a1 0 0) = some (r1, r2, r3) := by rw [if_neg (show ¬ (false = true) by decide)] at H; exact H
        clear H
        have H := H1
        clear H1
        have H' := Aside0.mk H
        clear H
        go_wp2
        go_loopg [7, 8] kj2 (fun kq v7 v8 w' => ∃ (x7_2 : Int) (x8_2 : Int), v7 = .int .u64 x7_2 ∧ v8 = .int .i64 x8_2 ∧ Aside0 (wire_Int.l0 kq a0 a1 x7_2 x8_2 = some (r1, r2, r3)) ∧ Aside0 (kq ≤ kj2) ∧ Drawn0 w w')
        case atStart => exact ⟨(0), (0), (by first | rfl | (simp; done) | (simp [*]; done)), (by first | rfl | (simp; done) | (simp [*]; done)), H', ⟨Nat.le_refl _⟩, by repeat (first | exact Drawn0.refl _ | apply Drawn0.step)⟩
        case round =>
          clear H'
          try clear c1
          try clear c2
          try clear p2
          try clear c4
          try clear c4b0
          try clear c5
          try clear p2
          obtain ⟨x7_2, x8_2, rfl, rfl, HA, HK2, ⟨m2, rfl⟩⟩ := hrel
          cases gk with
          | zero => exact absurd HA.out (by simp [wire_Int.l0])
          | succ k2 =>
            have H := HA.out
            clear HA
            simp only [wire_Int.l0] at H
            by_cases c6 : (wrap64 (a1 + x8_2)) = (a0.size : Int)
            · rw [if_pos c6] at H
              have c6b0 : ((wrap64 (a1 + x8_2)) == (a0.size : Int)) = true := beq_iff_eq.mpr c6
              have c6b1 : ((wrap64 (a1 + x8_2)) != (a0.size : Int)) = false := bne_eq_false_iff_eq.mpr c6
              clear c6
              simp only [Option.some.injEq, Prod.mk.injEq] at H
              obtain ⟨rfl, rfl, rfl⟩ := H
              go_wp2
              go_ret3
              exact ⟨by first | rfl | (simp; done) | (simp [*]; done), by repeat (first | exact Drawn0.refl _ | apply Drawn0.step)⟩
            · rw [if_neg c6] at H
              have c6b0 : ((wrap64 (a1 + x8_2)) == (a0.size : Int)) = false := beq_eq_false_iff_ne.mpr c6
              have c6b1 : ((wrap64 (a1 + x8_2)) != (a0.size : Int)) = true := bne_iff_ne.mpr c6
              obtain ⟨ji7, hji7⟩ : ∃ j_ : Int, (wrap64 (a1 + x8_2)) = j_ := ⟨_, rfl⟩
              replace H : (if 0 ≤ (ji7) then (if (ji7) < (a0.size : Int) then (if x8_2 = 9 then (if (bt a0 (ji7)) > 1 then (wire_Int.j2 k2 a0 a1 x7_2 x8_2 (bt a0 (ji7)) true) else (if x8_2 > 0 then (wire_Int.j2 k2 a0 a1 x7_2 x8_2 (bt a0 (ji7)) ((bt a0 (ji7)) == 0)) else (wire_Int.j2 k2 a0 a1 x7_2 x8_2 (bt a0 (ji7)) false))) else (if x8_2 > 0 then (wire_Int.j2 k2 a0 a1 x7_2 x8_2 (bt a0 (ji7)) ((bt a0 (ji7)) == 0)) else (wire_Int.j2 k2 a0 a1 x7_2 x8_2 (bt a0 (ji7)) false))) else (none)) else (none)) = some (r1, r2, r3) := by first | (rw [hji7] at H; exact H) | (simp only [hji7] at H ⊢; exact H)
              (try rw [hji7] at c6b0)
              (try rw [hji7] at c6b1)
              have hji7w : (IntKind.i64.wrap (a1 + x8_2)) = ji7 := (i64_w _).trans hji7
              by_cases c8 : 0 ≤ (ji7)
              · rw [if_pos c8] at H
                have c8b0 : decide (0 ≤ (ji7)) = true := decide_eq_true c8
                clear c8
                by_cases c9 : (ji7) < (a0.size : Int)
                · rw [if_pos c9] at H
                  have c9b0 : decide ((ji7) < (a0.size : Int)) = true := decide_eq_true c9
                  clear c9
                  have HC11 := Aside0.mk H
                  clear H
                  have p10 : 0 ≤ ((ji7) : Int) := of_decide_eq_true (by first | (with_reducible assumption) | assumption)
                  have q10 : (ji7) < (a0.size : Int) := of_decide_eq_true (by first | (with_reducible assumption) | assumption)
                  have hx10 := bt_at a0 (ji7)
                  replace p10 := eq_true p10
                  replace q10 := eq_true q10
                  go_upto_region 9 with (fail)
                  go_cut [44] (fun v44 wc => ∃ (kq : Nat) (x44_10 : Bool), v44 = .bool x44_10 ∧ Aside0 (wire_Int.j2 kq a0 a1 x7_2 x8_2 (bt a0 (ji7)) x44_10 = some (r1, r2, r3)) ∧ Aside0 (kq ≤ k2) ∧ Drawn0 w wc)
                  case first =>
                    have H := HC11.out
                    clear HC11
                    by_cases c12 : x8_2 = 9
                    · rw [if_pos c12] at H
                      have c12b0 : (x8_2 == 9) = true := beq_iff_eq.mpr c12
                      have c12b1 : (x8_2 != 9) = false := bne_eq_false_iff_eq.mpr c12
                      clear c12
                      (first | rw [c12b0] | (simp only [i64_w, i32_w]; rw [c12b0]) | skip)
                      by_cases c13 : (bt a0 (ji7)) > 1
                      · rw [if_pos c13] at H
                        have c13b0 : decide (1 < (bt a0 (ji7))) = true := decide_eq_true c13
                        clear c13
                        have H' := Aside0.mk H
                        clear H
                        go_wp2
                        go_meet
                        case rel => exact ⟨_, (true), (by first | rfl | (simp; done) | (simp [*]; done)), H', ⟨by have := HJ2.out; have := HK2.out; first | omega | exact Nat.le_refl _⟩, by repeat (first | exact Drawn0.refl _ | apply Drawn0.step)⟩
                      · rw [if_neg c13] at H
                        have c13b0 : decide (1 < (bt a0 (ji7))) = false := decide_eq_false c13
                        clear c13
                        by_cases c14 : x8_2 > 0
                        · rw [if_pos c14] at H
                          have c14b0 : decide (0 < x8_2) = true := decide_eq_true c14
                          clear c14
                          have H' := Aside0.mk H
                          clear H
                          go_wp2
                          go_meet
                          case rel => exact ⟨_, (((bt a0 (ji7)) == 0)), (by first | rfl | (simp; done) | (simp only [← hji7] <;> (first | rfl | simp)) | (simp [*]; done)), H', ⟨by have := HJ2.out; have := HK2.out; first | omega | exact Nat.le_refl _⟩, by repeat (first | exact Drawn0.refl _ | apply Drawn0.step)⟩
                        · rw [if_neg c14] at H
                          have c14b0 : decide (0 < x8_2) = false := decide_eq_false c14
                          clear c14
                          have H' := Aside0.mk H
                          clear H
                          go_wp2
                          go_meet
                          case rel => exact ⟨_, (false), (by first | rfl | (simp; done) | (simp [*]; done)), H', ⟨by have := HJ2.out; have := HK2.out; first | omega | exact Nat.le_refl _⟩, by repeat (first | exact Drawn0.refl _ | apply Drawn0.step)⟩
                    · rw [if_neg c12] at H
                      have c12b0 : (x8_2 == 9) = false := beq_eq_false_iff_ne.mpr c12
                      have c12b1 : (x8_2 != 9) = true := bne_iff_ne.mpr c12
                      (first | rw [c12b0] | (simp only [i64_w, i32_w]; rw [c12b0]) | skip)
                      by_cases c15 : x8_2 > 0
                      · rw [if_pos c15] at H
                        have c15b0 : decide (0 < x8_2) = true := decide_eq_true c15
                        clear c15
                        have H' := Aside0.mk H
                        clear H
                        go_wp2
                        go_meet
                        case rel => exact ⟨_, (((bt a0 (ji7)) == 0)), (by first | rfl | (simp; done) | (simp only [← hji7] <;> (first | rfl | simp)) | (simp [*]; done)), H', ⟨by have := HJ2.out; have := HK2.out; first | omega | exact Nat.le_refl _⟩, by repeat (first | exact Drawn0.refl _ | apply Drawn0.step)⟩
                      · rw [if_neg c15] at H
                        have c15b0 : decide (0 < x8_2) = false := decide_eq_false c15
                        clear c15
                        have H' := Aside0.mk H
                        clear H
                        go_wp2
                        go_meet
                        case rel => exact ⟨_, (false), (by first | rfl | (simp; done) | (simp [*]; done)), H', ⟨by have := HJ2.out; have := HK2.out; first | omega | exact Nat.le_refl _⟩, by repeat (first | exact Drawn0.refl _ | apply Drawn0.step)⟩
                  case rest =>
                    clear HC11
                    try clear c1
                    try clear p1
                    try clear q1
                    try clear hx1
                    try clear c2
                    try clear p2
                    try clear c4
                    try clear c4b0
                    try clear c5
                    try clear c6
                    try clear c6b0
                    try clear c6b1
                    try clear p6
                    try clear c8
                    try clear c8b0
                    try clear c9
                    try clear c9b0
                    try clear p10
                    try clear q10
                    try clear hx10
                    try clear c12
                    try clear c12b0
                    try clear c12b1
                    try clear c13
                    try clear c13b0
                    try clear c14
                    try clear c14b0
                    try clear c15
                    try clear c15b0
                    try clear p10
                    try clear p2
                    try clear q10
                    obtain ⟨kq, x44_10, rfl, HA, HJ10, ⟨mc10, rfl⟩⟩ := hcut
                    cases kq with
                    | zero => exact absurd HA.out (by simp [wire_Int.j2])
                    | succ kj10 =>
                      have H := HA.out
                      clear HA
                      simp only [wire_Int.j2] at H
                      by_cases c16 : x44_10 = true
                      · subst c16
                        have H1 : (some (0, 0, 2)) = some (r1, r2, r3) := by rw [if_pos rfl] at H; exact H
                        clear H
                        have H := H1
                        clear H1
                        simp only [Option.some.injEq, Prod.mk.injEq] at H
                        obtain ⟨rfl, rfl, rfl⟩ := H
                        go_wp2
                        go_ret3
                        exact ⟨by first | rfl | (simp; done) | (simp only [← hji7] <;> (first | rfl | simp)) | (simp [*]; done), by repeat (first | exact Drawn0.refl _ | apply Drawn0.step)⟩
                      · replace c16 := Bool.eq_false_iff.mpr c16
                        subst c16
                        have H1 : (if 0 ≤ (wrap64 (7 * x8_2)) then (if (bt a0 (ji7)) < 128 then (some (Go.bits .xor .i64 (wrap64 ((Go.bits .or .u64 x7_2 (shl .u64 (IntKind.u64.wrap (Go.bits .and .u8 (bt a0 (ji7)) 127)) (wrap64 (7 * x8_2)))) / 2)) (wrap64 (-(wrap64 (Go.bits .and .u64 (Go.bits .or .u64 x7_2 (shl .u64 (IntKind.u64.wrap (Go.bits .and .u8 (bt a0 (ji7)) 127)) (wrap64 (7 * x8_2)))) 1)))), wrap64 ((wrap64 (a1 + x8_2)) + 1), 0)) else (wire_Int.l0 kj10 a0 a1 (Go.bits .or .u64 x7_2 (shl .u64 (IntKind.u64.wrap (Go.bits .and .u8 (bt a0 (ji7)) 127)) (wrap64 (7 * x8_2)))) (wrap64 (x8_2 + 1)))) else (none)) = some (r1, r2, r3) := by rw [if_neg (show ¬ (false = true) by decide)] at H; exact H
                        clear H
                        have H := H1
                        clear H1
                        obtain ⟨ji17, hji17⟩ : ∃ j_ : Int, (wrap64 (7 * x8_2)) = j_ := ⟨_, rfl⟩
                        replace H : (if 0 ≤ (ji17) then (if (bt a0 (ji7)) < 128 then (some (Go.bits .xor .i64 (wrap64 ((Go.bits .or .u64 x7_2 (shl .u64 (IntKind.u64.wrap (Go.bits .and .u8 (bt a0 (ji7)) 127)) (ji17))) / 2)) (wrap64 (-(wrap64 (Go.bits .and .u64 (Go.bits .or .u64 x7_2 (shl .u64 (IntKind.u64.wrap (Go.bits .and .u8 (bt a0 (ji7)) 127)) (ji17))) 1)))), wrap64 ((wrap64 (a1 + x8_2)) + 1), 0)) else (wire_Int.l0 kj10 a0 a1 (Go.bits .or .u64 x7_2 (shl .u64 (IntKind.u64.wrap (Go.bits .and .u8 (bt a0 (ji7)) 127)) (ji17))) (wrap64 (x8_2 + 1)))) else (none)) = some (r1, r2, r3) := by first | (rw [hji17] at H; exact H) | (simp only [hji17] at H ⊢; exact H)
                        have hji17w : (IntKind.i64.wrap (7 * x8_2)) = ji17 := (i64_w _).trans hji17
                        by_cases c18 : 0 ≤ (ji17)
                        · rw [if_pos c18] at H
                          have c18b0 := eq_true c18
                          have c18b1 : decide (0 ≤ (ji17)) = true := decide_eq_true c18
                          clear c18
                          obtain ⟨ji19, hji19⟩ : ∃ j_ : Int, (shl .u64 (IntKind.u64.wrap (Go.bits .and .u8 (bt a0 (ji7)) 127)) (ji17)) = j_ := ⟨_, rfl⟩
                          replace H : (if (bt a0 (ji7)) < 128 then (some (Go.bits .xor .i64 (wrap64 ((Go.bits .or .u64 x7_2 (ji19)) / 2)) (wrap64 (-(wrap64 (Go.bits .and .u64 (Go.bits .or .u64 x7_2 (ji19)) 1)))), wrap64 ((wrap64 (a1 + x8_2)) + 1), 0)) else (wire_Int.l0 kj10 a0 a1 (Go.bits .or .u64 x7_2 (ji19)) (wrap64 (x8_2 + 1)))) = some (r1, r2, r3) := by first | (rw [hji19] at H; exact H) | (simp only [hji19] at H ⊢; exact H)
                          have hji19_ : (IntKind.u64.wrap ((IntKind.u64.wrap (Go.bits .and .u8 (bt a0 (ji7)) 127)) * 2 ^ min (ji17).toNat 64)) = ji19 := hji19
                          have hji19z : (ji17) ≤ 64 → (IntKind.u64.wrap ((IntKind.u64.wrap (Go.bits .and .u8 (bt a0 (ji7)) 127)) * 2 ^ (ji17).toNat)) = ji19 := shl_small hji19
                          by_cases c20 : (bt a0 (ji7)) < 128
                          · rw [if_pos c20] at H
                            have c20b0 : decide ((bt a0 (ji7)) < 128) = true := decide_eq_true c20
                            clear c20
                            simp only [Option.some.injEq, Prod.mk.injEq] at H
                            obtain ⟨rfl, rfl, rfl⟩ := H
                            go_wp2
                            go_ret3
                            exact ⟨by first | rfl | (simp; done) | (simp only [← hji7, ← hji17, ← hji19] <;> (first | rfl | simp)) | (simp [*]; done), by repeat (first | exact Drawn0.refl _ | apply Drawn0.step)⟩
                          · rw [if_neg c20] at H
                            have c20b0 : decide ((bt a0 (ji7)) < 128) = false := decide_eq_false c20
                            clear c20
                            have H' := Aside0.mk H
                            clear H
                            go_wp2
                            go_roundg kj10
                            case measure => have := HJ2.out; have := HK2.out; have := HJ10.out; omega
                            case rel => exact ⟨(Go.bits .or .u64 x7_2 (ji19)), (wrap64 (x8_2 + 1)), (by first | rfl | (simp; done) | (simp only [← hji19] <;> (first | rfl | simp)) | (simp [*]; done)), (by first | rfl | (simp; done) | (simp [*]; done)), H', ⟨by have := HJ2.out; have := HK2.out; have := HJ10.out; omega⟩, by repeat (first | exact Drawn0.refl _ | apply Drawn0.step)⟩
                        · rw [if_neg c18] at H
                          exact absurd H (by simp)
                · rw [if_neg c9] at H
                  exact absurd H (by simp)
              · rw [if_neg c8] at H
                exact absurd H (by simp)

end Go.Proofs.Ytpebhbhdkmpjeaa.Q

namespace Go.Proofs.Ytpebhbhdkmpjeaa.Q
open Go.RowKit Go.Proofs.YtpebhbhdkmpjeaaW.PrintWords Go.Proofs.YtpebhbhdkmpjeaaW.PrintLast Go.Proofs.YtpebhbhdkmpjeaaW.PrintMore Go.Proofs.Ytpebhbhdkmpjeaa.Gput Go.Proofs.Ytpebhbhdkmpjeaa.Gputl
attribute [local go_sem] max2_int min2_int max_two min_two max_three min_three max_four min_four   -- for this text's walks alone
set_option linter.unusedVariables false
set_option linter.unusedSimpArgs false

/-! ### storagebarterlaw01_sane: function 13 -/
def storagebarterlaw01_sane.f (k : Nat)  : Option (Bool) := (wire_Int.f k (⟨#[128, 1]⟩ : ByteArray) 0).bind fun bt101 => ((wire_Int.f k (⟨#[128, 0]⟩ : ByteArray) 0).bind fun bt104 => ((wire_PutInt.f (⟨#[]⟩ : ByteArray) 64).bind fun t107 => (if t107.toList = ([128, 1] : List UInt8) then ((wire_PutInt.f (⟨#[97]⟩ : ByteArray) (-1)).bind fun t108 => (if t108.toList = ([97, 1] : List UInt8) then (if bt101.1 = 64 then (if bt101.2.1 = 2 then (if bt101.2.2 = 0 then (some (bt104.2.2 == 2)) else (some false)) else (some false)) else (some false)) else (some false))) else (some false))))
theorem storagebarterlaw01_sane.mono : ∀ k, LeO (storagebarterlaw01_sane.f k ) (storagebarterlaw01_sane.f (k + 1) ) := by
  intro  k
  unfold storagebarterlaw01_sane.f
  repeat' first
      | (with_reducible exact wire_Int.mono _ _ _)
      | (with_reducible exact LeO.refl _)
      | (with_reducible exact LeO.none _)
      | (with_reducible refine LeO.ite ?_ ?_)
      | (with_reducible refine LeO.bind ?_ (fun _ => ?_))
      | exact wire_Int.mono _ _ _
      | exact LeO.none _
      | refine LeO.ite ?_ ?_
      | refine LeO.bind ?_ (fun _ => ?_)
set_option maxHeartbeats 8000000 in
set_option maxRecDepth 100000 in
theorem storagebarterlaw01_sane.calls (k : Nat)  (r : Bool) (w : World) (h : storagebarterlaw01_sane.f k  = some r) :
    Calls Try.prog 13 #[] w fun e w' => e = .returned (.bool r) ∧ Below w.heap.size w w' := by
  have HB := Aside0.mk (Below.refl w.heap.size w)
  have H : ((wire_Int.f k (⟨#[128, 1]⟩ : ByteArray) 0).bind fun bt101 => ((wire_Int.f k (⟨#[128, 0]⟩ : ByteArray) 0).bind fun bt104 => ((wire_PutInt.f (⟨#[]⟩ : ByteArray) 64).bind fun t107 => (if t107.toList = ([128, 1] : List UInt8) then ((wire_PutInt.f (⟨#[97]⟩ : ByteArray) (-1)).bind fun t108 => (if t108.toList = ([97, 1] : List UInt8) then (if bt101.1 = 64 then (if bt101.2.1 = 2 then (if bt101.2.2 = 0 then (some (bt104.2.2 == 2)) else (some false)) else (some false)) else (some false)) else (some false))) else (some false))))) = some r := h
  clear h
  replace H := Option.bind_eq_some_iff.mp H
  obtain ⟨⟨t101, t102, t103⟩, A10, H⟩ := H
  replace H : ((wire_Int.f k (⟨#[128, 0]⟩ : ByteArray) 0).bind fun bt104 => ((wire_PutInt.f (⟨#[]⟩ : ByteArray) 64).bind fun t107 => (if t107.toList = ([128, 1] : List UInt8) then ((wire_PutInt.f (⟨#[97]⟩ : ByteArray) (-1)).bind fun t108 => (if t108.toList = ([97, 1] : List UInt8) then (if t101 = 64 then (if t102 = 2 then (if t103 = 0 then (some (bt104.2.2 == 2)) else (some false)) else (some false)) else (some false)) else (some false))) else (some false)))) = some r := H
  have A1 := Aside0.mk A10
  clear A10
  replace H := Option.bind_eq_some_iff.mp H
  obtain ⟨⟨t104, t105, t106⟩, A20, H⟩ := H
  replace H : ((wire_PutInt.f (⟨#[]⟩ : ByteArray) 64).bind fun t107 => (if t107.toList = ([128, 1] : List UInt8) then ((wire_PutInt.f (⟨#[97]⟩ : ByteArray) (-1)).bind fun t108 => (if t108.toList = ([97, 1] : List UInt8) then (if t101 = 64 then (if t102 = 2 then (if t103 = 0 then (some (t106 == 2)) else (some false)) else (some false)) else (some false)) else (some false))) else (some false))) = some r := H
  have A2 := Aside0.mk A20
  clear A20
  replace H := Option.bind_eq_some_iff.mp H
  obtain ⟨t107, A30, H⟩ := H
  replace H : (if t107.toList = ([128, 1] : List UInt8) then ((wire_PutInt.f (⟨#[97]⟩ : ByteArray) (-1)).bind fun t108 => (if t108.toList = ([97, 1] : List UInt8) then (if t101 = 64 then (if t102 = 2 then (if t103 = 0 then (some (t106 == 2)) else (some false)) else (some false)) else (some false)) else (some false))) else (some false)) = some r := H
  have A3 := Aside0.mk A30
  clear A30
  by_cases c4 : t107.toList = ([128, 1] : List UInt8)
  · rw [if_pos c4] at H
    have c4b0 : (t107.toList == ([128, 1] : List UInt8)) = true := beq_iff_eq.mpr c4
    have c4b1 : (t107.toList != ([128, 1] : List UInt8)) = false := bne_eq_false_iff_eq.mpr c4
    clear c4
    replace H := Option.bind_eq_some_iff.mp H
    obtain ⟨t108, A50, H⟩ := H
    replace H : (if t108.toList = ([97, 1] : List UInt8) then (if t101 = 64 then (if t102 = 2 then (if t103 = 0 then (some (t106 == 2)) else (some false)) else (some false)) else (some false)) else (some false)) = some r := H
    have A5 := Aside0.mk A50
    clear A50
    by_cases c6 : t108.toList = ([97, 1] : List UInt8)
    · rw [if_pos c6] at H
      have c6b0 : (t108.toList == ([97, 1] : List UInt8)) = true := beq_iff_eq.mpr c6
      have c6b1 : (t108.toList != ([97, 1] : List UInt8)) = false := bne_eq_false_iff_eq.mpr c6
      clear c6
      by_cases c7 : t101 = 64
      · rw [if_pos c7] at H
        have c7b0 : (t101 == 64) = true := beq_iff_eq.mpr c7
        have c7b1 : (t101 != 64) = false := bne_eq_false_iff_eq.mpr c7
        clear c7
        by_cases c8 : t102 = 2
        · rw [if_pos c8] at H
          have c8b0 : (t102 == 2) = true := beq_iff_eq.mpr c8
          have c8b1 : (t102 != 2) = false := bne_eq_false_iff_eq.mpr c8
          clear c8
          by_cases c9 : t103 = 0
          · rw [if_pos c9] at H
            have c9b0 : (t103 == 0) = true := beq_iff_eq.mpr c9
            have c9b1 : (t103 != 0) = false := bne_eq_false_iff_eq.mpr c9
            clear c9
            obtain rfl := Option.some.inj H
            go_enter Try.func13, Try.ntmps13
            go_wp2_with (first | ((with_reducible refine gate_callee (f := 16) rfl ?_); refine goesL_ (some 8) rfl rfl Try.func16 (by kernel_rfl) rfl #[.string (⟨#[128, 1]⟩ : ByteArray), .int .i64 0] rfl (by (try simp only [List.map_toArray, List.map_cons, List.map_nil]); first | done | rfl | (simp only [List.length_drop, List.length_take]; rfl)) ?_; (with_reducible refine (wire_Int.calls k (⟨#[128, 1]⟩ : ByteArray) 0 t101 t102 t103 _ A1.out).mono ?_); rintro e w' ⟨rfl, ⟨nd, rfl⟩⟩; refine ⟨_, rfl, ?_⟩) | ((with_reducible refine gate_callee (f := 16) rfl ?_); refine goesL_ (some 13) rfl rfl Try.func16 (by kernel_rfl) rfl #[.string (⟨#[128, 0]⟩ : ByteArray), .int .i64 0] rfl (by (try simp only [List.map_toArray, List.map_cons, List.map_nil]); first | done | rfl | (simp only [List.length_drop, List.length_take]; rfl)) ?_; (with_reducible refine (wire_Int.calls k (⟨#[128, 0]⟩ : ByteArray) 0 t104 t105 t106 _ A2.out).mono ?_); rintro e w' ⟨rfl, ⟨nd, rfl⟩⟩; refine ⟨_, rfl, ?_⟩) | ((with_reducible refine gate_callee (f := 14) rfl ?_); refine goesL_ (some 17) rfl rfl Try.func14 (by kernel_rfl) rfl #[.string (⟨#[]⟩ : ByteArray), .int .i64 64] rfl (by (try simp only [List.map_toArray, List.map_cons, List.map_nil]); first | done | rfl | (simp only [List.length_drop, List.length_take]; rfl)) ?_; (with_reducible refine (wire_PutInt.calls (⟨#[]⟩ : ByteArray) 64 t107 _ A3.out).mono ?_); rintro e w10 ⟨rfl, hb⟩; refine ⟨_, rfl, ?_⟩; have n0_ := Aside0.mk (below_step (by repeat (first | (with_reducible first | exact HB.out | apply below_alloc | apply pw_below_drewN | apply below_drew1) | exact HB.out)) hb); clear HB; have HB := n0_; clear n0_; (try clear hb); (try clear hb2); (try clear hk); (try clear hi)) | (go_at_call 14; (with_reducible refine (wire_PutInt.calls (⟨#[97]⟩ : ByteArray) (-1) t108 _ A5.out).mono ?_); rintro e w11 ⟨rfl, hb⟩; have n0_ := Aside0.mk (below_step (by repeat (first | (with_reducible first | exact HB.out | apply below_alloc | apply pw_below_drewN | apply below_drew1) | exact HB.out)) hb); clear HB; have HB := n0_; clear n0_; (try clear hb); (try clear hb2); (try clear hk); (try clear hi)))
            go_ret
            exact ⟨by first | rfl | (simp [errW_none, errW_some] <;> rfl) | (simp [*, errW_none, errW_some] <;> rfl), by repeat (first | (with_reducible first | exact HB.out | apply below_alloc | apply pw_below_drewN | apply below_drew1) | exact HB.out)⟩
          · rw [if_neg c9] at H
            have c9b0 : (t103 == 0) = false := beq_eq_false_iff_ne.mpr c9
            have c9b1 : (t103 != 0) = true := bne_iff_ne.mpr c9
            obtain rfl := Option.some.inj H
            go_enter Try.func13, Try.ntmps13
            go_wp2_with (first | ((with_reducible refine gate_callee (f := 16) rfl ?_); refine goesL_ (some 8) rfl rfl Try.func16 (by kernel_rfl) rfl #[.string (⟨#[128, 1]⟩ : ByteArray), .int .i64 0] rfl (by (try simp only [List.map_toArray, List.map_cons, List.map_nil]); first | done | rfl | (simp only [List.length_drop, List.length_take]; rfl)) ?_; (with_reducible refine (wire_Int.calls k (⟨#[128, 1]⟩ : ByteArray) 0 t101 t102 t103 _ A1.out).mono ?_); rintro e w' ⟨rfl, ⟨nd, rfl⟩⟩; refine ⟨_, rfl, ?_⟩) | ((with_reducible refine gate_callee (f := 16) rfl ?_); refine goesL_ (some 13) rfl rfl Try.func16 (by kernel_rfl) rfl #[.string (⟨#[128, 0]⟩ : ByteArray), .int .i64 0] rfl (by (try simp only [List.map_toArray, List.map_cons, List.map_nil]); first | done | rfl | (simp only [List.length_drop, List.length_take]; rfl)) ?_; (with_reducible refine (wire_Int.calls k (⟨#[128, 0]⟩ : ByteArray) 0 t104 t105 t106 _ A2.out).mono ?_); rintro e w' ⟨rfl, ⟨nd, rfl⟩⟩; refine ⟨_, rfl, ?_⟩) | ((with_reducible refine gate_callee (f := 14) rfl ?_); refine goesL_ (some 17) rfl rfl Try.func14 (by kernel_rfl) rfl #[.string (⟨#[]⟩ : ByteArray), .int .i64 64] rfl (by (try simp only [List.map_toArray, List.map_cons, List.map_nil]); first | done | rfl | (simp only [List.length_drop, List.length_take]; rfl)) ?_; (with_reducible refine (wire_PutInt.calls (⟨#[]⟩ : ByteArray) 64 t107 _ A3.out).mono ?_); rintro e w12 ⟨rfl, hb⟩; refine ⟨_, rfl, ?_⟩; have n0_ := Aside0.mk (below_step (by repeat (first | (with_reducible first | exact HB.out | apply below_alloc | apply pw_below_drewN | apply below_drew1) | exact HB.out)) hb); clear HB; have HB := n0_; clear n0_; (try clear hb); (try clear hb2); (try clear hk); (try clear hi)) | (go_at_call 14; (with_reducible refine (wire_PutInt.calls (⟨#[97]⟩ : ByteArray) (-1) t108 _ A5.out).mono ?_); rintro e w13 ⟨rfl, hb⟩; have n0_ := Aside0.mk (below_step (by repeat (first | (with_reducible first | exact HB.out | apply below_alloc | apply pw_below_drewN | apply below_drew1) | exact HB.out)) hb); clear HB; have HB := n0_; clear n0_; (try clear hb); (try clear hb2); (try clear hk); (try clear hi)))
            go_ret
            exact ⟨by first | rfl | (simp [errW_none, errW_some] <;> rfl) | (simp [*, errW_none, errW_some] <;> rfl), by repeat (first | (with_reducible first | exact HB.out | apply below_alloc | apply pw_below_drewN | apply below_drew1) | exact HB.out)⟩
        · rw [if_neg c8] at H
          have c8b0 : (t102 == 2) = false := beq_eq_false_iff_ne.mpr c8
          have c8b1 : (t102 != 2) = true := bne_iff_ne.mpr c8
          obtain rfl := Option.some.inj H
          go_enter Try.func13, Try.ntmps13
          go_wp2_with (first | ((with_reducible refine gate_callee (f := 16) rfl ?_); refine goesL_ (some 8) rfl rfl Try.func16 (by kernel_rfl) rfl #[.string (⟨#[128, 1]⟩ : ByteArray), .int .i64 0] rfl (by (try simp only [List.map_toArray, List.map_cons, List.map_nil]); first | done | rfl | (simp only [List.length_drop, List.length_take]; rfl)) ?_; (with_reducible refine (wire_Int.calls k (⟨#[128, 1]⟩ : ByteArray) 0 t101 t102 t103 _ A1.out).mono ?_); rintro e w' ⟨rfl, ⟨nd, rfl⟩⟩; refine ⟨_, rfl, ?_⟩) | ((with_reducible refine gate_callee (f := 16) rfl ?_); refine goesL_ (some 13) rfl rfl Try.func16 (by kernel_rfl) rfl #[.string (⟨#[128, 0]⟩ : ByteArray), .int .i64 0] rfl (by (try simp only [List.map_toArray, List.map_cons, List.map_nil]); first | done | rfl | (simp only [List.length_drop, List.length_take]; rfl)) ?_; (with_reducible refine (wire_Int.calls k (⟨#[128, 0]⟩ : ByteArray) 0 t104 t105 t106 _ A2.out).mono ?_); rintro e w' ⟨rfl, ⟨nd, rfl⟩⟩; refine ⟨_, rfl, ?_⟩) | ((with_reducible refine gate_callee (f := 14) rfl ?_); refine goesL_ (some 17) rfl rfl Try.func14 (by kernel_rfl) rfl #[.string (⟨#[]⟩ : ByteArray), .int .i64 64] rfl (by (try simp only [List.map_toArray, List.map_cons, List.map_nil]); first | done | rfl | (simp only [List.length_drop, List.length_take]; rfl)) ?_; (with_reducible refine (wire_PutInt.calls (⟨#[]⟩ : ByteArray) 64 t107 _ A3.out).mono ?_); rintro e w14 ⟨rfl, hb⟩; refine ⟨_, rfl, ?_⟩; have n0_ := Aside0.mk (below_step (by repeat (first | (with_reducible first | exact HB.out | apply below_alloc | apply pw_below_drewN | apply below_drew1) | exact HB.out)) hb); clear HB; have HB := n0_; clear n0_; (try clear hb); (try clear hb2); (try clear hk); (try clear hi)) | (go_at_call 14; (with_reducible refine (wire_PutInt.calls (⟨#[97]⟩ : ByteArray) (-1) t108 _ A5.out).mono ?_); rintro e w15 ⟨rfl, hb⟩; have n0_ := Aside0.mk (below_step (by repeat (first | (with_reducible first | exact HB.out | apply below_alloc | apply pw_below_drewN | apply below_drew1) | exact HB.out)) hb); clear HB; have HB := n0_; clear n0_; (try clear hb); (try clear hb2); (try clear hk); (try clear hi)))
          go_ret
          exact ⟨by first | rfl | (simp [errW_none, errW_some] <;> rfl) | (simp [*, errW_none, errW_some] <;> rfl), by repeat (first | (with_reducible first | exact HB.out | apply below_alloc | apply pw_below_drewN | apply below_drew1) | exact HB.out)⟩
      · rw [if_neg c7] at H
        have c7b0 : (t101 == 64) = false := beq_eq_false_iff_ne.mpr c7
        have c7b1 : (t101 != 64) = true := bne_iff_ne.mpr c7
        obtain rfl := Option.some.inj H
        go_enter Try.func13, Try.ntmps13
        go_wp2_with (first | ((with_reducible refine gate_callee (f := 16) rfl ?_); refine goesL_ (some 8) rfl rfl Try.func16 (by kernel_rfl) rfl #[.string (⟨#[128, 1]⟩ : ByteArray), .int .i64 0] rfl (by (try simp only [List.map_toArray, List.map_cons, List.map_nil]); first | done | rfl | (simp only [List.length_drop, List.length_take]; rfl)) ?_; (with_reducible refine (wire_Int.calls k (⟨#[128, 1]⟩ : ByteArray) 0 t101 t102 t103 _ A1.out).mono ?_); rintro e w' ⟨rfl, ⟨nd, rfl⟩⟩; refine ⟨_, rfl, ?_⟩) | ((with_reducible refine gate_callee (f := 16) rfl ?_); refine goesL_ (some 13) rfl rfl Try.func16 (by kernel_rfl) rfl #[.string (⟨#[128, 0]⟩ : ByteArray), .int .i64 0] rfl (by (try simp only [List.map_toArray, List.map_cons, List.map_nil]); first | done | rfl | (simp only [List.length_drop, List.length_take]; rfl)) ?_; (with_reducible refine (wire_Int.calls k (⟨#[128, 0]⟩ : ByteArray) 0 t104 t105 t106 _ A2.out).mono ?_); rintro e w' ⟨rfl, ⟨nd, rfl⟩⟩; refine ⟨_, rfl, ?_⟩) | ((with_reducible refine gate_callee (f := 14) rfl ?_); refine goesL_ (some 17) rfl rfl Try.func14 (by kernel_rfl) rfl #[.string (⟨#[]⟩ : ByteArray), .int .i64 64] rfl (by (try simp only [List.map_toArray, List.map_cons, List.map_nil]); first | done | rfl | (simp only [List.length_drop, List.length_take]; rfl)) ?_; (with_reducible refine (wire_PutInt.calls (⟨#[]⟩ : ByteArray) 64 t107 _ A3.out).mono ?_); rintro e w16 ⟨rfl, hb⟩; refine ⟨_, rfl, ?_⟩; have n0_ := Aside0.mk (below_step (by repeat (first | (with_reducible first | exact HB.out | apply below_alloc | apply pw_below_drewN | apply below_drew1) | exact HB.out)) hb); clear HB; have HB := n0_; clear n0_; (try clear hb); (try clear hb2); (try clear hk); (try clear hi)) | (go_at_call 14; (with_reducible refine (wire_PutInt.calls (⟨#[97]⟩ : ByteArray) (-1) t108 _ A5.out).mono ?_); rintro e w17 ⟨rfl, hb⟩; have n0_ := Aside0.mk (below_step (by repeat (first | (with_reducible first | exact HB.out | apply below_alloc | apply pw_below_drewN | apply below_drew1) | exact HB.out)) hb); clear HB; have HB := n0_; clear n0_; (try clear hb); (try clear hb2); (try clear hk); (try clear hi)))
        go_ret
        exact ⟨by first | rfl | (simp [errW_none, errW_some] <;> rfl) | (simp [*, errW_none, errW_some] <;> rfl), by repeat (first | (with_reducible first | exact HB.out | apply below_alloc | apply pw_below_drewN | apply below_drew1) | exact HB.out)⟩
    · rw [if_neg c6] at H
      have c6b0 : (t108.toList == ([97, 1] : List UInt8)) = false := beq_eq_false_iff_ne.mpr c6
      have c6b1 : (t108.toList != ([97, 1] : List UInt8)) = true := bne_iff_ne.mpr c6
      obtain rfl := Option.some.inj H
      go_enter Try.func13, Try.ntmps13
      go_wp2_with (first | ((with_reducible refine gate_callee (f := 16) rfl ?_); refine goesL_ (some 8) rfl rfl Try.func16 (by kernel_rfl) rfl #[.string (⟨#[128, 1]⟩ : ByteArray), .int .i64 0] rfl (by (try simp only [List.map_toArray, List.map_cons, List.map_nil]); first | done | rfl | (simp only [List.length_drop, List.length_take]; rfl)) ?_; (with_reducible refine (wire_Int.calls k (⟨#[128, 1]⟩ : ByteArray) 0 t101 t102 t103 _ A1.out).mono ?_); rintro e w' ⟨rfl, ⟨nd, rfl⟩⟩; refine ⟨_, rfl, ?_⟩) | ((with_reducible refine gate_callee (f := 16) rfl ?_); refine goesL_ (some 13) rfl rfl Try.func16 (by kernel_rfl) rfl #[.string (⟨#[128, 0]⟩ : ByteArray), .int .i64 0] rfl (by (try simp only [List.map_toArray, List.map_cons, List.map_nil]); first | done | rfl | (simp only [List.length_drop, List.length_take]; rfl)) ?_; (with_reducible refine (wire_Int.calls k (⟨#[128, 0]⟩ : ByteArray) 0 t104 t105 t106 _ A2.out).mono ?_); rintro e w' ⟨rfl, ⟨nd, rfl⟩⟩; refine ⟨_, rfl, ?_⟩) | ((with_reducible refine gate_callee (f := 14) rfl ?_); refine goesL_ (some 17) rfl rfl Try.func14 (by kernel_rfl) rfl #[.string (⟨#[]⟩ : ByteArray), .int .i64 64] rfl (by (try simp only [List.map_toArray, List.map_cons, List.map_nil]); first | done | rfl | (simp only [List.length_drop, List.length_take]; rfl)) ?_; (with_reducible refine (wire_PutInt.calls (⟨#[]⟩ : ByteArray) 64 t107 _ A3.out).mono ?_); rintro e w18 ⟨rfl, hb⟩; refine ⟨_, rfl, ?_⟩; have n0_ := Aside0.mk (below_step (by repeat (first | (with_reducible first | exact HB.out | apply below_alloc | apply pw_below_drewN | apply below_drew1) | exact HB.out)) hb); clear HB; have HB := n0_; clear n0_; (try clear hb); (try clear hb2); (try clear hk); (try clear hi)) | (go_at_call 14; (with_reducible refine (wire_PutInt.calls (⟨#[97]⟩ : ByteArray) (-1) t108 _ A5.out).mono ?_); rintro e w19 ⟨rfl, hb⟩; have n0_ := Aside0.mk (below_step (by repeat (first | (with_reducible first | exact HB.out | apply below_alloc | apply pw_below_drewN | apply below_drew1) | exact HB.out)) hb); clear HB; have HB := n0_; clear n0_; (try clear hb); (try clear hb2); (try clear hk); (try clear hi)))
      go_ret
      exact ⟨by first | rfl | (simp [errW_none, errW_some] <;> rfl) | (simp [*, errW_none, errW_some] <;> rfl), by repeat (first | (with_reducible first | exact HB.out | apply below_alloc | apply pw_below_drewN | apply below_drew1) | exact HB.out)⟩
  · rw [if_neg c4] at H
    have c4b0 : (t107.toList == ([128, 1] : List UInt8)) = false := beq_eq_false_iff_ne.mpr c4
    have c4b1 : (t107.toList != ([128, 1] : List UInt8)) = true := bne_iff_ne.mpr c4
    obtain rfl := Option.some.inj H
    go_enter Try.func13, Try.ntmps13
    go_wp2_with (first | ((with_reducible refine gate_callee (f := 16) rfl ?_); refine goesL_ (some 8) rfl rfl Try.func16 (by kernel_rfl) rfl #[.string (⟨#[128, 1]⟩ : ByteArray), .int .i64 0] rfl (by (try simp only [List.map_toArray, List.map_cons, List.map_nil]); first | done | rfl | (simp only [List.length_drop, List.length_take]; rfl)) ?_; (with_reducible refine (wire_Int.calls k (⟨#[128, 1]⟩ : ByteArray) 0 t101 t102 t103 _ A1.out).mono ?_); rintro e w' ⟨rfl, ⟨nd, rfl⟩⟩; refine ⟨_, rfl, ?_⟩) | ((with_reducible refine gate_callee (f := 16) rfl ?_); refine goesL_ (some 13) rfl rfl Try.func16 (by kernel_rfl) rfl #[.string (⟨#[128, 0]⟩ : ByteArray), .int .i64 0] rfl (by (try simp only [List.map_toArray, List.map_cons, List.map_nil]); first | done | rfl | (simp only [List.length_drop, List.length_take]; rfl)) ?_; (with_reducible refine (wire_Int.calls k (⟨#[128, 0]⟩ : ByteArray) 0 t104 t105 t106 _ A2.out).mono ?_); rintro e w' ⟨rfl, ⟨nd, rfl⟩⟩; refine ⟨_, rfl, ?_⟩) | ((with_reducible refine gate_callee (f := 14) rfl ?_); refine goesL_ (some 17) rfl rfl Try.func14 (by kernel_rfl) rfl #[.string (⟨#[]⟩ : ByteArray), .int .i64 64] rfl (by (try simp only [List.map_toArray, List.map_cons, List.map_nil]); first | done | rfl | (simp only [List.length_drop, List.length_take]; rfl)) ?_; (with_reducible refine (wire_PutInt.calls (⟨#[]⟩ : ByteArray) 64 t107 _ A3.out).mono ?_); rintro e w20 ⟨rfl, hb⟩; refine ⟨_, rfl, ?_⟩; have n0_ := Aside0.mk (below_step (by repeat (first | (with_reducible first | exact HB.out | apply below_alloc | apply pw_below_drewN | apply below_drew1) | exact HB.out)) hb); clear HB; have HB := n0_; clear n0_; (try clear hb); (try clear hb2); (try clear hk); (try clear hi)))
    go_ret
    exact ⟨by first | rfl | (simp [errW_none, errW_some] <;> rfl) | (simp [*, errW_none, errW_some] <;> rfl), by repeat (first | (with_reducible first | exact HB.out | apply below_alloc | apply pw_below_drewN | apply below_drew1) | exact HB.out)⟩

end Go.Proofs.Ytpebhbhdkmpjeaa.Q

namespace Go.Proofs.Ytpebhbhdkmpjeaa.Q
open Go.RowKit Go.Proofs.YtpebhbhdkmpjeaaW.PrintWords Go.Proofs.YtpebhbhdkmpjeaaW.PrintLast Go.Proofs.YtpebhbhdkmpjeaaW.PrintMore Go.Proofs.Ytpebhbhdkmpjeaa.Gput Go.Proofs.Ytpebhbhdkmpjeaa.Gputl
attribute [local go_sem] max2_int min2_int max_two min_two max_three min_three max_four min_four   -- for this text's walks alone
set_option linter.unusedVariables false
set_option linter.unusedSimpArgs false

/-! ### storagebarterref01_PutInt: function 15 -/
def storagebarterref01_PutInt.l0 : Nat → ByteArray → Int → Option (ByteArray)
  | 0, _, _ => none
  | k + 1, x0, x5 => if x5 > 127 then ((some (([Go.bits .or .u8 ((x5) % 256) 128] : List Int) : List Int)).bind fun y109 => (if x0.size + (strOfNums y109).size ≤ 9223372036854775807 then (storagebarterref01_PutInt.l0 k (x0 ++ (strOfNums y109)) (x5 / 128)) else (none))) else ((some (([(x5) % 256] : List Int) : List Int)).bind fun y112 => (if x0.size + (strOfNums y112).size ≤ 9223372036854775807 then (some (x0 ++ (strOfNums y112))) else (none)))
def storagebarterref01_PutInt.f (k : Nat) (a0 : ByteArray) (a1 : Int) : Option (ByteArray) := storagebarterref01_PutInt.l0 k a0 (Go.bits .xor .u64 (IntKind.u64.wrap ((IntKind.u64.wrap (a1)) * 2)) (IntKind.u64.wrap (a1 / 9223372036854775808)))
theorem storagebarterref01_PutInt.mono_l : ∀ k, (∀ y0 y1, LeO (storagebarterref01_PutInt.l0 k y0 y1) (storagebarterref01_PutInt.l0 (k + 1) y0 y1))
  | 0 => fun _ _ r h => by simp [storagebarterref01_PutInt.l0] at h
  | k + 1 => by
    have ih0 := storagebarterref01_PutInt.mono_l k
    · intro y0 y1
      unfold storagebarterref01_PutInt.l0
      repeat' first
      | (with_reducible exact ih0 _ _)
      | (with_reducible exact LeO.refl _)
      | (with_reducible exact LeO.none _)
      | (with_reducible refine LeO.ite ?_ ?_)
      | (with_reducible refine LeO.bind ?_ (fun _ => ?_))
      | exact ih0 _ _
      | exact LeO.none _
      | refine LeO.ite ?_ ?_
      | refine LeO.bind ?_ (fun _ => ?_)
theorem storagebarterref01_PutInt.mono : ∀ a0 a1 k, LeO (storagebarterref01_PutInt.f k a0 a1) (storagebarterref01_PutInt.f (k + 1) a0 a1) := by
  intro a0 a1 k
  have ih0 := storagebarterref01_PutInt.mono_l k
  unfold storagebarterref01_PutInt.f
  repeat' first
      | (with_reducible exact ih0 _ _)
      | (with_reducible exact LeO.refl _)
      | (with_reducible exact LeO.none _)
      | (with_reducible refine LeO.ite ?_ ?_)
      | (with_reducible refine LeO.bind ?_ (fun _ => ?_))
      | exact ih0 _ _
      | exact LeO.none _
      | refine LeO.ite ?_ ?_
      | refine LeO.bind ?_ (fun _ => ?_)
set_option maxHeartbeats 8000000 in
set_option maxRecDepth 100000 in
theorem storagebarterref01_PutInt.calls (k : Nat) (a0 : ByteArray) (a1 : Int) (r : ByteArray) (w : World) (h : storagebarterref01_PutInt.f k a0 a1 = some r) :
    Calls Try.prog 15 #[.string a0, .int .i64 a1] w fun e w' => e = .returned (.string r) ∧ Below w.heap.size w w' := by
  have HB := Aside0.mk (Below.refl w.heap.size w)
  have H : (storagebarterref01_PutInt.l0 k a0 (Go.bits .xor .u64 (IntKind.u64.wrap ((IntKind.u64.wrap (a1)) * 2)) (IntKind.u64.wrap (a1 / 9223372036854775808)))) = some r := h
  clear h
  have H' := Aside0.mk H
  clear H
  go_enter Try.func15, Try.ntmps15
  go_wp2
  go_loopg [0, 5] k (fun kq v0 v5 w' => ∃ (x0_1 : ByteArray) (x5_1 : Int), v0 = .string x0_1 ∧ v5 = .int .u64 x5_1 ∧ Aside0 (storagebarterref01_PutInt.l0 kq x0_1 x5_1 = some r) ∧ Aside0 (kq ≤ k) ∧ Aside0 (Below w.heap.size w w'))
  case atStart => exact ⟨(a0), (Go.bits .xor .u64 (IntKind.u64.wrap ((IntKind.u64.wrap (a1)) * 2)) (IntKind.u64.wrap (a1 / 9223372036854775808))), (by first | rfl | (simp; done) | (simp [*]; done)), (by first | rfl | (simp; done) | (simp [*]; done)), H', ⟨Nat.le_refl _⟩, ⟨by repeat (first | (with_reducible first | exact HB.out | apply below_alloc | apply pw_below_drewN | apply below_drew1) | exact HB.out)⟩⟩
  case round =>
    clear H'
    try clear c1
    try clear p2
    obtain ⟨x0_1, x5_1, rfl, rfl, HA, HK1, HB⟩ := hrel
    cases gk with
    | zero => exact absurd HA.out (by simp [storagebarterref01_PutInt.l0])
    | succ k1 =>
      have H := HA.out
      clear HA
      simp only [storagebarterref01_PutInt.l0] at H
      by_cases c3 : x5_1 > 127
      · rw [if_pos c3] at H
        have c3b0 : decide (127 < x5_1) = true := decide_eq_true c3
        clear c3
        obtain ⟨y109, hy109⟩ : ∃ y_ : List Int, y_ = (([Go.bits .or .u8 ((x5_1) % 256) 128] : List Int)) := ⟨_, rfl⟩
        replace H : (if x0_1.size + (strOfNums y109).size ≤ 9223372036854775807 then (storagebarterref01_PutInt.l0 k1 (x0_1 ++ (strOfNums y109)) (x5_1 / 128)) else (none)) = some r := by first | (rw [hy109]; with_reducible exact H) | (have H2_ := (Option.bind_some _ _).symm.trans H; rw [hy109]; with_reducible exact H2_) | (have H2_ := (Option.bind_some _ _).symm.trans H; with_reducible exact H2_) | with_reducible exact H | (rw [hy109]; exact H) | exact H
        have Ny109 := Aside0.mk hy109
        clear hy109
        by_cases c4 : x0_1.size + (strOfNums y109).size ≤ 9223372036854775807
        · rw [if_pos c4] at H
          have c4b0 := eq_true c4
          have c4b1 : decide (x0_1.size + (strOfNums y109).size ≤ 9223372036854775807) = true := decide_eq_true c4
          try have c4b2 : (9223372036854775807 < x0_1.size + (strOfNums y109).size) = False := eq_false (Nat.not_lt.2 c4)
          have H' := Aside0.mk H
          clear H
          go_wp2_with (first | ((with_reducible refine gate_dst (N := 19) rfl ?_); refine Kd.R_lit (Kd.int .u8) _ 5 ?hg (N := 19) ?hd (xs := ([Go.bits .or .u8 ((x5_1) % 256) 128] : List Int)) (inner := [.int .u8 (Go.bits .or .u8 ((x5_1) % 256) 128)]) (ok := fun _ => True) (okp := fun _ => True) ?hr ?hp (fun _ hk => hk) trivial (Below.refl _ _) (Nat.le_refl _) (by simp) ?_; (case hd => rfl); (case hg => rfl); (case hr => first | (go_simp; done) | (go_simp; rfl)); (case hp => exact (Reps.one (show Kd.M (Kd.int .u8) _ _ _ (Go.bits .or .u8 ((x5_1) % 256) 128) [.int .u8 (Go.bits .or .u8 ((x5_1) % 256) 128)] from rfl) (Reps.none _ _))); intro v110 w5 ho6 hb hg_ hnew_; clear hg_ hnew_; (first | rw [← Ny109.out] at ho6 | (simp only [Int.reduceToNat] at ho6; rw [← Ny109.out] at ho6)); have n0_ := Aside0.mk (Kd.R_lower ho6 (below_size (by repeat (first | (with_reducible first | exact HB.out | apply below_alloc | apply pw_below_drewN | apply below_drew1) | exact HB.out)))); have n1_ := Aside0.mk (below_step (by repeat (first | (with_reducible first | exact HB.out | apply below_alloc | apply pw_below_drewN | apply below_drew1) | exact HB.out)) hb); clear HB; have HO111 := n0_; have HB := n1_; clear n0_ n1_; clear hb ho6; have hcv7 := own_string (P := Try.prog) Try.underlying24 Try.underlying5 Try.underlying9 (Kd.own_of_R HO111.out)))
          go_roundg k1
          case measure => have := HK1.out; omega
          case rel => exact ⟨(x0_1 ++ (strOfNums y109)), (x5_1 / 128), (by first | rfl | (simp; done) | (simp [*]; done)), (by first | rfl | (simp; done) | (simp [*]; done)), H', ⟨by have := HK1.out; omega⟩, ⟨by repeat (first | (with_reducible first | exact HB.out | apply below_alloc | apply pw_below_drewN | apply below_drew1) | exact HB.out)⟩⟩
        · rw [if_neg c4] at H
          exact absurd H (by simp)
      · rw [if_neg c3] at H
        have c3b0 : decide (127 < x5_1) = false := decide_eq_false c3
        clear c3
        obtain ⟨y112, hy112⟩ : ∃ y_ : List Int, y_ = (([(x5_1) % 256] : List Int)) := ⟨_, rfl⟩
        replace H : (if x0_1.size + (strOfNums y112).size ≤ 9223372036854775807 then (some (x0_1 ++ (strOfNums y112))) else (none)) = some r := by first | (rw [hy112]; with_reducible exact H) | (have H2_ := (Option.bind_some _ _).symm.trans H; rw [hy112]; with_reducible exact H2_) | (have H2_ := (Option.bind_some _ _).symm.trans H; with_reducible exact H2_) | with_reducible exact H | (rw [hy112]; exact H) | exact H
        have Ny112 := Aside0.mk hy112
        clear hy112
        by_cases c8 : x0_1.size + (strOfNums y112).size ≤ 9223372036854775807
        · rw [if_pos c8] at H
          have c8b0 := eq_true c8
          have c8b1 : decide (x0_1.size + (strOfNums y112).size ≤ 9223372036854775807) = true := decide_eq_true c8
          try have c8b2 : (9223372036854775807 < x0_1.size + (strOfNums y112).size) = False := eq_false (Nat.not_lt.2 c8)
          obtain rfl := Option.some.inj H
          go_wp2_with (first | ((with_reducible refine gate_dst (N := 27) rfl ?_); refine Kd.R_lit (Kd.int .u8) _ 5 ?hg (N := 27) ?hd (xs := ([(x5_1) % 256] : List Int)) (inner := [.int .u8 ((x5_1) % 256)]) (ok := fun _ => True) (okp := fun _ => True) ?hr ?hp (fun _ hk => hk) trivial (Below.refl _ _) (Nat.le_refl _) (by simp) ?_; (case hd => rfl); (case hg => rfl); (case hr => first | (go_simp; done) | (go_simp; rfl)); (case hp => exact (Reps.one (show Kd.M (Kd.int .u8) _ _ _ ((x5_1) % 256) [.int .u8 ((x5_1) % 256)] from rfl) (Reps.none _ _))); intro v113 w9 ho10 hb hg_ hnew_; clear hg_ hnew_; (first | rw [← Ny112.out] at ho10 | (simp only [Int.reduceToNat] at ho10; rw [← Ny112.out] at ho10)); have n0_ := Aside0.mk (Kd.R_lower ho10 (below_size (by repeat (first | (with_reducible first | exact HB.out | apply below_alloc | apply pw_below_drewN | apply below_drew1) | exact HB.out)))); have n1_ := Aside0.mk (below_step (by repeat (first | (with_reducible first | exact HB.out | apply below_alloc | apply pw_below_drewN | apply below_drew1) | exact HB.out)) hb); clear HB; have HO114 := n0_; have HB := n1_; clear n0_ n1_; clear hb ho10; have hcv11 := own_string (P := Try.prog) Try.underlying24 Try.underlying5 Try.underlying9 (Kd.own_of_R HO114.out)))
          go_ret
          exact ⟨by first | rfl | (simp [errW_none, errW_some] <;> rfl) | (simp [*, errW_none, errW_some] <;> rfl), by repeat (first | (with_reducible first | exact HB.out | apply below_alloc | apply pw_below_drewN | apply below_drew1) | exact HB.out)⟩
        · rw [if_neg c8] at H
          exact absurd H (by simp)

end Go.Proofs.Ytpebhbhdkmpjeaa.Q

namespace Go.Proofs.Ytpebhbhdkmpjeaa.Q
open Go.RowKit Go.Proofs.YtpebhbhdkmpjeaaW.PrintWords Go.Proofs.YtpebhbhdkmpjeaaW.PrintLast Go.Proofs.YtpebhbhdkmpjeaaW.PrintMore Go.Proofs.Ytpebhbhdkmpjeaa.Gput Go.Proofs.Ytpebhbhdkmpjeaa.Gputl
attribute [local go_sem] max2_int min2_int max_two min_two max_three min_three max_four min_four   -- for this text's walks alone
set_option linter.unusedVariables false
set_option linter.unusedSimpArgs false

/-! ### storagebarterref01_Int: function 17 -/
mutual
def storagebarterref01_Int.j0 : Nat → ByteArray → Int → Bool → Option (Int × Int × Int)
  | 0, _, _, _ => none
  | k + 1, x0, x1, x18 => if x18 = true then (some (0, 0, 1)) else (storagebarterref01_Int.l0 k x0 x1 0 0)
def storagebarterref01_Int.l0 : Nat → ByteArray → Int → Int → Int → Option (Int × Int × Int)
  | 0, _, _, _, _ => none
  | k + 1, x0, x1, x7, x8 => if (wrap64 (x1 + x8)) ≥ (x0.size : Int) then (some (0, 0, 3)) else (if 0 ≤ (wrap64 (x1 + x8)) then (if (wrap64 (x1 + x8)) < (x0.size : Int) then (if x8 = 9 then (storagebarterref01_Int.j2 k x0 x1 x7 x8 (bt x0 (wrap64 (x1 + x8))) (decide ((bt x0 (wrap64 (x1 + x8))) > 1))) else (storagebarterref01_Int.j2 k x0 x1 x7 x8 (bt x0 (wrap64 (x1 + x8))) false)) else (none)) else (none))
def storagebarterref01_Int.j2 : Nat → ByteArray → Int → Int → Int → Int → Bool → Option (Int × Int × Int)
  | 0, _, _, _, _, _, _ => none
  | k + 1, x0, x1, x7, x8, x9, x37 => if x37 = true then (some (0, 0, 2)) else (if 0 ≤ (IntKind.u64.wrap (wrap64 (7 * x8))) then (if x9 > 127 then (storagebarterref01_Int.l0 k x0 x1 (Go.bits .or .u64 x7 (shl .u64 (IntKind.u64.wrap (Go.bits .and .u8 x9 127)) (IntKind.u64.wrap (wrap64 (7 * x8))))) (wrap64 (x8 + 1))) else (if x9 = 0 then (storagebarterref01_Int.j3 k x1 (Go.bits .or .u64 x7 (shl .u64 (IntKind.u64.wrap (Go.bits .and .u8 x9 127)) (IntKind.u64.wrap (wrap64 (7 * x8))))) x8 (decide (x8 > 0))) else (storagebarterref01_Int.j3 k x1 (Go.bits .or .u64 x7 (shl .u64 (IntKind.u64.wrap (Go.bits .and .u8 x9 127)) (IntKind.u64.wrap (wrap64 (7 * x8))))) x8 false))) else (none))
def storagebarterref01_Int.j3 : Nat → Int → Int → Int → Bool → Option (Int × Int × Int)
  | 0, _, _, _, _ => none
  | k + 1, x1, x7, x8, x54 => if x54 = true then (some (0, 0, 2)) else (if (Go.bits .and .u64 x7 1) = 1 then (some (wrap64 ((wrap64 (-(wrap64 (x7 / 2)))) - 1), wrap64 ((wrap64 (x1 + x8)) + 1), 0)) else (some (wrap64 (x7 / 2), wrap64 ((wrap64 (x1 + x8)) + 1), 0)))
end
def storagebarterref01_Int.f (k : Nat) (a0 : ByteArray) (a1 : Int) : Option (Int × Int × Int) := if a1 < 0 then (storagebarterref01_Int.j0 k a0 a1 true) else (storagebarterref01_Int.j0 k a0 a1 (decide (a1 > (a0.size : Int))))
theorem storagebarterref01_Int.mono_l : ∀ k, (∀ y0 y1 y2, LeO (storagebarterref01_Int.j0 k y0 y1 y2) (storagebarterref01_Int.j0 (k + 1) y0 y1 y2)) ∧ (∀ y0 y1 y2 y3, LeO (storagebarterref01_Int.l0 k y0 y1 y2 y3) (storagebarterref01_Int.l0 (k + 1) y0 y1 y2 y3)) ∧ (∀ y0 y1 y2 y3 y4 y5, LeO (storagebarterref01_Int.j2 k y0 y1 y2 y3 y4 y5) (storagebarterref01_Int.j2 (k + 1) y0 y1 y2 y3 y4 y5)) ∧ (∀ y0 y1 y2 y3, LeO (storagebarterref01_Int.j3 k y0 y1 y2 y3) (storagebarterref01_Int.j3 (k + 1) y0 y1 y2 y3))
  | 0 => ⟨fun _ _ _ r h => by simp [storagebarterref01_Int.j0] at h, fun _ _ _ _ r h => by simp [storagebarterref01_Int.l0] at h, fun _ _ _ _ _ _ r h => by simp [storagebarterref01_Int.j2] at h, fun _ _ _ _ r h => by simp [storagebarterref01_Int.j3] at h⟩
  | k + 1 => by
    obtain ⟨ih0, ih1, ih2, ih3⟩ := storagebarterref01_Int.mono_l k
    refine ⟨?_, ?_, ?_, ?_⟩
    · intro y0 y1 y2
      unfold storagebarterref01_Int.j0
      repeat' first
      | (with_reducible exact ih0 _ _ _)
      | (with_reducible exact ih1 _ _ _ _)
      | (with_reducible exact ih2 _ _ _ _ _ _)
      | (with_reducible exact ih3 _ _ _ _)
      | (with_reducible exact LeO.refl _)
      | (with_reducible exact LeO.none _)
      | (with_reducible refine LeO.ite ?_ ?_)
      | (with_reducible refine LeO.bind ?_ (fun _ => ?_))
      | exact ih0 _ _ _
      | exact ih1 _ _ _ _
      | exact ih2 _ _ _ _ _ _
      | exact ih3 _ _ _ _
      | exact LeO.none _
      | refine LeO.ite ?_ ?_
      | refine LeO.bind ?_ (fun _ => ?_)
    · intro y0 y1 y2 y3
      unfold storagebarterref01_Int.l0
      repeat' first
      | (with_reducible exact ih0 _ _ _)
      | (with_reducible exact ih1 _ _ _ _)
      | (with_reducible exact ih2 _ _ _ _ _ _)
      | (with_reducible exact ih3 _ _ _ _)
      | (with_reducible exact LeO.refl _)
      | (with_reducible exact LeO.none _)
      | (with_reducible refine LeO.ite ?_ ?_)
      | (with_reducible refine LeO.bind ?_ (fun _ => ?_))
      | exact ih0 _ _ _
      | exact ih1 _ _ _ _
      | exact ih2 _ _ _ _ _ _
      | exact ih3 _ _ _ _
      | exact LeO.none _
      | refine LeO.ite ?_ ?_
      | refine LeO.bind ?_ (fun _ => ?_)
    · intro y0 y1 y2 y3 y4 y5
      unfold storagebarterref01_Int.j2
      repeat' first
      | (with_reducible exact ih0 _ _ _)
      | (with_reducible exact ih1 _ _ _ _)
      | (with_reducible exact ih2 _ _ _ _ _ _)
      | (with_reducible exact ih3 _ _ _ _)
      | (with_reducible exact LeO.refl _)
      | (with_reducible exact LeO.none _)
      | (with_reducible refine LeO.ite ?_ ?_)
      | (with_reducible refine LeO.bind ?_ (fun _ => ?_))
      | exact ih0 _ _ _
      | exact ih1 _ _ _ _
      | exact ih2 _ _ _ _ _ _
      | exact ih3 _ _ _ _
      | exact LeO.none _
      | refine LeO.ite ?_ ?_
      | refine LeO.bind ?_ (fun _ => ?_)
    · intro y0 y1 y2 y3
      unfold storagebarterref01_Int.j3
      repeat' first
      | (with_reducible exact ih0 _ _ _)
      | (with_reducible exact ih1 _ _ _ _)
      | (with_reducible exact ih2 _ _ _ _ _ _)
      | (with_reducible exact ih3 _ _ _ _)
      | (with_reducible exact LeO.refl _)
      | (with_reducible exact LeO.none _)
      | (with_reducible refine LeO.ite ?_ ?_)
      | (with_reducible refine LeO.bind ?_ (fun _ => ?_))
      | exact ih0 _ _ _
      | exact ih1 _ _ _ _
      | exact ih2 _ _ _ _ _ _
      | exact ih3 _ _ _ _
      | exact LeO.none _
      | refine LeO.ite ?_ ?_
      | refine LeO.bind ?_ (fun _ => ?_)
theorem storagebarterref01_Int.mono : ∀ a0 a1 k, LeO (storagebarterref01_Int.f k a0 a1) (storagebarterref01_Int.f (k + 1) a0 a1) := by
  intro a0 a1 k
  obtain ⟨ih0, ih1, ih2, ih3⟩ := storagebarterref01_Int.mono_l k
  unfold storagebarterref01_Int.f
  repeat' first
      | (with_reducible exact ih0 _ _ _)
      | (with_reducible exact ih1 _ _ _ _)
      | (with_reducible exact ih2 _ _ _ _ _ _)
      | (with_reducible exact ih3 _ _ _ _)
      | (with_reducible exact LeO.refl _)
      | (with_reducible exact LeO.none _)
      | (with_reducible refine LeO.ite ?_ ?_)
      | (with_reducible refine LeO.bind ?_ (fun _ => ?_))
      | exact ih0 _ _ _
      | exact ih1 _ _ _ _
      | exact ih2 _ _ _ _ _ _
      | exact ih3 _ _ _ _
      | exact LeO.none _
      | refine LeO.ite ?_ ?_
      | refine LeO.bind ?_ (fun _ => ?_)
set_option maxHeartbeats 8000000 in
set_option maxRecDepth 100000 in
theorem storagebarterref01_Int.calls (k : Nat) (a0 : ByteArray) (a1 : Int) (r1 : Int) (r2 : Int) (r3 : Int) (w : World) (h : storagebarterref01_Int.f k a0 a1 = some (r1, r2, r3)) :
    Calls Try.prog 17 #[.string a0, .int .i64 a1] w fun e w' => e = .returned (.tuple #[.int .i64 r1, .int .i64 r2, .int .i64 r3]) ∧ Drawn0 w w' := by
  have H : (if a1 < 0 then (storagebarterref01_Int.j0 k a0 a1 true) else (storagebarterref01_Int.j0 k a0 a1 (decide (a1 > (a0.size : Int))))) = some (r1, r2, r3) := h
  clear h
  have HC3 := Aside0.mk H
  clear H
  go_enter Try.func17, Try.ntmps17
  go_upto_region 1 with (fail)
  go_cut [18] (fun v18 wc => ∃ (kq : Nat) (x18_2 : Bool), v18 = .bool x18_2 ∧ Aside0 (storagebarterref01_Int.j0 kq a0 a1 x18_2 = some (r1, r2, r3)) ∧ Aside0 (kq ≤ k) ∧ Drawn0 w wc)
  case first =>
    have H := HC3.out
    clear HC3
    by_cases c4 : a1 < 0
    · rw [if_pos c4] at H
      have c4b0 : decide (a1 < 0) = true := decide_eq_true c4
      clear c4
      (first | rw [c4b0] | (simp only [i64_w, i32_w]; rw [c4b0]) | skip)
      have H' := Aside0.mk H
      clear H
      go_wp2
      go_meet
      case rel => exact ⟨_, (true), (by first | rfl | (simp; done) | (simp [*]; done)), H', ⟨by first | omega | exact Nat.le_refl _⟩, by repeat (first | exact Drawn0.refl _ | apply Drawn0.step)⟩
    · rw [if_neg c4] at H
      have c4b0 : decide (a1 < 0) = false := decide_eq_false c4
      clear c4
      (first | rw [c4b0] | (simp only [i64_w, i32_w]; rw [c4b0]) | skip)
      have H' := Aside0.mk H
      clear H
      go_wp2
      go_meet
      case rel => exact ⟨_, (decide (a1 > (a0.size : Int))), (by first | rfl | (simp; done) | (simp [*]; done)), H', ⟨by first | omega | exact Nat.le_refl _⟩, by repeat (first | exact Drawn0.refl _ | apply Drawn0.step)⟩
  case rest =>
    clear HC3
    try clear c1
    try clear p2
    try clear c4
    try clear c4b0
    obtain ⟨kq, x18_2, rfl, HA, HJ2, ⟨mc2, rfl⟩⟩ := hcut
    cases kq with
    | zero => exact absurd HA.out (by simp [storagebarterref01_Int.j0])
    | succ kj2 =>
      have H := HA.out
      clear HA
      simp only [storagebarterref01_Int.j0] at H
      by_cases c5 : x18_2 = true
      · subst c5
        have H1 : (some (0, 0, 1)) = some (r1, r2, r3) := by rw [if_pos rfl] at H; exact H
        clear H
        have H := H1
        clear H1
        simp only [Option.some.injEq, Prod.mk.injEq] at H
        obtain ⟨rfl, rfl, rfl⟩ := H
        go_wp2
        go_ret3
        exact ⟨by first | rfl | (simp; done) | (simp [*]; done), by repeat (first | exact Drawn0.refl _ | apply Drawn0.step)⟩
      · replace c5 := Bool.eq_false_iff.mpr c5
        subst c5
        have H1 : (storagebarterref01_Int.l0 kj2 a0 a1 0 0) = some (r1, r2, r3) := by rw [if_neg (show ¬ (false = true) by decide)] at H; exact H
        clear H
        have H := H1
        clear H1
        have H' := Aside0.mk H
        clear H
        go_wp2
        go_loopg [7, 8] kj2 (fun kq v7 v8 w' => ∃ (x7_2 : Int) (x8_2 : Int), v7 = .int .u64 x7_2 ∧ v8 = .int .i64 x8_2 ∧ Aside0 (storagebarterref01_Int.l0 kq a0 a1 x7_2 x8_2 = some (r1, r2, r3)) ∧ Aside0 (kq ≤ kj2) ∧ Drawn0 w w')
        case atStart => exact ⟨(0), (0), (by first | rfl | (simp; done) | (simp [*]; done)), (by first | rfl | (simp; done) | (simp [*]; done)), H', ⟨Nat.le_refl _⟩, by repeat (first | exact Drawn0.refl _ | apply Drawn0.step)⟩
        case round =>
          clear H'
          try clear c1
          try clear c2
          try clear p2
          try clear c4
          try clear c4b0
          try clear c5
          try clear p2
          obtain ⟨x7_2, x8_2, rfl, rfl, HA, HK2, ⟨m2, rfl⟩⟩ := hrel
          cases gk with
          | zero => exact absurd HA.out (by simp [storagebarterref01_Int.l0])
          | succ k2 =>
            have H := HA.out
            clear HA
            simp only [storagebarterref01_Int.l0] at H
            by_cases c6 : (wrap64 (a1 + x8_2)) ≥ (a0.size : Int)
            · rw [if_pos c6] at H
              have c6b0 : decide ((a0.size : Int) ≤ (wrap64 (a1 + x8_2))) = true := decide_eq_true c6
              clear c6
              simp only [Option.some.injEq, Prod.mk.injEq] at H
              obtain ⟨rfl, rfl, rfl⟩ := H
              go_wp2
              go_ret3
              exact ⟨by first | rfl | (simp; done) | (simp [*]; done), by repeat (first | exact Drawn0.refl _ | apply Drawn0.step)⟩
            · rw [if_neg c6] at H
              have c6b0 : decide ((a0.size : Int) ≤ (wrap64 (a1 + x8_2))) = false := decide_eq_false c6
              clear c6
              obtain ⟨ji7, hji7⟩ : ∃ j_ : Int, (wrap64 (a1 + x8_2)) = j_ := ⟨_, rfl⟩
              replace H : (if 0 ≤ (ji7) then (if (ji7) < (a0.size : Int) then (if x8_2 = 9 then (storagebarterref01_Int.j2 k2 a0 a1 x7_2 x8_2 (bt a0 (ji7)) (decide ((bt a0 (ji7)) > 1))) else (storagebarterref01_Int.j2 k2 a0 a1 x7_2 x8_2 (bt a0 (ji7)) false)) else (none)) else (none)) = some (r1, r2, r3) := by first | (rw [hji7] at H; exact H) | (simp only [hji7] at H ⊢; exact H)
              (try rw [hji7] at c6b0)
              have hji7w : (IntKind.i64.wrap (a1 + x8_2)) = ji7 := (i64_w _).trans hji7
              by_cases c8 : 0 ≤ (ji7)
              · rw [if_pos c8] at H
                have c8b0 : decide (0 ≤ (ji7)) = true := decide_eq_true c8
                clear c8
                by_cases c9 : (ji7) < (a0.size : Int)
                · rw [if_pos c9] at H
                  have c9b0 : decide ((ji7) < (a0.size : Int)) = true := decide_eq_true c9
                  clear c9
                  have HC11 := Aside0.mk H
                  clear H
                  have p10 : 0 ≤ ((ji7) : Int) := of_decide_eq_true (by first | (with_reducible assumption) | assumption)
                  have q10 : (ji7) < (a0.size : Int) := of_decide_eq_true (by first | (with_reducible assumption) | assumption)
                  have hx10 := bt_at a0 (ji7)
                  replace p10 := eq_true p10
                  replace q10 := eq_true q10
                  go_upto_region 9 with (fail)
                  go_cut [37] (fun v37 wc => ∃ (kq : Nat) (x37_10 : Bool), v37 = .bool x37_10 ∧ Aside0 (storagebarterref01_Int.j2 kq a0 a1 x7_2 x8_2 (bt a0 (ji7)) x37_10 = some (r1, r2, r3)) ∧ Aside0 (kq ≤ k2) ∧ Drawn0 w wc)
                  case first =>
                    have H := HC11.out
                    clear HC11
                    by_cases c12 : x8_2 = 9
                    · rw [if_pos c12] at H
                      have c12b0 : (x8_2 == 9) = true := beq_iff_eq.mpr c12
                      have c12b1 : (x8_2 != 9) = false := bne_eq_false_iff_eq.mpr c12
                      clear c12
                      (first | rw [c12b0] | (simp only [i64_w, i32_w]; rw [c12b0]) | skip)
                      have H' := Aside0.mk H
                      clear H
                      go_wp2
                      go_meet
                      case rel => exact ⟨_, (decide ((bt a0 (ji7)) > 1)), (by first | rfl | (simp; done) | (simp only [← hji7] <;> (first | rfl | simp)) | (simp [*]; done)), H', ⟨by have := HJ2.out; have := HK2.out; first | omega | exact Nat.le_refl _⟩, by repeat (first | exact Drawn0.refl _ | apply Drawn0.step)⟩
                    · rw [if_neg c12] at H
                      have c12b0 : (x8_2 == 9) = false := beq_eq_false_iff_ne.mpr c12
                      have c12b1 : (x8_2 != 9) = true := bne_iff_ne.mpr c12
                      (first | rw [c12b0] | (simp only [i64_w, i32_w]; rw [c12b0]) | skip)
                      have H' := Aside0.mk H
                      clear H
                      go_wp2
                      go_meet
                      case rel => exact ⟨_, (false), (by first | rfl | (simp; done) | (simp [*]; done)), H', ⟨by have := HJ2.out; have := HK2.out; first | omega | exact Nat.le_refl _⟩, by repeat (first | exact Drawn0.refl _ | apply Drawn0.step)⟩
                  case rest =>
                    clear HC11
                    try clear c1
                    try clear p1
                    try clear q1
                    try clear hx1
                    try clear c2
                    try clear p2
                    try clear c4
                    try clear c4b0
                    try clear c5
                    try clear c6
                    try clear c6b0
                    try clear p6
                    try clear c8
                    try clear c8b0
                    try clear c9
                    try clear c9b0
                    try clear p10
                    try clear q10
                    try clear hx10
                    try clear c12
                    try clear c12b0
                    try clear c12b1
                    try clear p10
                    try clear p2
                    try clear q10
                    obtain ⟨kq, x37_10, rfl, HA, HJ10, ⟨mc10, rfl⟩⟩ := hcut
                    cases kq with
                    | zero => exact absurd HA.out (by simp [storagebarterref01_Int.j2])
                    | succ kj10 =>
                      have H := HA.out
                      clear HA
                      simp only [storagebarterref01_Int.j2] at H
                      by_cases c13 : x37_10 = true
                      · subst c13
                        have H1 : (some (0, 0, 2)) = some (r1, r2, r3) := by rw [if_pos rfl] at H; exact H
                        clear H
                        have H := H1
                        clear H1
                        simp only [Option.some.injEq, Prod.mk.injEq] at H
                        obtain ⟨rfl, rfl, rfl⟩ := H
                        go_wp2
                        go_ret3
                        exact ⟨by first | rfl | (simp; done) | (simp only [← hji7] <;> (first | rfl | simp)) | (simp [*]; done), by repeat (first | exact Drawn0.refl _ | apply Drawn0.step)⟩
                      · replace c13 := Bool.eq_false_iff.mpr c13
                        subst c13
                        have H1 : (if 0 ≤ (IntKind.u64.wrap (wrap64 (7 * x8_2))) then (if (bt a0 (ji7)) > 127 then (storagebarterref01_Int.l0 kj10 a0 a1 (Go.bits .or .u64 x7_2 (shl .u64 (IntKind.u64.wrap (Go.bits .and .u8 (bt a0 (ji7)) 127)) (IntKind.u64.wrap (wrap64 (7 * x8_2))))) (wrap64 (x8_2 + 1))) else (if (bt a0 (ji7)) = 0 then (storagebarterref01_Int.j3 kj10 a1 (Go.bits .or .u64 x7_2 (shl .u64 (IntKind.u64.wrap (Go.bits .and .u8 (bt a0 (ji7)) 127)) (IntKind.u64.wrap (wrap64 (7 * x8_2))))) x8_2 (decide (x8_2 > 0))) else (storagebarterref01_Int.j3 kj10 a1 (Go.bits .or .u64 x7_2 (shl .u64 (IntKind.u64.wrap (Go.bits .and .u8 (bt a0 (ji7)) 127)) (IntKind.u64.wrap (wrap64 (7 * x8_2))))) x8_2 false))) else (none)) = some (r1, r2, r3) := by rw [if_neg (show ¬ (false = true) by decide)] at H; exact H
                        clear H
                        have H := H1
                        clear H1
                        obtain ⟨ji14, hji14⟩ : ∃ j_ : Int, (IntKind.u64.wrap (wrap64 (7 * x8_2))) = j_ := ⟨_, rfl⟩
                        replace H : (if 0 ≤ (ji14) then (if (bt a0 (ji7)) > 127 then (storagebarterref01_Int.l0 kj10 a0 a1 (Go.bits .or .u64 x7_2 (shl .u64 (IntKind.u64.wrap (Go.bits .and .u8 (bt a0 (ji7)) 127)) (ji14))) (wrap64 (x8_2 + 1))) else (if (bt a0 (ji7)) = 0 then (storagebarterref01_Int.j3 kj10 a1 (Go.bits .or .u64 x7_2 (shl .u64 (IntKind.u64.wrap (Go.bits .and .u8 (bt a0 (ji7)) 127)) (ji14))) x8_2 (decide (x8_2 > 0))) else (storagebarterref01_Int.j3 kj10 a1 (Go.bits .or .u64 x7_2 (shl .u64 (IntKind.u64.wrap (Go.bits .and .u8 (bt a0 (ji7)) 127)) (ji14))) x8_2 false))) else (none)) = some (r1, r2, r3) := by first | (rw [hji14] at H; exact H) | (simp only [hji14] at H ⊢; exact H)
                        by_cases c15 : 0 ≤ (ji14)
                        · rw [if_pos c15] at H
                          have c15b0 := eq_true c15
                          have c15b1 : decide (0 ≤ (ji14)) = true := decide_eq_true c15
                          clear c15
                          obtain ⟨ji16, hji16⟩ : ∃ j_ : Int, (shl .u64 (IntKind.u64.wrap (Go.bits .and .u8 (bt a0 (ji7)) 127)) (ji14)) = j_ := ⟨_, rfl⟩
                          replace H : (if (bt a0 (ji7)) > 127 then (storagebarterref01_Int.l0 kj10 a0 a1 (Go.bits .or .u64 x7_2 (ji16)) (wrap64 (x8_2 + 1))) else (if (bt a0 (ji7)) = 0 then (storagebarterref01_Int.j3 kj10 a1 (Go.bits .or .u64 x7_2 (ji16)) x8_2 (decide (x8_2 > 0))) else (storagebarterref01_Int.j3 kj10 a1 (Go.bits .or .u64 x7_2 (ji16)) x8_2 false))) = some (r1, r2, r3) := by first | (rw [hji16] at H; exact H) | (simp only [hji16] at H ⊢; exact H)
                          have hji16_ : (IntKind.u64.wrap ((IntKind.u64.wrap (Go.bits .and .u8 (bt a0 (ji7)) 127)) * 2 ^ min (ji14).toNat 64)) = ji16 := hji16
                          have hji16z : (ji14) ≤ 64 → (IntKind.u64.wrap ((IntKind.u64.wrap (Go.bits .and .u8 (bt a0 (ji7)) 127)) * 2 ^ (ji14).toNat)) = ji16 := shl_small hji16
                          by_cases c17 : (bt a0 (ji7)) > 127
                          · rw [if_pos c17] at H
                            have c17b0 : decide (127 < (bt a0 (ji7))) = true := decide_eq_true c17
                            clear c17
                            have H' := Aside0.mk H
                            clear H
                            go_wp2
                            go_roundg kj10
                            case measure => have := HJ2.out; have := HK2.out; have := HJ10.out; omega
                            case rel => exact ⟨(Go.bits .or .u64 x7_2 (ji16)), (wrap64 (x8_2 + 1)), (by first | rfl | (simp; done) | (simp only [← hji16] <;> (first | rfl | simp)) | (simp [*]; done)), (by first | rfl | (simp; done) | (simp [*]; done)), H', ⟨by have := HJ2.out; have := HK2.out; have := HJ10.out; omega⟩, by repeat (first | exact Drawn0.refl _ | apply Drawn0.step)⟩
                          · rw [if_neg c17] at H
                            have c17b0 : decide (127 < (bt a0 (ji7))) = false := decide_eq_false c17
                            clear c17
                            have HC18 := Aside0.mk H
                            clear H
                            go_upto_region 13 with (fail)
                            go_cut [54] (fun v54 wc => ∃ (kq : Nat) (x54_17 : Bool), v54 = .bool x54_17 ∧ Aside0 (storagebarterref01_Int.j3 kq a1 (Go.bits .or .u64 x7_2 (ji16)) x8_2 x54_17 = some (r1, r2, r3)) ∧ Aside0 (kq ≤ kj10) ∧ Drawn0 w wc)
                            case first =>
                              have H := HC18.out
                              clear HC18
                              by_cases c19 : (bt a0 (ji7)) = 0
                              · rw [if_pos c19] at H
                                have c19b0 : ((bt a0 (ji7)) == 0) = true := beq_iff_eq.mpr c19
                                have c19b1 : ((bt a0 (ji7)) != 0) = false := bne_eq_false_iff_eq.mpr c19
                                clear c19
                                (first | rw [c19b0] | (simp only [i64_w, i32_w]; rw [c19b0]) | skip)
                                have H' := Aside0.mk H
                                clear H
                                go_wp2
                                go_meet
                                case rel => exact ⟨_, (decide (x8_2 > 0)), (by first | rfl | (simp; done) | (simp [*]; done)), H', ⟨by have := HJ2.out; have := HK2.out; have := HJ10.out; first | omega | exact Nat.le_refl _⟩, by repeat (first | exact Drawn0.refl _ | apply Drawn0.step)⟩
                              · rw [if_neg c19] at H
                                have c19b0 : ((bt a0 (ji7)) == 0) = false := beq_eq_false_iff_ne.mpr c19
                                have c19b1 : ((bt a0 (ji7)) != 0) = true := bne_iff_ne.mpr c19
                                (first | rw [c19b0] | (simp only [i64_w, i32_w]; rw [c19b0]) | skip)
                                have H' := Aside0.mk H
                                clear H
                                go_wp2
                                go_meet
                                case rel => exact ⟨_, (false), (by first | rfl | (simp; done) | (simp [*]; done)), H', ⟨by have := HJ2.out; have := HK2.out; have := HJ10.out; first | omega | exact Nat.le_refl _⟩, by repeat (first | exact Drawn0.refl _ | apply Drawn0.step)⟩
                            case rest =>
                              clear HC18
                              try clear c1
                              try clear p1
                              try clear q1
                              try clear hx1
                              try clear c2
                              try clear p2
                              try clear c4
                              try clear c4b0
                              try clear c5
                              try clear c6
                              try clear c6b0
                              try clear p6
                              try clear c8
                              try clear c8b0
                              try clear c9
                              try clear c9b0
                              try clear c10
                              try clear p10
                              try clear q10
                              try clear hx10
                              try clear c12
                              try clear c12b0
                              try clear c12b1
                              try clear c13
                              try clear c15
                              try clear c15b0
                              try clear c15b1
                              try clear c17
                              try clear c17b0
                              try clear c19
                              try clear c19b0
                              try clear c19b1
                              try clear p1
                              try clear p10
                              try clear p2
                              try clear p6
                              try clear q1
                              try clear q10
                              obtain ⟨kq, x54_17, rfl, HA, HJ17, ⟨mc17, rfl⟩⟩ := hcut
                              cases kq with
                              | zero => exact absurd HA.out (by simp [storagebarterref01_Int.j3])
                              | succ kj17 =>
                                have H := HA.out
                                clear HA
                                simp only [storagebarterref01_Int.j3] at H
                                by_cases c20 : x54_17 = true
                                · subst c20
                                  have H1 : (some (0, 0, 2)) = some (r1, r2, r3) := by rw [if_pos rfl] at H; exact H
                                  clear H
                                  have H := H1
                                  clear H1
                                  simp only [Option.some.injEq, Prod.mk.injEq] at H
                                  obtain ⟨rfl, rfl, rfl⟩ := H
                                  go_wp2
                                  go_ret3
                                  exact ⟨by first | rfl | (simp; done) | (simp only [← hji7, ← hji14, ← hji16] <;> (first | rfl | simp)) | (simp [*]; done), by repeat (first | exact Drawn0.refl _ | apply Drawn0.step)⟩
                                · replace c20 := Bool.eq_false_iff.mpr c20
                                  subst c20
                                  have H1 : (if (Go.bits .and .u64 (Go.bits .or .u64 x7_2 (ji16)) 1) = 1 then (some (wrap64 ((wrap64 (-(wrap64 ((Go.bits .or .u64 x7_2 (ji16)) / 2)))) - 1), wrap64 ((wrap64 (a1 + x8_2)) + 1), 0)) else (some (wrap64 ((Go.bits .or .u64 x7_2 (ji16)) / 2), wrap64 ((wrap64 (a1 + x8_2)) + 1), 0))) = some (r1, r2, r3) := by rw [if_neg (show ¬ (false = true) by decide)] at H; exact H
                                  clear H
                                  have H := H1
                                  clear H1
                                  by_cases c21 : (Go.bits .and .u64 (Go.bits .or .u64 x7_2 (ji16)) 1) = 1
                                  · rw [if_pos c21] at H
                                    have c21b0 : ((Go.bits .and .u64 (Go.bits .or .u64 x7_2 (ji16)) 1) == 1) = true := beq_iff_eq.mpr c21
                                    have c21b1 : ((Go.bits .and .u64 (Go.bits .or .u64 x7_2 (ji16)) 1) != 1) = false := bne_eq_false_iff_eq.mpr c21
                                    clear c21
                                    simp only [Option.some.injEq, Prod.mk.injEq] at H
                                    obtain ⟨rfl, rfl, rfl⟩ := H
                                    go_wp2
                                    go_ret3
                                    exact ⟨by first | rfl | (simp; done) | (simp only [← hji7, ← hji14, ← hji16] <;> (first | rfl | simp)) | (simp [*]; done), by repeat (first | exact Drawn0.refl _ | apply Drawn0.step)⟩
                                  · rw [if_neg c21] at H
                                    have c21b0 : ((Go.bits .and .u64 (Go.bits .or .u64 x7_2 (ji16)) 1) == 1) = false := beq_eq_false_iff_ne.mpr c21
                                    have c21b1 : ((Go.bits .and .u64 (Go.bits .or .u64 x7_2 (ji16)) 1) != 1) = true := bne_iff_ne.mpr c21
                                    simp only [Option.some.injEq, Prod.mk.injEq] at H
                                    obtain ⟨rfl, rfl, rfl⟩ := H
                                    go_wp2
                                    go_ret3
                                    exact ⟨by first | rfl | (simp; done) | (simp only [← hji7, ← hji14, ← hji16] <;> (first | rfl | simp)) | (simp [*]; done), by repeat (first | exact Drawn0.refl _ | apply Drawn0.step)⟩
                        · rw [if_neg c15] at H
                          exact absurd H (by simp)
                · rw [if_neg c9] at H
                  exact absurd H (by simp)
              · rw [if_neg c8] at H
                exact absurd H (by simp)

end Go.Proofs.Ytpebhbhdkmpjeaa.Q

namespace Go.Proofs.Ytpebhbhdkmpjeaa.Q
open Go.RowKit Go.Proofs.YtpebhbhdkmpjeaaW.PrintWords Go.Proofs.YtpebhbhdkmpjeaaW.PrintLast Go.Proofs.YtpebhbhdkmpjeaaW.PrintMore Go.Proofs.Ytpebhbhdkmpjeaa.Gput Go.Proofs.Ytpebhbhdkmpjeaa.Gputl
attribute [local go_sem] max2_int min2_int max_two min_two max_three min_three max_four min_four   -- for this text's walks alone
set_option linter.unusedVariables false
set_option linter.unusedSimpArgs false

/-! ### storagebarterlaw01_WireInts: function 3 -/
mutual
def storagebarterlaw01_WireInts.l0 : Nat → Int → List ByteArray → Int → Int → Option (Bool)
  | 0, _, _, _, _ => none
  | k + 1, x3, x70, x71, x72 => if x72 < x71 then (if 0 ≤ x72 then (if x72 < (x70.length : Int) then (if (IntKind.u64.wrap (wrap64 (((rdOf ByteArray.empty x70 x72).size : Int) + 2))) = 0 then (none) else ((some (([x3, 0, ((rdOf ByteArray.empty x70 x72).size : Int), wrap64 (Int.tmod (IntKind.u64.wrap (x3)) (IntKind.u64.wrap (wrap64 (((rdOf ByteArray.empty x70 x72).size : Int) + 2))))] : List Int) : List Int)).bind fun y130 => (storagebarterlaw01_WireInts.l1 k x3 (rdOf ByteArray.empty x70 x72) x70 x71 x72 y130 (y130.length : Int) 0))) else (none)) else (none)) else (some true)
def storagebarterlaw01_WireInts.l1 : Nat → Int → ByteArray → List ByteArray → Int → Int → List Int → Int → Int → Option (Bool)
  | 0, _, _, _, _, _, _, _, _ => none
  | k + 1, x3, x14, x70, x71, x72, x87, x88, x89 => if x89 < x88 then (if 0 ≤ x89 then (if x89 < (x87.length : Int) then ((wire_Int.f k x14 (rd x87 x89)).bind fun bt134 => ((storagebarterref01_Int.f k x14 (rd x87 x89)).bind fun bt137 => (if bt134.1 = bt137.1 then (if bt134.2.1 = bt137.2.1 then (if bt134.2.2 = bt137.2.2 then (storagebarterlaw01_WireInts.l1 k x3 x14 x70 x71 x72 x87 x88 (wrap64 (x89 + 1))) else (some false)) else (some false)) else (some false)))) else (none)) else (none)) else (storagebarterlaw01_WireInts.l0 k x3 x70 x71 (wrap64 (x72 + 1)))
end
def storagebarterlaw01_WireInts.f (k : Nat) (a0 : Int) (a1 : Int) (a2 : ByteArray) (a3 : Int) (a4 : Int) : Option (Bool) := (storagebarterlaw01_sane.f k).bind fun t115 => (if t115 = true then ((wire_PutInt.f a2 a0).bind fun t116 => ((storagebarterref01_PutInt.f k a2 a0).bind fun t117 => (if t116.toList = t117.toList then ((storagebarterref01_PutInt.f k (⟨#[]⟩ : ByteArray) a1).bind fun t118 => (if ([] : List Int).length + t118.size < 140737488355328 then ((some (([] : List Int) ++ bytesOf t118 : List Int)).bind fun y119 => (if 0 ≤ (wrap64 ((y119.length : Int) - 1)) then (if (wrap64 ((y119.length : Int) - 1)) < (y119.length : Int) then ((some (y119.set ((wrap64 ((y119.length : Int) - 1)) : Int).toNat a4 : List Int)).bind fun y122 => ((some (([Go.bits .or .u8 a4 128, 128, 129, 128, 255, 128, 128, 128, 128, (a0) % 256, (a1) % 256] : List Int) : List Int)).bind fun y123 => (if (strOfNums y122).size + a2.size ≤ 9223372036854775807 then (if a2.size + (strOfNums y122).size ≤ 9223372036854775807 then (if 0 ≤ 9 then (if 9 ≤ ((strOfNums y123).size : Int) then (if ((strOfNums y123).extract 0 9).size + 1 ≤ 9223372036854775807 then ((some (([a2, strOfNums y122, (strOfNums y122) ++ a2, a2 ++ (strOfNums y122), strOfNums y123, ((strOfNums y123).extract 0 9) ++ (⟨#[1]⟩ : ByteArray), ((strOfNums y123).extract 0 9) ++ (⟨#[2]⟩ : ByteArray), ((strOfNums y123).extract 0 9) ++ (⟨#[0]⟩ : ByteArray)] : List ByteArray) : List ByteArray)).bind fun y126 => (storagebarterlaw01_WireInts.l0 k a3 y126 (y126.length : Int) 0)) else (none)) else (none)) else (none)) else (none)) else (none)))) else (none)) else (none))) else (none))) else (some false)))) else (some false))
theorem storagebarterlaw01_WireInts.mono_l : ∀ k, (∀ y0 y1 y2 y3, LeO (storagebarterlaw01_WireInts.l0 k y0 y1 y2 y3) (storagebarterlaw01_WireInts.l0 (k + 1) y0 y1 y2 y3)) ∧ (∀ y0 y1 y2 y3 y4 y5 y6 y7, LeO (storagebarterlaw01_WireInts.l1 k y0 y1 y2 y3 y4 y5 y6 y7) (storagebarterlaw01_WireInts.l1 (k + 1) y0 y1 y2 y3 y4 y5 y6 y7))
  | 0 => ⟨fun _ _ _ _ r h => by simp [storagebarterlaw01_WireInts.l0] at h, fun _ _ _ _ _ _ _ _ r h => by simp [storagebarterlaw01_WireInts.l1] at h⟩
  | k + 1 => by
    obtain ⟨ih0, ih1⟩ := storagebarterlaw01_WireInts.mono_l k
    refine ⟨?_, ?_⟩
    · intro y0 y1 y2 y3
      unfold storagebarterlaw01_WireInts.l0
      repeat' first
      | (with_reducible exact ih0 _ _ _ _)
      | (with_reducible exact ih1 _ _ _ _ _ _ _ _)
      | (with_reducible exact storagebarterlaw01_sane.mono _)
      | (with_reducible exact storagebarterref01_Int.mono _ _ _)
      | (with_reducible exact storagebarterref01_PutInt.mono _ _ _)
      | (with_reducible exact wire_Int.mono _ _ _)
      | (with_reducible exact LeO.refl _)
      | (with_reducible exact LeO.none _)
      | (with_reducible refine LeO.ite ?_ ?_)
      | (with_reducible refine LeO.bind ?_ (fun _ => ?_))
      | exact ih0 _ _ _ _
      | exact ih1 _ _ _ _ _ _ _ _
      | exact storagebarterlaw01_sane.mono _
      | exact storagebarterref01_Int.mono _ _ _
      | exact storagebarterref01_PutInt.mono _ _ _
      | exact wire_Int.mono _ _ _
      | exact LeO.none _
      | refine LeO.ite ?_ ?_
      | refine LeO.bind ?_ (fun _ => ?_)
    · intro y0 y1 y2 y3 y4 y5 y6 y7
      unfold storagebarterlaw01_WireInts.l1
      repeat' first
      | (with_reducible exact ih0 _ _ _ _)
      | (with_reducible exact ih1 _ _ _ _ _ _ _ _)
      | (with_reducible exact storagebarterlaw01_sane.mono _)
      | (with_reducible exact storagebarterref01_Int.mono _ _ _)
      | (with_reducible exact storagebarterref01_PutInt.mono _ _ _)
      | (with_reducible exact wire_Int.mono _ _ _)
      | (with_reducible exact LeO.refl _)
      | (with_reducible exact LeO.none _)
      | (with_reducible refine LeO.ite ?_ ?_)
      | (with_reducible refine LeO.bind ?_ (fun _ => ?_))
      | exact ih0 _ _ _ _
      | exact ih1 _ _ _ _ _ _ _ _
      | exact storagebarterlaw01_sane.mono _
      | exact storagebarterref01_Int.mono _ _ _
      | exact storagebarterref01_PutInt.mono _ _ _
      | exact wire_Int.mono _ _ _
      | exact LeO.none _
      | refine LeO.ite ?_ ?_
      | refine LeO.bind ?_ (fun _ => ?_)
theorem storagebarterlaw01_WireInts.mono : ∀ a0 a1 a2 a3 a4 k, LeO (storagebarterlaw01_WireInts.f k a0 a1 a2 a3 a4) (storagebarterlaw01_WireInts.f (k + 1) a0 a1 a2 a3 a4) := by
  intro a0 a1 a2 a3 a4 k
  obtain ⟨ih0, ih1⟩ := storagebarterlaw01_WireInts.mono_l k
  unfold storagebarterlaw01_WireInts.f
  repeat' first
      | (with_reducible exact ih0 _ _ _ _)
      | (with_reducible exact ih1 _ _ _ _ _ _ _ _)
      | (with_reducible exact storagebarterlaw01_sane.mono _)
      | (with_reducible exact storagebarterref01_Int.mono _ _ _)
      | (with_reducible exact storagebarterref01_PutInt.mono _ _ _)
      | (with_reducible exact wire_Int.mono _ _ _)
      | (with_reducible exact LeO.refl _)
      | (with_reducible exact LeO.none _)
      | (with_reducible refine LeO.ite ?_ ?_)
      | (with_reducible refine LeO.bind ?_ (fun _ => ?_))
      | exact ih0 _ _ _ _
      | exact ih1 _ _ _ _ _ _ _ _
      | exact storagebarterlaw01_sane.mono _
      | exact storagebarterref01_Int.mono _ _ _
      | exact storagebarterref01_PutInt.mono _ _ _
      | exact wire_Int.mono _ _ _
      | exact LeO.none _
      | refine LeO.ite ?_ ?_
      | refine LeO.bind ?_ (fun _ => ?_)
def storagebarterlaw01_WireInts.T8 : Bool × List (List Nat × List Nat) := (true, [([], []), ([], []), ([1], [1]), ([], []), ([3], [3]), ([], []), ([4, 5], [4, 5]), ([], []), ([], []), ([8], [8]), ([7, 9], [7, 9]), ([], []), ([], []), ([12], [12]), ([13], [13]), ([], []), ([15], [15]), ([16], [16]), ([], []), ([18], [18]), ([19], [19]), ([0, 2, 6, 10, 11, 14, 17, 20], [0, 2, 6, 10, 11, 14, 17, 20]), ([21], [21]), ([], [])])
def storagebarterlaw01_WireInts.B8 : List Nat := [0, 0, 2, 0, 8, 0, 56, 0, 0, 256, 896, 0, 0, 4096, 12288, 0, 32768, 98304, 0, 262144, 786432, 2097151, 4194303, 0]
theorem storagebarterlaw01_WireInts.tab8 : rtab .any (opsOf Try.f3 8) = storagebarterlaw01_WireInts.T8 := by kernel_rfl
theorem storagebarterlaw01_WireInts.bits8 : waitsOk storagebarterlaw01_WireInts.T8.2 storagebarterlaw01_WireInts.B8 = true := by kernel_rfl
set_option maxHeartbeats 8000000 in
set_option maxRecDepth 100000 in
theorem storagebarterlaw01_WireInts.calls (k : Nat) (a0 : Int) (a1 : Int) (a2 : ByteArray) (a3 : Int) (a4 : Int) (r : Bool) (w : World) (h : storagebarterlaw01_WireInts.f k a0 a1 a2 a3 a4 = some r) :
    Calls Try.prog 3 #[.int .i64 a0, .int .i64 a1, .string a2, .int .i64 a3, .int .u8 a4] w fun e w' => e = .returned (.bool r) ∧ Below w.heap.size w w' := by
  have HB := Aside0.mk (Below.refl w.heap.size w)
  have H : ((storagebarterlaw01_sane.f k).bind fun t115 => (if t115 = true then ((wire_PutInt.f a2 a0).bind fun t116 => ((storagebarterref01_PutInt.f k a2 a0).bind fun t117 => (if t116.toList = t117.toList then ((storagebarterref01_PutInt.f k (⟨#[]⟩ : ByteArray) a1).bind fun t118 => (if ([] : List Int).length + t118.size < 140737488355328 then ((some (([] : List Int) ++ bytesOf t118 : List Int)).bind fun y119 => (if 0 ≤ (wrap64 ((y119.length : Int) - 1)) then (if (wrap64 ((y119.length : Int) - 1)) < (y119.length : Int) then ((some (y119.set ((wrap64 ((y119.length : Int) - 1)) : Int).toNat a4 : List Int)).bind fun y122 => ((some (([Go.bits .or .u8 a4 128, 128, 129, 128, 255, 128, 128, 128, 128, (a0) % 256, (a1) % 256] : List Int) : List Int)).bind fun y123 => (if (strOfNums y122).size + a2.size ≤ 9223372036854775807 then (if a2.size + (strOfNums y122).size ≤ 9223372036854775807 then (if 0 ≤ 9 then (if 9 ≤ ((strOfNums y123).size : Int) then (if ((strOfNums y123).extract 0 9).size + 1 ≤ 9223372036854775807 then ((some (([a2, strOfNums y122, (strOfNums y122) ++ a2, a2 ++ (strOfNums y122), strOfNums y123, ((strOfNums y123).extract 0 9) ++ (⟨#[1]⟩ : ByteArray), ((strOfNums y123).extract 0 9) ++ (⟨#[2]⟩ : ByteArray), ((strOfNums y123).extract 0 9) ++ (⟨#[0]⟩ : ByteArray)] : List ByteArray) : List ByteArray)).bind fun y126 => (storagebarterlaw01_WireInts.l0 k a3 y126 (y126.length : Int) 0)) else (none)) else (none)) else (none)) else (none)) else (none)))) else (none)) else (none))) else (none))) else (some false)))) else (some false))) = some r := h
  clear h
  replace H := Option.bind_eq_some_iff.mp H
  obtain ⟨t115, A60, H⟩ := H
  replace H : (if t115 = true then ((wire_PutInt.f a2 a0).bind fun t116 => ((storagebarterref01_PutInt.f k a2 a0).bind fun t117 => (if t116.toList = t117.toList then ((storagebarterref01_PutInt.f k (⟨#[]⟩ : ByteArray) a1).bind fun t118 => (if ([] : List Int).length + t118.size < 140737488355328 then ((some (([] : List Int) ++ bytesOf t118 : List Int)).bind fun y119 => (if 0 ≤ (wrap64 ((y119.length : Int) - 1)) then (if (wrap64 ((y119.length : Int) - 1)) < (y119.length : Int) then ((some (y119.set ((wrap64 ((y119.length : Int) - 1)) : Int).toNat a4 : List Int)).bind fun y122 => ((some (([Go.bits .or .u8 a4 128, 128, 129, 128, 255, 128, 128, 128, 128, (a0) % 256, (a1) % 256] : List Int) : List Int)).bind fun y123 => (if (strOfNums y122).size + a2.size ≤ 9223372036854775807 then (if a2.size + (strOfNums y122).size ≤ 9223372036854775807 then (if 0 ≤ 9 then (if 9 ≤ ((strOfNums y123).size : Int) then (if ((strOfNums y123).extract 0 9).size + 1 ≤ 9223372036854775807 then ((some (([a2, strOfNums y122, (strOfNums y122) ++ a2, a2 ++ (strOfNums y122), strOfNums y123, ((strOfNums y123).extract 0 9) ++ (⟨#[1]⟩ : ByteArray), ((strOfNums y123).extract 0 9) ++ (⟨#[2]⟩ : ByteArray), ((strOfNums y123).extract 0 9) ++ (⟨#[0]⟩ : ByteArray)] : List ByteArray) : List ByteArray)).bind fun y126 => (storagebarterlaw01_WireInts.l0 k a3 y126 (y126.length : Int) 0)) else (none)) else (none)) else (none)) else (none)) else (none)))) else (none)) else (none))) else (none))) else (some false)))) else (some false)) = some r := H
  have A6 := Aside0.mk A60
  clear A60
  by_cases c7 : t115 = true
  · subst c7
    have H1 : ((wire_PutInt.f a2 a0).bind fun t116 => ((storagebarterref01_PutInt.f k a2 a0).bind fun t117 => (if t116.toList = t117.toList then ((storagebarterref01_PutInt.f k (⟨#[]⟩ : ByteArray) a1).bind fun t118 => (if ([] : List Int).length + t118.size < 140737488355328 then ((some (([] : List Int) ++ bytesOf t118 : List Int)).bind fun y119 => (if 0 ≤ (wrap64 ((y119.length : Int) - 1)) then (if (wrap64 ((y119.length : Int) - 1)) < (y119.length : Int) then ((some (y119.set ((wrap64 ((y119.length : Int) - 1)) : Int).toNat a4 : List Int)).bind fun y122 => ((some (([Go.bits .or .u8 a4 128, 128, 129, 128, 255, 128, 128, 128, 128, (a0) % 256, (a1) % 256] : List Int) : List Int)).bind fun y123 => (if (strOfNums y122).size + a2.size ≤ 9223372036854775807 then (if a2.size + (strOfNums y122).size ≤ 9223372036854775807 then (if 0 ≤ 9 then (if 9 ≤ ((strOfNums y123).size : Int) then (if ((strOfNums y123).extract 0 9).size + 1 ≤ 9223372036854775807 then ((some (([a2, strOfNums y122, (strOfNums y122) ++ a2, a2 ++ (strOfNums y122), strOfNums y123, ((strOfNums y123).extract 0 9) ++ (⟨#[1]⟩ : ByteArray), ((strOfNums y123).extract 0 9) ++ (⟨#[2]⟩ : ByteArray), ((strOfNums y123).extract 0 9) ++ (⟨#[0]⟩ : ByteArray)] : List ByteArray) : List ByteArray)).bind fun y126 => (storagebarterlaw01_WireInts.l0 k a3 y126 (y126.length : Int) 0)) else (none)) else (none)) else (none)) else (none)) else (none)))) else (none)) else (none))) else (none))) else (some false)))) = some r := by rw [if_pos rfl] at H; exact H
    clear H
    have H := H1
    clear H1
    replace H := Option.bind_eq_some_iff.mp H
    obtain ⟨t116, A80, H⟩ := H
    replace H : ((storagebarterref01_PutInt.f k a2 a0).bind fun t117 => (if t116.toList = t117.toList then ((storagebarterref01_PutInt.f k (⟨#[]⟩ : ByteArray) a1).bind fun t118 => (if ([] : List Int).length + t118.size < 140737488355328 then ((some (([] : List Int) ++ bytesOf t118 : List Int)).bind fun y119 => (if 0 ≤ (wrap64 ((y119.length : Int) - 1)) then (if (wrap64 ((y119.length : Int) - 1)) < (y119.length : Int) then ((some (y119.set ((wrap64 ((y119.length : Int) - 1)) : Int).toNat a4 : List Int)).bind fun y122 => ((some (([Go.bits .or .u8 a4 128, 128, 129, 128, 255, 128, 128, 128, 128, (a0) % 256, (a1) % 256] : List Int) : List Int)).bind fun y123 => (if (strOfNums y122).size + a2.size ≤ 9223372036854775807 then (if a2.size + (strOfNums y122).size ≤ 9223372036854775807 then (if 0 ≤ 9 then (if 9 ≤ ((strOfNums y123).size : Int) then (if ((strOfNums y123).extract 0 9).size + 1 ≤ 9223372036854775807 then ((some (([a2, strOfNums y122, (strOfNums y122) ++ a2, a2 ++ (strOfNums y122), strOfNums y123, ((strOfNums y123).extract 0 9) ++ (⟨#[1]⟩ : ByteArray), ((strOfNums y123).extract 0 9) ++ (⟨#[2]⟩ : ByteArray), ((strOfNums y123).extract 0 9) ++ (⟨#[0]⟩ : ByteArray)] : List ByteArray) : List ByteArray)).bind fun y126 => (storagebarterlaw01_WireInts.l0 k a3 y126 (y126.length : Int) 0)) else (none)) else (none)) else (none)) else (none)) else (none)))) else (none)) else (none))) else (none))) else (some false))) = some r := H
    have A8 := Aside0.mk A80
    clear A80
    replace H := Option.bind_eq_some_iff.mp H
    obtain ⟨t117, A90, H⟩ := H
    replace H : (if t116.toList = t117.toList then ((storagebarterref01_PutInt.f k (⟨#[]⟩ : ByteArray) a1).bind fun t118 => (if ([] : List Int).length + t118.size < 140737488355328 then ((some (([] : List Int) ++ bytesOf t118 : List Int)).bind fun y119 => (if 0 ≤ (wrap64 ((y119.length : Int) - 1)) then (if (wrap64 ((y119.length : Int) - 1)) < (y119.length : Int) then ((some (y119.set ((wrap64 ((y119.length : Int) - 1)) : Int).toNat a4 : List Int)).bind fun y122 => ((some (([Go.bits .or .u8 a4 128, 128, 129, 128, 255, 128, 128, 128, 128, (a0) % 256, (a1) % 256] : List Int) : List Int)).bind fun y123 => (if (strOfNums y122).size + a2.size ≤ 9223372036854775807 then (if a2.size + (strOfNums y122).size ≤ 9223372036854775807 then (if 0 ≤ 9 then (if 9 ≤ ((strOfNums y123).size : Int) then (if ((strOfNums y123).extract 0 9).size + 1 ≤ 9223372036854775807 then ((some (([a2, strOfNums y122, (strOfNums y122) ++ a2, a2 ++ (strOfNums y122), strOfNums y123, ((strOfNums y123).extract 0 9) ++ (⟨#[1]⟩ : ByteArray), ((strOfNums y123).extract 0 9) ++ (⟨#[2]⟩ : ByteArray), ((strOfNums y123).extract 0 9) ++ (⟨#[0]⟩ : ByteArray)] : List ByteArray) : List ByteArray)).bind fun y126 => (storagebarterlaw01_WireInts.l0 k a3 y126 (y126.length : Int) 0)) else (none)) else (none)) else (none)) else (none)) else (none)))) else (none)) else (none))) else (none))) else (some false)) = some r := H
    have A9 := Aside0.mk A90
    clear A90
    by_cases c10 : t116.toList = t117.toList
    · rw [if_pos c10] at H
      have c10b0 : (t116.toList == t117.toList) = true := beq_iff_eq.mpr c10
      have c10b1 : (t116.toList != t117.toList) = false := bne_eq_false_iff_eq.mpr c10
      clear c10
      replace H := Option.bind_eq_some_iff.mp H
      obtain ⟨t118, A110, H⟩ := H
      replace H : (if ([] : List Int).length + t118.size < 140737488355328 then ((some (([] : List Int) ++ bytesOf t118 : List Int)).bind fun y119 => (if 0 ≤ (wrap64 ((y119.length : Int) - 1)) then (if (wrap64 ((y119.length : Int) - 1)) < (y119.length : Int) then ((some (y119.set ((wrap64 ((y119.length : Int) - 1)) : Int).toNat a4 : List Int)).bind fun y122 => ((some (([Go.bits .or .u8 a4 128, 128, 129, 128, 255, 128, 128, 128, 128, (a0) % 256, (a1) % 256] : List Int) : List Int)).bind fun y123 => (if (strOfNums y122).size + a2.size ≤ 9223372036854775807 then (if a2.size + (strOfNums y122).size ≤ 9223372036854775807 then (if 0 ≤ 9 then (if 9 ≤ ((strOfNums y123).size : Int) then (if ((strOfNums y123).extract 0 9).size + 1 ≤ 9223372036854775807 then ((some (([a2, strOfNums y122, (strOfNums y122) ++ a2, a2 ++ (strOfNums y122), strOfNums y123, ((strOfNums y123).extract 0 9) ++ (⟨#[1]⟩ : ByteArray), ((strOfNums y123).extract 0 9) ++ (⟨#[2]⟩ : ByteArray), ((strOfNums y123).extract 0 9) ++ (⟨#[0]⟩ : ByteArray)] : List ByteArray) : List ByteArray)).bind fun y126 => (storagebarterlaw01_WireInts.l0 k a3 y126 (y126.length : Int) 0)) else (none)) else (none)) else (none)) else (none)) else (none)))) else (none)) else (none))) else (none)) = some r := H
      have A11 := Aside0.mk A110
      clear A110
      by_cases c12 : ([] : List Int).length + t118.size < 140737488355328
      · rw [if_pos c12] at H
        have LMc12 := Aside0.mk c12
        clear c12
        obtain ⟨y119, hy119⟩ : ∃ y_ : List Int, y_ = (([] : List Int) ++ bytesOf t118) := ⟨_, rfl⟩
        replace H : (if 0 ≤ (wrap64 ((y119.length : Int) - 1)) then (if (wrap64 ((y119.length : Int) - 1)) < (y119.length : Int) then ((some (y119.set ((wrap64 ((y119.length : Int) - 1)) : Int).toNat a4 : List Int)).bind fun y122 => ((some (([Go.bits .or .u8 a4 128, 128, 129, 128, 255, 128, 128, 128, 128, (a0) % 256, (a1) % 256] : List Int) : List Int)).bind fun y123 => (if (strOfNums y122).size + a2.size ≤ 9223372036854775807 then (if a2.size + (strOfNums y122).size ≤ 9223372036854775807 then (if 0 ≤ 9 then (if 9 ≤ ((strOfNums y123).size : Int) then (if ((strOfNums y123).extract 0 9).size + 1 ≤ 9223372036854775807 then ((some (([a2, strOfNums y122, (strOfNums y122) ++ a2, a2 ++ (strOfNums y122), strOfNums y123, ((strOfNums y123).extract 0 9) ++ (⟨#[1]⟩ : ByteArray), ((strOfNums y123).extract 0 9) ++ (⟨#[2]⟩ : ByteArray), ((strOfNums y123).extract 0 9) ++ (⟨#[0]⟩ : ByteArray)] : List ByteArray) : List ByteArray)).bind fun y126 => (storagebarterlaw01_WireInts.l0 k a3 y126 (y126.length : Int) 0)) else (none)) else (none)) else (none)) else (none)) else (none)))) else (none)) else (none)) = some r := by first | (rw [hy119]; with_reducible exact H) | (have H2_ := (Option.bind_some _ _).symm.trans H; rw [hy119]; with_reducible exact H2_) | (have H2_ := (Option.bind_some _ _).symm.trans H; with_reducible exact H2_) | with_reducible exact H | (rw [hy119]; exact H) | exact H
        have Ny119 := Aside0.mk hy119
        clear hy119
        obtain ⟨ji13, hji13⟩ : ∃ j_ : Int, (wrap64 ((y119.length : Int) - 1)) = j_ := ⟨_, rfl⟩
        replace H : (if 0 ≤ (ji13) then (if (ji13) < (y119.length : Int) then ((some (y119.set ((ji13) : Int).toNat a4 : List Int)).bind fun y122 => ((some (([Go.bits .or .u8 a4 128, 128, 129, 128, 255, 128, 128, 128, 128, (a0) % 256, (a1) % 256] : List Int) : List Int)).bind fun y123 => (if (strOfNums y122).size + a2.size ≤ 9223372036854775807 then (if a2.size + (strOfNums y122).size ≤ 9223372036854775807 then (if 0 ≤ 9 then (if 9 ≤ ((strOfNums y123).size : Int) then (if ((strOfNums y123).extract 0 9).size + 1 ≤ 9223372036854775807 then ((some (([a2, strOfNums y122, (strOfNums y122) ++ a2, a2 ++ (strOfNums y122), strOfNums y123, ((strOfNums y123).extract 0 9) ++ (⟨#[1]⟩ : ByteArray), ((strOfNums y123).extract 0 9) ++ (⟨#[2]⟩ : ByteArray), ((strOfNums y123).extract 0 9) ++ (⟨#[0]⟩ : ByteArray)] : List ByteArray) : List ByteArray)).bind fun y126 => (storagebarterlaw01_WireInts.l0 k a3 y126 (y126.length : Int) 0)) else (none)) else (none)) else (none)) else (none)) else (none)))) else (none)) else (none)) = some r := by first | (rw [hji13] at H; exact H) | (simp only [hji13] at H ⊢; exact H)
        (try rw [hji13] at A6)
        (try rw [hji13] at A8)
        (try rw [hji13] at A9)
        (try rw [hji13] at A11)
        have hji13w : (IntKind.i64.wrap ((y119.length : Int) - 1)) = ji13 := (i64_w _).trans hji13
        by_cases c14 : 0 ≤ (ji13)
        · rw [if_pos c14] at H
          have c14b0 : decide (0 ≤ (ji13)) = true := decide_eq_true c14
          clear c14
          by_cases c15 : (ji13) < (y119.length : Int)
          · rw [if_pos c15] at H
            have c15b0 : decide ((ji13) < (y119.length : Int)) = true := decide_eq_true c15
            clear c15
            obtain ⟨y122, hy122⟩ : ∃ y_ : List Int, y_ = (y119.set ((ji13) : Int).toNat a4) := ⟨_, rfl⟩
            replace H : ((some (([Go.bits .or .u8 a4 128, 128, 129, 128, 255, 128, 128, 128, 128, (a0) % 256, (a1) % 256] : List Int) : List Int)).bind fun y123 => (if (strOfNums y122).size + a2.size ≤ 9223372036854775807 then (if a2.size + (strOfNums y122).size ≤ 9223372036854775807 then (if 0 ≤ 9 then (if 9 ≤ ((strOfNums y123).size : Int) then (if ((strOfNums y123).extract 0 9).size + 1 ≤ 9223372036854775807 then ((some (([a2, strOfNums y122, (strOfNums y122) ++ a2, a2 ++ (strOfNums y122), strOfNums y123, ((strOfNums y123).extract 0 9) ++ (⟨#[1]⟩ : ByteArray), ((strOfNums y123).extract 0 9) ++ (⟨#[2]⟩ : ByteArray), ((strOfNums y123).extract 0 9) ++ (⟨#[0]⟩ : ByteArray)] : List ByteArray) : List ByteArray)).bind fun y126 => (storagebarterlaw01_WireInts.l0 k a3 y126 (y126.length : Int) 0)) else (none)) else (none)) else (none)) else (none)) else (none))) = some r := by first | (rw [hy122]; with_reducible exact H) | (have H2_ := (Option.bind_some _ _).symm.trans H; rw [hy122]; with_reducible exact H2_) | (have H2_ := (Option.bind_some _ _).symm.trans H; with_reducible exact H2_) | with_reducible exact H | (rw [hy122]; exact H) | exact H
            have Ny122 := Aside0.mk hy122
            clear hy122
            obtain ⟨y123, hy123⟩ : ∃ y_ : List Int, y_ = (([Go.bits .or .u8 a4 128, 128, 129, 128, 255, 128, 128, 128, 128, (a0) % 256, (a1) % 256] : List Int)) := ⟨_, rfl⟩
            replace H : (if (strOfNums y122).size + a2.size ≤ 9223372036854775807 then (if a2.size + (strOfNums y122).size ≤ 9223372036854775807 then (if 0 ≤ 9 then (if 9 ≤ ((strOfNums y123).size : Int) then (if ((strOfNums y123).extract 0 9).size + 1 ≤ 9223372036854775807 then ((some (([a2, strOfNums y122, (strOfNums y122) ++ a2, a2 ++ (strOfNums y122), strOfNums y123, ((strOfNums y123).extract 0 9) ++ (⟨#[1]⟩ : ByteArray), ((strOfNums y123).extract 0 9) ++ (⟨#[2]⟩ : ByteArray), ((strOfNums y123).extract 0 9) ++ (⟨#[0]⟩ : ByteArray)] : List ByteArray) : List ByteArray)).bind fun y126 => (storagebarterlaw01_WireInts.l0 k a3 y126 (y126.length : Int) 0)) else (none)) else (none)) else (none)) else (none)) else (none)) = some r := by first | (rw [hy123]; with_reducible exact H) | (have H2_ := (Option.bind_some _ _).symm.trans H; rw [hy123]; with_reducible exact H2_) | (have H2_ := (Option.bind_some _ _).symm.trans H; with_reducible exact H2_) | with_reducible exact H | (rw [hy123]; exact H) | exact H
            have Ny123 := Aside0.mk hy123
            clear hy123
            by_cases c17 : (strOfNums y122).size + a2.size ≤ 9223372036854775807
            · rw [if_pos c17] at H
              have c17b0 := eq_true c17
              have c17b1 : decide ((strOfNums y122).size + a2.size ≤ 9223372036854775807) = true := decide_eq_true c17
              try have c17b2 : (9223372036854775807 < (strOfNums y122).size + a2.size) = False := eq_false (Nat.not_lt.2 c17)
              by_cases c18 : a2.size + (strOfNums y122).size ≤ 9223372036854775807
              · rw [if_pos c18] at H
                have c18b0 := eq_true c18
                have c18b1 : decide (a2.size + (strOfNums y122).size ≤ 9223372036854775807) = true := decide_eq_true c18
                try have c18b2 : (9223372036854775807 < a2.size + (strOfNums y122).size) = False := eq_false (Nat.not_lt.2 c18)
                by_cases c19 : 0 ≤ 9
                · rw [if_pos c19] at H
                  have c19b0 := eq_true c19
                  have c19b1 : decide (0 ≤ 9) = true := decide_eq_true c19
                  clear c19
                  by_cases c20 : 9 ≤ ((strOfNums y123).size : Int)
                  · rw [if_pos c20] at H
                    have c20b0 := eq_true c20
                    have c20b1 : decide (9 ≤ ((strOfNums y123).size : Int)) = true := decide_eq_true c20
                    clear c20
                    by_cases c21 : ((strOfNums y123).extract 0 9).size + 1 ≤ 9223372036854775807
                    · rw [if_pos c21] at H
                      have c21b0 := eq_true c21
                      have c21b1 : decide (((strOfNums y123).extract 0 9).size + 1 ≤ 9223372036854775807) = true := decide_eq_true c21
                      try have c21b2 : (9223372036854775807 < ((strOfNums y123).extract 0 9).size + 1) = False := eq_false (Nat.not_lt.2 c21)
                      have c21b3 : (9223372036854775807 < min 9 (strOfNums y123).size + 1) = False := eq_false (by omega)
                      have c22b0 := eq_true (of_decide_eq_true (by first | (with_reducible assumption) | assumption) : 0 ≤ 9)
                      have c23b0 := eq_true (of_decide_eq_true (by first | (with_reducible assumption) | assumption) : 9 ≤ ((strOfNums y123).size : Int))
                      have c24b0 := eq_true (of_decide_eq_true (by first | (with_reducible assumption) | assumption) : 0 ≤ 9)
                      have c25b0 := eq_true (of_decide_eq_true (by first | (with_reducible assumption) | assumption) : 9 ≤ ((strOfNums y123).size : Int))
                      obtain ⟨y126, hy126⟩ : ∃ y_ : List ByteArray, y_ = (([a2, strOfNums y122, (strOfNums y122) ++ a2, a2 ++ (strOfNums y122), strOfNums y123, ((strOfNums y123).extract 0 9) ++ (⟨#[1]⟩ : ByteArray), ((strOfNums y123).extract 0 9) ++ (⟨#[2]⟩ : ByteArray), ((strOfNums y123).extract 0 9) ++ (⟨#[0]⟩ : ByteArray)] : List ByteArray)) := ⟨_, rfl⟩
                      replace H : (storagebarterlaw01_WireInts.l0 k a3 y126 (y126.length : Int) 0) = some r := by first | (rw [hy126]; with_reducible exact H) | (have H2_ := (Option.bind_some _ _).symm.trans H; rw [hy126]; with_reducible exact H2_) | (have H2_ := (Option.bind_some _ _).symm.trans H; with_reducible exact H2_) | with_reducible exact H | (rw [hy126]; exact H) | exact H
                      have Ny126 := Aside0.mk hy126
                      clear hy126
                      have H' := Aside0.mk H
                      clear H
                      go_enter Try.func3, Try.ntmps3
                      try go_wp2_with (first | ((with_reducible refine gate_callee (f := 13) rfl ?_); refine goesL_ (some 23) rfl rfl Try.func13 (by kernel_rfl) rfl #[] rfl (by (try simp only [List.map_toArray, List.map_cons, List.map_nil]); first | done | rfl | (simp only [List.length_drop, List.length_take]; rfl)) ?_; (with_reducible refine (storagebarterlaw01_sane.calls k  true _ A6.out).mono ?_); rintro e w26 ⟨rfl, hb⟩; refine ⟨_, rfl, ?_⟩; have n0_ := Aside0.mk (below_step (by repeat (first | (with_reducible first | exact HB.out | apply below_alloc | apply pw_below_drewN | apply below_drew1) | exact HB.out)) hb); clear HB; have HB := n0_; clear n0_; (try clear hb); (try clear hb2); (try clear hk); (try clear hi)) | ((with_reducible refine gate_callee (f := 14) rfl ?_); refine goesL_ (some 27) rfl rfl Try.func14 (by kernel_rfl) rfl #[.string a2, .int .i64 a0] rfl (by (try simp only [List.map_toArray, List.map_cons, List.map_nil]); first | done | rfl | (simp only [List.length_drop, List.length_take]; rfl)) ?_; (with_reducible refine (wire_PutInt.calls a2 a0 t116 _ A8.out).mono ?_); rintro e w27 ⟨rfl, hb⟩; refine ⟨_, rfl, ?_⟩; have n0_ := Aside0.mk (below_step (by repeat (first | (with_reducible first | exact HB.out | apply below_alloc | apply pw_below_drewN | apply below_drew1) | exact HB.out)) hb); clear HB; have HB := n0_; clear n0_; (try clear hb); (try clear hb2); (try clear hk); (try clear hi)) | ((with_reducible refine gate_callee (f := 15) rfl ?_); refine goesL_ (some 30) rfl rfl Try.func15 (by kernel_rfl) rfl #[.string a2, .int .i64 a0] rfl (by (try simp only [List.map_toArray, List.map_cons, List.map_nil]); first | done | rfl | (simp only [List.length_drop, List.length_take]; rfl)) ?_; (with_reducible refine (storagebarterref01_PutInt.calls k a2 a0 t117 _ A9.out).mono ?_); rintro e w28 ⟨rfl, hb⟩; refine ⟨_, rfl, ?_⟩; have n0_ := Aside0.mk (below_step (by repeat (first | (with_reducible first | exact HB.out | apply below_alloc | apply pw_below_drewN | apply below_drew1) | exact HB.out)) hb); clear HB; have HB := n0_; clear n0_; (try clear hb); (try clear hb2); (try clear hk); (try clear hi)) | ((with_reducible refine gate_callee (f := 15) rfl ?_); refine goesL_ (some 33) rfl rfl Try.func15 (by kernel_rfl) rfl #[.string (⟨#[]⟩ : ByteArray), .int .i64 a1] rfl (by (try simp only [List.map_toArray, List.map_cons, List.map_nil]); first | done | rfl | (simp only [List.length_drop, List.length_take]; rfl)) ?_; (with_reducible refine (storagebarterref01_PutInt.calls k (⟨#[]⟩ : ByteArray) a1 t118 _ A11.out).mono ?_); rintro e w29 ⟨rfl, hb⟩; refine ⟨_, rfl, ?_⟩; have n0_ := Aside0.mk (below_step (by repeat (first | (with_reducible first | exact HB.out | apply below_alloc | apply pw_below_drewN | apply below_drew1) | exact HB.out)) hb); clear HB; have HB := n0_; clear n0_; (try clear hb); (try clear hb2); (try clear hk); (try clear hi); obtain ⟨go16, co31, w30, hcvz_w30, ho, hb, gb⟩ := Gzb.conv (P := Try.prog) w29 t118 y119 Ny119.out LMc12.out 9 24 5 Try.underlying9 Try.underlying24 Try.underlying5 (by repeat (first | (with_reducible first | exact HB.out | apply below_alloc | apply pw_below_drewN | apply below_drew1) | exact HB.out)); have n0_ := Aside0.mk hb; have n1_ := Aside0.mk ho; have GB16 := Aside0.mk gb; clear HB; have HB := n0_; have HO121 := n1_; clear n0_ n1_; clear ho hb gb; have p16 : 0 ≤ ((ji13) : Int) := of_decide_eq_true (by first | (with_reducible assumption) | assumption); have q16 : ((ji13) : Int) < ((y119.length : Int) : Int) := of_decide_eq_true (by first | (with_reducible assumption) | assumption); obtain ⟨hx16_0, hf16_0⟩ := Gzb.cell HO121.out ((ji13) : Int) p16 q16; replace p16 := eq_true p16; replace q16 := eq_true q16; obtain ⟨hy32_, hz32_⟩ := Gzb.cell HO121.out ((ji13) : Int) (of_decide_eq_true (by first | (with_reducible assumption) | assumption)) (of_decide_eq_true (by first | (with_reducible assumption) | assumption)); have HP32 := Gzb.putg HO121.out ((ji13) : Int) a4) | ((with_reducible refine gate_store (t := 5) (p := 40) rfl ?_); refine store_event (t := 5) (p := 40) (v := ?vo_w33) (w1 := (w30.setCell ⟨go16, ((ji13) : Int).toNat, none⟩ (.int .u8 a4))) ?hg ?ho ?hn ?hr ?_; (case ho => rfl); (case hg => rfl); (case hn => rfl); (case hr => first | (go_simp; done) | (go_simp; rfl)); intro w33 hw; have hg : w30.grownBy w33 (some go16) := (by rw [hw]; exact HP32.2); have hp_ : Gzb.RZ 5 w33 w.heap.size (.slice (some ⟨go16, 0, none⟩) y119.length co31) y122 := (by rw [hw, Ny122.out]; exact HP32.1); clear HP32; have n0_ := Aside0.mk (hp_); have n1_ := Aside0.mk ((by rw [hw]; exact below_set (HB.out) GB16.out : Below w.heap.size w w33)); clear HO121; clear HB; have HO121 := n0_; have HB := n1_; clear n0_ n1_; clear hg hw hp_) | ((with_reducible refine gate_dst (N := 47) rfl ?_); refine Kd.R_lit (Kd.int .u8) _ 5 ?hg (N := 47) ?hd (xs := ([Go.bits .or .u8 a4 128, 128, 129, 128, 255, 128, 128, 128, 128, (a0) % 256, (a1) % 256] : List Int)) (inner := [.int .u8 (Go.bits .or .u8 a4 128), .int .u8 128, .int .u8 129, .int .u8 128, .int .u8 255, .int .u8 128, .int .u8 128, .int .u8 128, .int .u8 128, .int .u8 ((a0) % 256), .int .u8 ((a1) % 256)]) (ok := fun _ => True) (okp := fun _ => True) ?hr ?hp (fun _ hk => hk) trivial (Below.refl _ _) (Nat.le_refl _) (by simp) ?_; (case hd => rfl); (case hg => rfl); (case hr => first | (go_simp; done) | (go_simp; rfl)); (case hp => exact (Reps.one (show Kd.M (Kd.int .u8) _ _ _ (Go.bits .or .u8 a4 128) [.int .u8 (Go.bits .or .u8 a4 128)] from rfl) (Reps.one (show Kd.M (Kd.int .u8) _ _ _ 128 [.int .u8 128] from rfl) (Reps.one (show Kd.M (Kd.int .u8) _ _ _ 129 [.int .u8 129] from rfl) (Reps.one (show Kd.M (Kd.int .u8) _ _ _ 128 [.int .u8 128] from rfl) (Reps.one (show Kd.M (Kd.int .u8) _ _ _ 255 [.int .u8 255] from rfl) (Reps.one (show Kd.M (Kd.int .u8) _ _ _ 128 [.int .u8 128] from rfl) (Reps.one (show Kd.M (Kd.int .u8) _ _ _ 128 [.int .u8 128] from rfl) (Reps.one (show Kd.M (Kd.int .u8) _ _ _ 128 [.int .u8 128] from rfl) (Reps.one (show Kd.M (Kd.int .u8) _ _ _ 128 [.int .u8 128] from rfl) (Reps.one (show Kd.M (Kd.int .u8) _ _ _ ((a0) % 256) [.int .u8 ((a0) % 256)] from rfl) (Reps.one (show Kd.M (Kd.int .u8) _ _ _ ((a1) % 256) [.int .u8 ((a1) % 256)] from rfl) (Reps.none _ _))))))))))))); intro v124 w34 ho35 hb hg_ hnew_; clear hg_ hnew_; (first | rw [← Ny123.out] at ho35 | (simp only [Int.reduceToNat] at ho35; rw [← Ny123.out] at ho35)); have n0_ := Aside0.mk (Gzb.RZ.below (by (with_reducible repeat (first | apply Gzb.RZ.alloc | apply Gzb.RZ.drewN | apply Gzb.RZ.drew)); exact HO121.out) hb); have n1_ := Aside0.mk (Kd.R_lower (Kd.R_new' ho35 (Gzb.RZ.lt (by (with_reducible repeat (first | apply Gzb.RZ.alloc | apply Gzb.RZ.drewN | apply Gzb.RZ.drew)); exact HO121.out))) (below_size (by repeat (first | (with_reducible first | exact HB.out | apply below_alloc | apply pw_below_drewN | apply below_drew1) | exact HB.out)))); have n2_ := Aside0.mk (below_step (by repeat (first | (with_reducible first | exact HB.out | apply below_alloc | apply pw_below_drewN | apply below_drew1) | exact HB.out)) hb); clear HO121; clear HB; have HO121 := n0_; have HO125 := n1_; have HB := n2_; clear n0_ n1_ n2_; clear hb ho35; have hcv36 := own_string (P := Try.prog) Try.underlying24 Try.underlying5 Try.underlying9 (Kd.own_of_R HO125.out)))
                      have n0_ := Aside0.mk (Gzb.RZ.drew HO121.out)
                      have n1_ := Aside0.mk (Kd.R_drew HO125.out)
                      have n2_ := Aside0.mk (below_drew1 HB.out)
                      clear HO121
                      clear HO125
                      clear HB
                      have HO121 := n0_
                      have HO125 := n1_
                      have HB := n2_
                      clear n0_ n1_ n2_
                      have hcv38 := Gzb.str (P := Try.prog) Try.underlying24 Try.underlying5 Try.underlying9 HO121.out
                      have hcv39 := Gzb.str (P := Try.prog) Try.underlying24 Try.underlying5 Try.underlying9 HO121.out
                      have hcv40 := Gzb.str (P := Try.prog) Try.underlying24 Try.underlying5 Try.underlying9 HO121.out
                      refine start_ (n := 24) (S := fun w' => (convert 24 9 (.slice (some ⟨go16, 0, none⟩) y119.length co31)).run Try.prog w' = .ok (.string (strOfNums y122)) w') (ds := []) #[false, false, false, false, false, false, false, false, false, false, false, false, false, false, false, false, false, false, false, false, false, false, false, false] (by kernel_rfl) rfl rfl hcv38 (fun hHeld => ?_); refine with_tabW storagebarterlaw01_WireInts.tab8 storagebarterlaw01_WireInts.bits8 (fun HT_ HW_ => ?_)
                      generalize w34.drew = w37 at HO121 HO125 HB hHeld ⊢
                      refine pure_ (i := 0) (N := some 49) (v := ?_) (a' := ?_) #[true, false, false, false, false, false, false, false, false, false, false, false, false, false, false, false, false, false, false, false, false, false, false, false] rfl rfl (any_of HT_.out (by kernel_rfl)) (fun _ _ _ h => h) (Or.inl ⟨by rfl, ?_⟩) ?_ ?_
                      rotate_left
                      · intro w'
                        go_simp
                        with_reducible rfl
                      rotate_left
                      · simp only [Act.put, List.setIfInBounds_toArray, List.set_cons_zero, List.set_cons_succ, i64_w, i32_w]
                        rfl
                      refine pure_ (i := 1) (N := some 50) (v := ?_) (a' := ?_) #[true, true, false, false, false, false, false, false, false, false, false, false, false, false, false, false, false, false, false, false, false, false, false, false] rfl rfl (any_of HT_.out (by kernel_rfl)) (fun _ _ _ h => h) (Or.inl ⟨by rfl, ?_⟩) ?_ ?_
                      rotate_left
                      · intro w'
                        go_simp
                        with_reducible rfl
                      rotate_left
                      · simp only [Act.put, List.setIfInBounds_toArray, List.set_cons_zero, List.set_cons_succ, i64_w, i32_w]
                        rfl
                      refine take_ (i := 2) (N := some 51) (v := ?_) (a' := ?_) #[true, true, true, false, false, false, false, false, false, false, false, false, false, false, false, false, false, false, false, false, false, false, false, false] rfl rfl (take_ofW HT_.out HW_.out (by kernel_rfl)) (fun _ _ _ h => h) (Or.inl ⟨by rfl, ?_⟩) hHeld ?_ ?_
                      rotate_left
                      · intro w' s0
                        replace s0 : (convert 24 9 (.slice (some ⟨go16, 0, none⟩) y119.length co31)).run Try.prog w' = .ok (.string (strOfNums y122)) w' := s0
                        go_simp
                        with_reducible rfl
                      rotate_left
                      · simp only [Act.put, List.setIfInBounds_toArray, List.set_cons_zero, List.set_cons_succ, i64_w, i32_w]
                        rfl
                      refine pure_ (i := 3) (N := some 52) (v := ?_) (a' := ?_) #[true, true, true, true, false, false, false, false, false, false, false, false, false, false, false, false, false, false, false, false, false, false, false, false] rfl rfl (any_of HT_.out (by kernel_rfl)) (fun _ _ _ h => h) (Or.inl ⟨by rfl, ?_⟩) ?_ ?_
                      rotate_left
                      · intro w'
                        go_simp
                        with_reducible rfl
                      rotate_left
                      · simp only [Act.put, List.setIfInBounds_toArray, List.set_cons_zero, List.set_cons_succ, i64_w, i32_w]
                        rfl
                      refine take_ (i := 4) (N := some 53) (v := ?_) (a' := ?_) #[true, true, true, true, true, false, false, false, false, false, false, false, false, false, false, false, false, false, false, false, false, false, false, false] rfl rfl (take_ofW HT_.out HW_.out (by kernel_rfl)) (fun _ _ _ h => h) (Or.inl ⟨by rfl, ?_⟩) hHeld ?_ ?_
                      rotate_left
                      · intro w' s0
                        replace s0 : (convert 24 9 (.slice (some ⟨go16, 0, none⟩) y119.length co31)).run Try.prog w' = .ok (.string (strOfNums y122)) w' := s0
                        go_simp
                        with_reducible rfl
                      rotate_left
                      · simp only [Act.put, List.setIfInBounds_toArray, List.set_cons_zero, List.set_cons_succ, i64_w, i32_w]
                        rfl
                      refine pure_ (i := 5) (N := some 54) (v := ?_) (a' := ?_) #[true, true, true, true, true, true, false, false, false, false, false, false, false, false, false, false, false, false, false, false, false, false, false, false] rfl rfl (any_of HT_.out (by kernel_rfl)) (fun _ _ _ h => h) (Or.inl ⟨by rfl, ?_⟩) ?_ ?_
                      rotate_left
                      · intro w'
                        go_simp
                        with_reducible rfl
                      rotate_left
                      · simp only [Act.put, List.setIfInBounds_toArray, List.set_cons_zero, List.set_cons_succ, i64_w, i32_w]
                        rfl
                      refine pure_ (i := 6) (N := some 55) (v := ?_) (a' := ?_) #[true, true, true, true, true, true, true, false, false, false, false, false, false, false, false, false, false, false, false, false, false, false, false, false] rfl rfl (any_of HT_.out (by kernel_rfl)) (fun _ _ _ h => h) (Or.inl ⟨by rfl, ?_⟩) ?_ ?_
                      rotate_left
                      · intro w'
                        go_simp
                        with_reducible rfl
                      rotate_left
                      · simp only [Act.put, List.setIfInBounds_toArray, List.set_cons_zero, List.set_cons_succ, i64_w, i32_w]
                        rfl
                      refine pure_ (i := 7) (N := some 56) (v := ?_) (a' := ?_) #[true, true, true, true, true, true, true, true, false, false, false, false, false, false, false, false, false, false, false, false, false, false, false, false] rfl rfl (any_of HT_.out (by kernel_rfl)) (fun _ _ _ h => h) (Or.inl ⟨by rfl, ?_⟩) ?_ ?_
                      rotate_left
                      · intro w'
                        go_simp
                        with_reducible rfl
                      rotate_left
                      · simp only [Act.put, List.setIfInBounds_toArray, List.set_cons_zero, List.set_cons_succ, i64_w, i32_w]
                        rfl
                      refine pure_ (i := 8) (N := some 57) (v := ?_) (a' := ?_) #[true, true, true, true, true, true, true, true, true, false, false, false, false, false, false, false, false, false, false, false, false, false, false, false] rfl rfl (any_of HT_.out (by kernel_rfl)) (fun _ _ _ h => h) (Or.inl ⟨by rfl, ?_⟩) ?_ ?_
                      rotate_left
                      · intro w'
                        go_simp
                        with_reducible rfl
                      rotate_left
                      · simp only [Act.put, List.setIfInBounds_toArray, List.set_cons_zero, List.set_cons_succ, i64_w, i32_w]
                        rfl
                      refine take_ (i := 9) (N := some 58) (v := ?_) (a' := ?_) #[true, true, true, true, true, true, true, true, true, true, false, false, false, false, false, false, false, false, false, false, false, false, false, false] rfl rfl (take_ofW HT_.out HW_.out (by kernel_rfl)) (fun _ _ _ h => h) (Or.inl ⟨by rfl, ?_⟩) hHeld ?_ ?_
                      rotate_left
                      · intro w' s0
                        replace s0 : (convert 24 9 (.slice (some ⟨go16, 0, none⟩) y119.length co31)).run Try.prog w' = .ok (.string (strOfNums y122)) w' := s0
                        go_simp
                        with_reducible rfl
                      rotate_left
                      · simp only [Act.put, List.setIfInBounds_toArray, List.set_cons_zero, List.set_cons_succ, i64_w, i32_w]
                        rfl
                      refine pure_ (i := 10) (N := some 59) (v := ?_) (a' := ?_) #[true, true, true, true, true, true, true, true, true, true, true, false, false, false, false, false, false, false, false, false, false, false, false, false] rfl rfl (any_of HT_.out (by kernel_rfl)) (fun _ _ _ h => h) (Or.inl ⟨by rfl, ?_⟩) ?_ ?_
                      rotate_left
                      · intro w'
                        go_simp
                        with_reducible rfl
                      rotate_left
                      · simp only [Act.put, List.setIfInBounds_toArray, List.set_cons_zero, List.set_cons_succ, i64_w, i32_w]
                        rfl
                      refine pure_ (i := 11) (N := some 60) (v := ?_) (a' := ?_) #[true, true, true, true, true, true, true, true, true, true, true, true, false, false, false, false, false, false, false, false, false, false, false, false] rfl rfl (any_of HT_.out (by kernel_rfl)) (fun _ _ _ h => h) (Or.inl ⟨by rfl, ?_⟩) ?_ ?_
                      rotate_left
                      · intro w'
                        go_simp
                        with_reducible rfl
                      rotate_left
                      · simp only [Act.put, List.setIfInBounds_toArray, List.set_cons_zero, List.set_cons_succ, i64_w, i32_w]
                        rfl
                      refine pure_ (i := 12) (N := some 61) (v := ?_) (a' := ?_) #[true, true, true, true, true, true, true, true, true, true, true, true, true, false, false, false, false, false, false, false, false, false, false, false] rfl rfl (any_of HT_.out (by kernel_rfl)) (fun _ _ _ h => h) (Or.inl ⟨by rfl, ?_⟩) ?_ ?_
                      rotate_left
                      · intro w'
                        go_simp
                        with_reducible rfl
                      rotate_left
                      · simp only [Act.put, List.setIfInBounds_toArray, List.set_cons_zero, List.set_cons_succ, i64_w, i32_w]
                        rfl
                      refine pure_ (i := 13) (N := some 62) (v := ?_) (a' := ?_) #[true, true, true, true, true, true, true, true, true, true, true, true, true, true, false, false, false, false, false, false, false, false, false, false] rfl rfl (any_of HT_.out (by kernel_rfl)) (fun _ _ _ h => h) (Or.inl ⟨by rfl, ?_⟩) ?_ ?_
                      rotate_left
                      · intro w'
                        go_simp
                        with_reducible rfl
                      rotate_left
                      · simp only [Act.put, List.setIfInBounds_toArray, List.set_cons_zero, List.set_cons_succ, i64_w, i32_w]
                        rfl
                      refine pure_ (i := 14) (N := some 63) (v := ?_) (a' := ?_) #[true, true, true, true, true, true, true, true, true, true, true, true, true, true, true, false, false, false, false, false, false, false, false, false] rfl rfl (any_of HT_.out (by kernel_rfl)) (fun _ _ _ h => h) (Or.inl ⟨by rfl, ?_⟩) ?_ ?_
                      rotate_left
                      · intro w'
                        go_simp
                        with_reducible rfl
                      rotate_left
                      · simp only [Act.put, List.setIfInBounds_toArray, List.set_cons_zero, List.set_cons_succ, i64_w, i32_w]
                        rfl
                      refine pure_ (i := 15) (N := some 64) (v := ?_) (a' := ?_) #[true, true, true, true, true, true, true, true, true, true, true, true, true, true, true, true, false, false, false, false, false, false, false, false] rfl rfl (any_of HT_.out (by kernel_rfl)) (fun _ _ _ h => h) (Or.inl ⟨by rfl, ?_⟩) ?_ ?_
                      rotate_left
                      · intro w'
                        go_simp
                        with_reducible rfl
                      rotate_left
                      · simp only [Act.put, List.setIfInBounds_toArray, List.set_cons_zero, List.set_cons_succ, i64_w, i32_w]
                        rfl
                      refine pure_ (i := 16) (N := some 65) (v := ?_) (a' := ?_) #[true, true, true, true, true, true, true, true, true, true, true, true, true, true, true, true, true, false, false, false, false, false, false, false] rfl rfl (any_of HT_.out (by kernel_rfl)) (fun _ _ _ h => h) (Or.inl ⟨by rfl, ?_⟩) ?_ ?_
                      rotate_left
                      · intro w'
                        go_simp
                        with_reducible rfl
                      rotate_left
                      · simp only [Act.put, List.setIfInBounds_toArray, List.set_cons_zero, List.set_cons_succ, i64_w, i32_w]
                        rfl
                      refine pure_ (i := 17) (N := some 66) (v := ?_) (a' := ?_) #[true, true, true, true, true, true, true, true, true, true, true, true, true, true, true, true, true, true, false, false, false, false, false, false] rfl rfl (any_of HT_.out (by kernel_rfl)) (fun _ _ _ h => h) (Or.inl ⟨by rfl, ?_⟩) ?_ ?_
                      rotate_left
                      · intro w'
                        go_simp
                        with_reducible rfl
                      rotate_left
                      · simp only [Act.put, List.setIfInBounds_toArray, List.set_cons_zero, List.set_cons_succ, i64_w, i32_w]
                        rfl
                      refine pure_ (i := 18) (N := some 67) (v := ?_) (a' := ?_) #[true, true, true, true, true, true, true, true, true, true, true, true, true, true, true, true, true, true, true, false, false, false, false, false] rfl rfl (any_of HT_.out (by kernel_rfl)) (fun _ _ _ h => h) (Or.inl ⟨by rfl, ?_⟩) ?_ ?_
                      rotate_left
                      · intro w'
                        go_simp
                        with_reducible rfl
                      rotate_left
                      · simp only [Act.put, List.setIfInBounds_toArray, List.set_cons_zero, List.set_cons_succ, i64_w, i32_w]
                        rfl
                      refine pure_ (i := 19) (N := some 68) (v := ?_) (a' := ?_) #[true, true, true, true, true, true, true, true, true, true, true, true, true, true, true, true, true, true, true, true, false, false, false, false] rfl rfl (any_of HT_.out (by kernel_rfl)) (fun _ _ _ h => h) (Or.inl ⟨by rfl, ?_⟩) ?_ ?_
                      rotate_left
                      · intro w'
                        go_simp
                        with_reducible rfl
                      rotate_left
                      · simp only [Act.put, List.setIfInBounds_toArray, List.set_cons_zero, List.set_cons_succ, i64_w, i32_w]
                        rfl
                      refine pure_ (i := 20) (N := some 69) (v := ?_) (a' := ?_) #[true, true, true, true, true, true, true, true, true, true, true, true, true, true, true, true, true, true, true, true, true, false, false, false] rfl rfl (any_of HT_.out (by kernel_rfl)) (fun _ _ _ h => h) (Or.inl ⟨by rfl, ?_⟩) ?_ ?_
                      rotate_left
                      · intro w'
                        go_simp
                        with_reducible rfl
                      rotate_left
                      · simp only [Act.put, List.setIfInBounds_toArray, List.set_cons_zero, List.set_cons_succ, i64_w, i32_w]
                        rfl
                      refine pure_ (i := 23) (N := some 72) (v := ?_) (a' := ?_) #[true, true, true, true, true, true, true, true, true, true, true, true, true, true, true, true, true, true, true, true, true, false, false, true] rfl rfl (any_of HT_.out (by kernel_rfl)) (fun _ _ _ h => h) (Or.inl ⟨by rfl, ?_⟩) ?_ ?_
                      rotate_left
                      · intro w'
                        go_simp
                        with_reducible rfl
                      rotate_left
                      · simp only [Act.put, List.setIfInBounds_toArray, List.set_cons_zero, List.set_cons_succ, i64_w, i32_w]
                        rfl
                      refine one_ (i := 21) (N := some 70) #[true, true, true, true, true, true, true, true, true, true, true, true, true, true, true, true, true, true, true, true, true, true, false, true] rfl rfl (one_of HT_.out (by kernel_rfl)) (by decide) (fun K hK => ?_)
                      refine Kd.R_lit_step Kd.string _ 9 ?hg (N := 70) ?hd (xs := ([a2, strOfNums y122, (strOfNums y122) ++ a2, a2 ++ (strOfNums y122), strOfNums y123, ((strOfNums y123).extract 0 9) ++ (⟨#[1]⟩ : ByteArray), ((strOfNums y123).extract 0 9) ++ (⟨#[2]⟩ : ByteArray), ((strOfNums y123).extract 0 9) ++ (⟨#[0]⟩ : ByteArray)] : List ByteArray)) (inner := [.string a2, .string (strOfNums y122), .string ((strOfNums y122) ++ a2), .string (a2 ++ (strOfNums y122)), .string (strOfNums y123), .string (((strOfNums y123).extract 0 9) ++ (⟨#[1]⟩ : ByteArray)), .string (((strOfNums y123).extract 0 9) ++ (⟨#[2]⟩ : ByteArray)), .string (((strOfNums y123).extract 0 9) ++ (⟨#[0]⟩ : ByteArray))]) (ok := fun _ => True) (okp := fun _ => True) ?hr ?hp (fun _ hk => hk) trivial (Below.refl _ _) (Nat.le_refl _) (by simp) ?_; (case hd => rfl); (case hg => rfl); (case hr => first | (go_simp; done) | (go_simp; rfl)); (case hp => exact (Reps.one (show Kd.M Kd.string _ _ _ a2 [.string a2] from rfl) (Reps.one (show Kd.M Kd.string _ _ _ (strOfNums y122) [.string (strOfNums y122)] from rfl) (Reps.one (show Kd.M Kd.string _ _ _ ((strOfNums y122) ++ a2) [.string ((strOfNums y122) ++ a2)] from rfl) (Reps.one (show Kd.M Kd.string _ _ _ (a2 ++ (strOfNums y122)) [.string (a2 ++ (strOfNums y122))] from rfl) (Reps.one (show Kd.M Kd.string _ _ _ (strOfNums y123) [.string (strOfNums y123)] from rfl) (Reps.one (show Kd.M Kd.string _ _ _ (((strOfNums y123).extract 0 9) ++ (⟨#[1]⟩ : ByteArray)) [.string (((strOfNums y123).extract 0 9) ++ (⟨#[1]⟩ : ByteArray))] from rfl) (Reps.one (show Kd.M Kd.string _ _ _ (((strOfNums y123).extract 0 9) ++ (⟨#[2]⟩ : ByteArray)) [.string (((strOfNums y123).extract 0 9) ++ (⟨#[2]⟩ : ByteArray))] from rfl) (Reps.one (show Kd.M Kd.string _ _ _ (((strOfNums y123).extract 0 9) ++ (⟨#[0]⟩ : ByteArray)) [.string (((strOfNums y123).extract 0 9) ++ (⟨#[0]⟩ : ByteArray))] from rfl) (Reps.none _ _))))))))))
                      intro v127 w42 ho43 hb hg_ hnew_
                      clear hg_ hnew_
                      (first | rw [← Ny126.out] at ho43 | (simp only [Int.reduceToNat] at ho43; rw [← Ny126.out] at ho43))
                      have n0_ := Aside0.mk (Gzb.RZ.below (by (with_reducible repeat (first | apply Gzb.RZ.alloc | apply Gzb.RZ.drewN | apply Gzb.RZ.drew)); exact HO121.out) hb)
                      have n1_ := Aside0.mk (Kd.R_below (by (with_reducible repeat (first | apply Kd.R_alloc | apply Kd.R_drewN | apply Kd.R_drew)); exact HO125.out) hb)
                      have n2_ := Aside0.mk (Kd.R_lower ho43 (below_size (by repeat (first | (with_reducible first | exact HB.out | apply below_alloc | apply pw_below_drewN | apply below_drew1) | exact HB.out))))
                      have n3_ := Aside0.mk (below_step (by repeat (first | (with_reducible first | exact HB.out | apply below_alloc | apply pw_below_drewN | apply below_drew1) | exact HB.out)) hb)
                      clear HO121
                      clear HO125
                      clear HB
                      have HO121 := n0_
                      have HO125 := n1_
                      have HO128 := n2_
                      have HB := n3_
                      clear n0_ n1_ n2_ n3_
                      clear hb ho43
                      obtain ⟨Ao44, co44, eo44⟩ := Kd.R_slice HO128.out
                      (first | subst eo44 | (injection eo44 with f1_ f2_ f3_; have f4_ := f1_.symm; have f5_ := f3_.symm; clear f1_ f2_ f3_; subst f4_; subst f5_))
                      refine hK.out _ _ (Gzb.str (P := Try.prog) Try.underlying24 Try.underlying5 Try.underlying9 HO121.out) (fun hHeld => ?_)
                      clear hK K
                      refine norm_ (a' := ?_) ?_ ?_
                      rotate_left
                      · show Act.put _ (some 70) _ = _
                        simp only [Act.put, List.setIfInBounds_toArray, List.set_cons_zero, List.set_cons_succ, i64_w, i32_w]
                        rfl
                      refine pure_ (i := 22) (N := some 71) (v := ?_) (a' := ?_) #[true, true, true, true, true, true, true, true, true, true, true, true, true, true, true, true, true, true, true, true, true, true, true, true] rfl rfl (any_of HT_.out (by kernel_rfl)) (fun _ _ _ h => h) (Or.inl ⟨by rfl, ?_⟩) ?_ ?_
                      rotate_left
                      · intro w'
                        go_simp
                        with_reducible rfl
                      rotate_left
                      · simp only [Act.put, List.setIfInBounds_toArray, List.set_cons_zero, List.set_cons_succ, i64_w, i32_w]
                        rfl
                      refine done_ (done_of HT_.out (by kernel_rfl)) ?_
                      try go_wp2
                      go_loopg [72] k (fun kq v72 w' => ∃ (x72_1 : Int), v72 = .int .i64 x72_1 ∧ Aside0 (storagebarterlaw01_WireInts.l0 kq a3 y126 (y126.length : Int) x72_1 = some r) ∧ Aside0 (kq ≤ k) ∧ Aside0 (Kd.R Kd.string 9 w' w.heap.size (fun _ => True) (.slice Ao44 y126.length co44) y126) ∧ Aside0 (Below w.heap.size w w'))
                      case atStart => exact ⟨(0), (by first | rfl | (simp; done) | (simp [*]; done)), H', ⟨Nat.le_refl _⟩, ⟨by (with_reducible repeat (first | apply Kd.R_alloc | apply Kd.R_drewN | apply Kd.R_drew)); exact HO128.out⟩, ⟨by repeat (first | (with_reducible first | exact HB.out | apply below_alloc | apply pw_below_drewN | apply below_drew1) | exact HB.out)⟩⟩
                      case round =>
                        clear H'
                        try clear c1
                        try clear p1
                        try clear q1
                        try clear hx1
                        try clear c2
                        try clear p2
                        try clear c3
                        try clear hcv3
                        try clear hcv4
                        try clear p6
                        try clear c7
                        try clear c10
                        try clear c10b0
                        try clear c10b1
                        try clear c12
                        try clear c13
                        try clear c14
                        try clear c14b0
                        try clear c15
                        try clear c15b0
                        try clear p16
                        try clear q16
                        try clear hx16
                        try clear hf16
                        try clear c17
                        try clear c17b0
                        try clear c17b1
                        try clear c17b2
                        try clear c18
                        try clear c18b0
                        try clear c18b1
                        try clear c18b2
                        try clear c19
                        try clear c19b0
                        try clear c19b1
                        try clear c20
                        try clear c20b0
                        try clear c20b1
                        try clear c21
                        try clear c21b0
                        try clear c21b1
                        try clear c21b2
                        try clear c22
                        try clear c22b0
                        try clear c23
                        try clear c23b0
                        try clear c24
                        try clear c24b0
                        try clear c25
                        try clear c25b0
                        try clear hcv36
                        try clear hcv38
                        try clear hcv39
                        try clear hcv40
                        try clear hx16_0
                        try clear p16
                        try clear q16
                        obtain ⟨x72_1, rfl, HA, HK1, HO_70, HB⟩ := hrel
                        cases gk with
                        | zero => exact absurd HA.out (by simp [storagebarterlaw01_WireInts.l0])
                        | succ k1 =>
                          have H := HA.out
                          clear HA
                          simp only [storagebarterlaw01_WireInts.l0] at H
                          by_cases c45 : x72_1 < (y126.length : Int)
                          · rw [if_pos c45] at H
                            have c45b0 : decide (x72_1 < (y126.length : Int)) = true := decide_eq_true c45
                            clear c45
                            by_cases c46 : 0 ≤ x72_1
                            · rw [if_pos c46] at H
                              have c46b0 : decide (0 ≤ x72_1) = true := decide_eq_true c46
                              clear c46
                              by_cases c47 : x72_1 < (y126.length : Int)
                              · rw [if_pos c47] at H
                                have c47b0 : decide (x72_1 < (y126.length : Int)) = true := decide_eq_true c47
                                clear c47
                                by_cases c48 : (IntKind.u64.wrap (wrap64 (((rdOf ByteArray.empty y126 x72_1).size : Int) + 2))) = 0
                                · rw [if_pos c48] at H
                                  exact absurd H (by simp)
                                · rw [if_neg c48] at H
                                  have c48b0 : ((IntKind.u64.wrap (wrap64 (((rdOf ByteArray.empty y126 x72_1).size : Int) + 2))) == 0) = false := beq_eq_false_iff_ne.mpr c48
                                  have c48b1 : ((IntKind.u64.wrap (wrap64 (((rdOf ByteArray.empty y126 x72_1).size : Int) + 2))) != 0) = true := bne_iff_ne.mpr c48
                                  obtain ⟨y130, hy130⟩ : ∃ y_ : List Int, y_ = (([a3, 0, ((rdOf ByteArray.empty y126 x72_1).size : Int), wrap64 (Int.tmod (IntKind.u64.wrap (a3)) (IntKind.u64.wrap (wrap64 (((rdOf ByteArray.empty y126 x72_1).size : Int) + 2))))] : List Int)) := ⟨_, rfl⟩
                                  replace H : (storagebarterlaw01_WireInts.l1 k1 a3 (rdOf ByteArray.empty y126 x72_1) y126 (y126.length : Int) x72_1 y130 (y130.length : Int) 0) = some r := by first | (rw [hy130]; with_reducible exact H) | (have H2_ := (Option.bind_some _ _).symm.trans H; rw [hy130]; with_reducible exact H2_) | (have H2_ := (Option.bind_some _ _).symm.trans H; with_reducible exact H2_) | with_reducible exact H | (rw [hy130]; exact H) | exact H
                                  have Ny130 := Aside0.mk hy130
                                  clear hy130
                                  have H' := Aside0.mk H
                                  clear H
                                  have p129 : 0 ≤ (x72_1 : Int) := of_decide_eq_true (by first | (with_reducible assumption) | assumption)
                                  have q129 : x72_1 < (y126.length : Int) := of_decide_eq_true (by first | (with_reducible assumption) | assumption)
                                  obtain ⟨ad129, e129, hx129_0⟩ := Kd.at_string (Kd.R_reads' HO_70.out).2.2 x72_1 p129 q129
                                  cases e129
                                  replace p129 := eq_true p129
                                  replace q129 := eq_true q129
                                  go_wp2_with (first | ((with_reducible refine gate_dst (N := 87) rfl ?_); refine Kd.R_lit (Kd.int .i64) _ 3 ?hg (N := 87) ?hd (xs := ([a3, 0, ((rdOf ByteArray.empty y126 x72_1).size : Int), wrap64 (Int.tmod (IntKind.u64.wrap (a3)) (IntKind.u64.wrap (wrap64 (((rdOf ByteArray.empty y126 x72_1).size : Int) + 2))))] : List Int)) (inner := [.int .i64 a3, .int .i64 0, .int .i64 ((rdOf ByteArray.empty y126 x72_1).size : Int), .int .i64 (wrap64 (Int.tmod (IntKind.u64.wrap (a3)) (IntKind.u64.wrap (wrap64 (((rdOf ByteArray.empty y126 x72_1).size : Int) + 2)))))]) (ok := fun _ => True) (okp := fun _ => True) ?hr ?hp (fun _ hk => hk) trivial (Below.refl _ _) (Nat.le_refl _) (by simp) ?_; (case hd => rfl); (case hg => rfl); (case hr => first | (go_simp; done) | (go_simp; rfl)); (case hp => exact (Reps.one (show Kd.M (Kd.int .i64) _ _ _ a3 [.int .i64 a3] from rfl) (Reps.one (show Kd.M (Kd.int .i64) _ _ _ 0 [.int .i64 0] from rfl) (Reps.one (show Kd.M (Kd.int .i64) _ _ _ ((rdOf ByteArray.empty y126 x72_1).size : Int) [.int .i64 ((rdOf ByteArray.empty y126 x72_1).size : Int)] from rfl) (Reps.one (show Kd.M (Kd.int .i64) _ _ _ (wrap64 (Int.tmod (IntKind.u64.wrap (a3)) (IntKind.u64.wrap (wrap64 (((rdOf ByteArray.empty y126 x72_1).size : Int) + 2))))) [.int .i64 (wrap64 (Int.tmod (IntKind.u64.wrap (a3)) (IntKind.u64.wrap (wrap64 (((rdOf ByteArray.empty y126 x72_1).size : Int) + 2)))))] from rfl) (Reps.none _ _)))))); intro v131 w49 ho50 hb hg_ hnew_; clear hg_ hnew_; (first | rw [← Ny130.out] at ho50 | (simp only [Int.reduceToNat] at ho50; rw [← Ny130.out] at ho50)); have n0_ := Aside0.mk (Kd.R_below (by (with_reducible repeat (first | apply Kd.R_alloc | apply Kd.R_drewN | apply Kd.R_drew)); exact HO_70.out) hb); have n1_ := Aside0.mk (Kd.R_lower ho50 (below_size (by repeat (first | (with_reducible first | exact HB.out | apply below_alloc | apply pw_below_drewN | apply below_drew1) | exact HB.out)))); have n2_ := Aside0.mk (below_step (by repeat (first | (with_reducible first | exact HB.out | apply below_alloc | apply pw_below_drewN | apply below_drew1) | exact HB.out)) hb); clear HO_70; clear HB; have HO_70 := n0_; have HO132 := n1_; have HB := n2_; clear n0_ n1_ n2_; clear hb ho50; obtain ⟨Ao51, co51, eo51⟩ := Kd.R_slice HO132.out; subst eo51))
                                  go_loopg [89] k1 (fun kq v89 w' => ∃ (x89_2 : Int), v89 = .int .i64 x89_2 ∧ Aside0 (storagebarterlaw01_WireInts.l1 kq a3 (rdOf ByteArray.empty y126 x72_1) y126 (y126.length : Int) x72_1 y130 (y130.length : Int) x89_2 = some r) ∧ Aside0 (kq ≤ k1) ∧ Aside0 (Kd.R Kd.string 9 w' w.heap.size (fun _ => True) (.slice (some ad129) y126.length co44) y126) ∧ Aside0 (Kd.R (Kd.int .i64) 3 w' w.heap.size (fun _ => True) (.slice Ao51 y130.length co51) y130) ∧ Aside0 (Below w.heap.size w w'))
                                  case atStart => exact ⟨(0), (by first | rfl | (simp; done) | (simp [*]; done)), H', ⟨Nat.le_refl _⟩, ⟨by (with_reducible repeat (first | apply Kd.R_alloc | apply Kd.R_drewN | apply Kd.R_drew)); exact HO_70.out⟩, ⟨by (with_reducible repeat (first | apply Kd.R_alloc | apply Kd.R_drewN | apply Kd.R_drew)); exact HO132.out⟩, ⟨by repeat (first | (with_reducible first | exact HB.out | apply below_alloc | apply pw_below_drewN | apply below_drew1) | exact HB.out)⟩⟩
                                  case round =>
                                    clear H'
                                    try clear c1
                                    try clear p1
                                    try clear q1
                                    try clear hx1
                                    try clear c2
                                    try clear p2
                                    try clear c3
                                    try clear hcv3
                                    try clear c4
                                    try clear hcv4
                                    try clear p6
                                    try clear c7
                                    try clear c10
                                    try clear c10b0
                                    try clear c10b1
                                    try clear c12
                                    try clear p12
                                    try clear q12
                                    try clear hx12
                                    try clear c13
                                    try clear c14
                                    try clear c14b0
                                    try clear c15
                                    try clear c15b0
                                    try clear p16
                                    try clear q16
                                    try clear hx16
                                    try clear hf16
                                    try clear c17
                                    try clear c17b0
                                    try clear c17b1
                                    try clear c17b2
                                    try clear c18
                                    try clear c18b0
                                    try clear c18b1
                                    try clear c18b2
                                    try clear c19
                                    try clear c19b0
                                    try clear c19b1
                                    try clear c20
                                    try clear c20b0
                                    try clear c20b1
                                    try clear c21
                                    try clear c21b0
                                    try clear c21b1
                                    try clear c21b2
                                    try clear c22
                                    try clear c22b0
                                    try clear c23
                                    try clear c23b0
                                    try clear c24
                                    try clear c24b0
                                    try clear c25
                                    try clear c25b0
                                    try clear hcv36
                                    try clear hcv38
                                    try clear hcv39
                                    try clear hcv40
                                    try clear c45
                                    try clear c45b0
                                    try clear c46
                                    try clear c46b0
                                    try clear c47
                                    try clear c47b0
                                    try clear c48
                                    try clear c48b0
                                    try clear c48b1
                                    try clear hx129_0
                                    try clear hx16_0
                                    try clear p1
                                    try clear p129
                                    try clear p16
                                    try clear p2
                                    try clear p6
                                    try clear q1
                                    try clear q129
                                    try clear q16
                                    obtain ⟨x89_2, rfl, HA, HK2, HO_70, HO_87, HB⟩ := hrel
                                    cases gk with
                                    | zero => exact absurd HA.out (by simp [storagebarterlaw01_WireInts.l1])
                                    | succ k2 =>
                                      have H := HA.out
                                      clear HA
                                      simp only [storagebarterlaw01_WireInts.l1] at H
                                      by_cases c52 : x89_2 < (y130.length : Int)
                                      · rw [if_pos c52] at H
                                        have c52b0 : decide (x89_2 < (y130.length : Int)) = true := decide_eq_true c52
                                        clear c52
                                        by_cases c53 : 0 ≤ x89_2
                                        · rw [if_pos c53] at H
                                          have c53b0 : decide (0 ≤ x89_2) = true := decide_eq_true c53
                                          clear c53
                                          by_cases c54 : x89_2 < (y130.length : Int)
                                          · rw [if_pos c54] at H
                                            have c54b0 : decide (x89_2 < (y130.length : Int)) = true := decide_eq_true c54
                                            clear c54
                                            replace H := Option.bind_eq_some_iff.mp H
                                            obtain ⟨⟨t134, t135, t136⟩, A550, H⟩ := H
                                            replace H : ((storagebarterref01_Int.f k2 (rdOf ByteArray.empty y126 x72_1) (rd y130 x89_2)).bind fun bt137 => (if t134 = bt137.1 then (if t135 = bt137.2.1 then (if t136 = bt137.2.2 then (storagebarterlaw01_WireInts.l1 k2 a3 (rdOf ByteArray.empty y126 x72_1) y126 (y126.length : Int) x72_1 y130 (y130.length : Int) (wrap64 (x89_2 + 1))) else (some false)) else (some false)) else (some false))) = some r := H
                                            have A55 := Aside0.mk A550
                                            clear A550
                                            replace H := Option.bind_eq_some_iff.mp H
                                            obtain ⟨⟨t137, t138, t139⟩, A560, H⟩ := H
                                            replace H : (if t134 = t137 then (if t135 = t138 then (if t136 = t139 then (storagebarterlaw01_WireInts.l1 k2 a3 (rdOf ByteArray.empty y126 x72_1) y126 (y126.length : Int) x72_1 y130 (y130.length : Int) (wrap64 (x89_2 + 1))) else (some false)) else (some false)) else (some false)) = some r := H
                                            have A56 := Aside0.mk A560
                                            clear A560
                                            by_cases c57 : t134 = t137
                                            · rw [if_pos c57] at H
                                              have c57b0 : (t134 == t137) = true := beq_iff_eq.mpr c57
                                              have c57b1 : (t134 != t137) = false := bne_eq_false_iff_eq.mpr c57
                                              clear c57
                                              by_cases c58 : t135 = t138
                                              · rw [if_pos c58] at H
                                                have c58b0 : (t135 == t138) = true := beq_iff_eq.mpr c58
                                                have c58b1 : (t135 != t138) = false := bne_eq_false_iff_eq.mpr c58
                                                clear c58
                                                by_cases c59 : t136 = t139
                                                · rw [if_pos c59] at H
                                                  have c59b0 : (t136 == t139) = true := beq_iff_eq.mpr c59
                                                  have c59b1 : (t136 != t139) = false := bne_eq_false_iff_eq.mpr c59
                                                  clear c59
                                                  have H' := Aside0.mk H
                                                  clear H
                                                  have p133 : 0 ≤ (x89_2 : Int) := of_decide_eq_true (by first | (with_reducible assumption) | assumption)
                                                  have q133 : x89_2 < (y130.length : Int) := of_decide_eq_true (by first | (with_reducible assumption) | assumption)
                                                  obtain ⟨ad133, e133, hx133_0⟩ := Kd.at_int (Kd.R_reads' HO_87.out).2.2 x89_2 p133 q133
                                                  cases e133
                                                  replace p133 := eq_true p133
                                                  replace q133 := eq_true q133
                                                  go_wp2_with (first | ((with_reducible refine gate_callee (f := 16) rfl ?_); refine goesL_ (some 96) rfl rfl Try.func16 (by kernel_rfl) rfl #[.string (rdOf ByteArray.empty y126 x72_1), .int .i64 (rd y130 x89_2)] rfl (by (try simp only [List.map_toArray, List.map_cons, List.map_nil]); first | done | rfl | (simp only [List.length_drop, List.length_take]; rfl)) ?_; (with_reducible refine (wire_Int.calls k2 (rdOf ByteArray.empty y126 x72_1) (rd y130 x89_2) t134 t135 t136 _ A55.out).mono ?_); rintro e w' ⟨rfl, ⟨nd, rfl⟩⟩; refine ⟨_, rfl, ?_⟩) | ((with_reducible refine gate_callee (f := 17) rfl ?_); refine goesL_ (some 103) rfl rfl Try.func17 (by kernel_rfl) rfl #[.string (rdOf ByteArray.empty y126 x72_1), .int .i64 (rd y130 x89_2)] rfl (by (try simp only [List.map_toArray, List.map_cons, List.map_nil]); first | done | rfl | (simp only [List.length_drop, List.length_take]; rfl)) ?_; (with_reducible refine (storagebarterref01_Int.calls k2 (rdOf ByteArray.empty y126 x72_1) (rd y130 x89_2) t137 t138 t139 _ A56.out).mono ?_); rintro e w' ⟨rfl, ⟨nd, rfl⟩⟩; refine ⟨_, rfl, ?_⟩))
                                                  go_roundg k2
                                                  case measure => have := HK1.out; have := HK2.out; omega
                                                  case rel => exact ⟨(wrap64 (x89_2 + 1)), (by first | rfl | (simp; done) | (simp [*]; done)), H', ⟨by have := HK1.out; have := HK2.out; omega⟩, ⟨by (with_reducible repeat (first | apply Kd.R_alloc | apply Kd.R_drewN | apply Kd.R_drew)); exact HO_70.out⟩, ⟨by (with_reducible repeat (first | apply Kd.R_alloc | apply Kd.R_drewN | apply Kd.R_drew)); exact HO_87.out⟩, ⟨by repeat (first | (with_reducible first | exact HB.out | apply below_alloc | apply pw_below_drewN | apply below_drew1) | exact HB.out)⟩⟩
                                                · rw [if_neg c59] at H
                                                  have c59b0 : (t136 == t139) = false := beq_eq_false_iff_ne.mpr c59
                                                  have c59b1 : (t136 != t139) = true := bne_iff_ne.mpr c59
                                                  obtain rfl := Option.some.inj H
                                                  have p133 : 0 ≤ (x89_2 : Int) := of_decide_eq_true (by first | (with_reducible assumption) | assumption)
                                                  have q133 : x89_2 < (y130.length : Int) := of_decide_eq_true (by first | (with_reducible assumption) | assumption)
                                                  obtain ⟨ad133, e133, hx133_0⟩ := Kd.at_int (Kd.R_reads' HO_87.out).2.2 x89_2 p133 q133
                                                  cases e133
                                                  replace p133 := eq_true p133
                                                  replace q133 := eq_true q133
                                                  go_wp2_with (first | ((with_reducible refine gate_callee (f := 16) rfl ?_); refine goesL_ (some 96) rfl rfl Try.func16 (by kernel_rfl) rfl #[.string (rdOf ByteArray.empty y126 x72_1), .int .i64 (rd y130 x89_2)] rfl (by (try simp only [List.map_toArray, List.map_cons, List.map_nil]); first | done | rfl | (simp only [List.length_drop, List.length_take]; rfl)) ?_; (with_reducible refine (wire_Int.calls k2 (rdOf ByteArray.empty y126 x72_1) (rd y130 x89_2) t134 t135 t136 _ A55.out).mono ?_); rintro e w' ⟨rfl, ⟨nd, rfl⟩⟩; refine ⟨_, rfl, ?_⟩) | ((with_reducible refine gate_callee (f := 17) rfl ?_); refine goesL_ (some 103) rfl rfl Try.func17 (by kernel_rfl) rfl #[.string (rdOf ByteArray.empty y126 x72_1), .int .i64 (rd y130 x89_2)] rfl (by (try simp only [List.map_toArray, List.map_cons, List.map_nil]); first | done | rfl | (simp only [List.length_drop, List.length_take]; rfl)) ?_; (with_reducible refine (storagebarterref01_Int.calls k2 (rdOf ByteArray.empty y126 x72_1) (rd y130 x89_2) t137 t138 t139 _ A56.out).mono ?_); rintro e w' ⟨rfl, ⟨nd, rfl⟩⟩; refine ⟨_, rfl, ?_⟩))
                                                  go_ret
                                                  exact ⟨by first | rfl | (simp [errW_none, errW_some] <;> rfl) | (simp only [← hji13]; first | rfl | (simp [errW_none, errW_some] <;> rfl)) | (simp [*, errW_none, errW_some] <;> rfl), by repeat (first | (with_reducible first | exact HB.out | apply below_alloc | apply pw_below_drewN | apply below_drew1) | exact HB.out)⟩
                                              · rw [if_neg c58] at H
                                                have c58b0 : (t135 == t138) = false := beq_eq_false_iff_ne.mpr c58
                                                have c58b1 : (t135 != t138) = true := bne_iff_ne.mpr c58
                                                obtain rfl := Option.some.inj H
                                                have p133 : 0 ≤ (x89_2 : Int) := of_decide_eq_true (by first | (with_reducible assumption) | assumption)
                                                have q133 : x89_2 < (y130.length : Int) := of_decide_eq_true (by first | (with_reducible assumption) | assumption)
                                                obtain ⟨ad133, e133, hx133_0⟩ := Kd.at_int (Kd.R_reads' HO_87.out).2.2 x89_2 p133 q133
                                                cases e133
                                                replace p133 := eq_true p133
                                                replace q133 := eq_true q133
                                                go_wp2_with (first | ((with_reducible refine gate_callee (f := 16) rfl ?_); refine goesL_ (some 96) rfl rfl Try.func16 (by kernel_rfl) rfl #[.string (rdOf ByteArray.empty y126 x72_1), .int .i64 (rd y130 x89_2)] rfl (by (try simp only [List.map_toArray, List.map_cons, List.map_nil]); first | done | rfl | (simp only [List.length_drop, List.length_take]; rfl)) ?_; (with_reducible refine (wire_Int.calls k2 (rdOf ByteArray.empty y126 x72_1) (rd y130 x89_2) t134 t135 t136 _ A55.out).mono ?_); rintro e w' ⟨rfl, ⟨nd, rfl⟩⟩; refine ⟨_, rfl, ?_⟩) | ((with_reducible refine gate_callee (f := 17) rfl ?_); refine goesL_ (some 103) rfl rfl Try.func17 (by kernel_rfl) rfl #[.string (rdOf ByteArray.empty y126 x72_1), .int .i64 (rd y130 x89_2)] rfl (by (try simp only [List.map_toArray, List.map_cons, List.map_nil]); first | done | rfl | (simp only [List.length_drop, List.length_take]; rfl)) ?_; (with_reducible refine (storagebarterref01_Int.calls k2 (rdOf ByteArray.empty y126 x72_1) (rd y130 x89_2) t137 t138 t139 _ A56.out).mono ?_); rintro e w' ⟨rfl, ⟨nd, rfl⟩⟩; refine ⟨_, rfl, ?_⟩))
                                                go_ret
                                                exact ⟨by first | rfl | (simp [errW_none, errW_some] <;> rfl) | (simp only [← hji13]; first | rfl | (simp [errW_none, errW_some] <;> rfl)) | (simp [*, errW_none, errW_some] <;> rfl), by repeat (first | (with_reducible first | exact HB.out | apply below_alloc | apply pw_below_drewN | apply below_drew1) | exact HB.out)⟩
                                            · rw [if_neg c57] at H
                                              have c57b0 : (t134 == t137) = false := beq_eq_false_iff_ne.mpr c57
                                              have c57b1 : (t134 != t137) = true := bne_iff_ne.mpr c57
                                              obtain rfl := Option.some.inj H
                                              have p133 : 0 ≤ (x89_2 : Int) := of_decide_eq_true (by first | (with_reducible assumption) | assumption)
                                              have q133 : x89_2 < (y130.length : Int) := of_decide_eq_true (by first | (with_reducible assumption) | assumption)
                                              obtain ⟨ad133, e133, hx133_0⟩ := Kd.at_int (Kd.R_reads' HO_87.out).2.2 x89_2 p133 q133
                                              cases e133
                                              replace p133 := eq_true p133
                                              replace q133 := eq_true q133
                                              go_wp2_with (first | ((with_reducible refine gate_callee (f := 16) rfl ?_); refine goesL_ (some 96) rfl rfl Try.func16 (by kernel_rfl) rfl #[.string (rdOf ByteArray.empty y126 x72_1), .int .i64 (rd y130 x89_2)] rfl (by (try simp only [List.map_toArray, List.map_cons, List.map_nil]); first | done | rfl | (simp only [List.length_drop, List.length_take]; rfl)) ?_; (with_reducible refine (wire_Int.calls k2 (rdOf ByteArray.empty y126 x72_1) (rd y130 x89_2) t134 t135 t136 _ A55.out).mono ?_); rintro e w' ⟨rfl, ⟨nd, rfl⟩⟩; refine ⟨_, rfl, ?_⟩) | ((with_reducible refine gate_callee (f := 17) rfl ?_); refine goesL_ (some 103) rfl rfl Try.func17 (by kernel_rfl) rfl #[.string (rdOf ByteArray.empty y126 x72_1), .int .i64 (rd y130 x89_2)] rfl (by (try simp only [List.map_toArray, List.map_cons, List.map_nil]); first | done | rfl | (simp only [List.length_drop, List.length_take]; rfl)) ?_; (with_reducible refine (storagebarterref01_Int.calls k2 (rdOf ByteArray.empty y126 x72_1) (rd y130 x89_2) t137 t138 t139 _ A56.out).mono ?_); rintro e w' ⟨rfl, ⟨nd, rfl⟩⟩; refine ⟨_, rfl, ?_⟩))
                                              go_ret
                                              exact ⟨by first | rfl | (simp [errW_none, errW_some] <;> rfl) | (simp only [← hji13]; first | rfl | (simp [errW_none, errW_some] <;> rfl)) | (simp [*, errW_none, errW_some] <;> rfl), by repeat (first | (with_reducible first | exact HB.out | apply below_alloc | apply pw_below_drewN | apply below_drew1) | exact HB.out)⟩
                                          · rw [if_neg c54] at H
                                            exact absurd H (by simp)
                                        · rw [if_neg c53] at H
                                          exact absurd H (by simp)
                                      · rw [if_neg c52] at H
                                        have c52b0 : decide (x89_2 < (y130.length : Int)) = false := decide_eq_false c52
                                        clear c52
                                        have H' := Aside0.mk H
                                        clear H
                                        go_wp2
                                        go_roundg k2
                                        case measure => have := HK1.out; have := HK2.out; omega
                                        case rel => exact ⟨(wrap64 (x72_1 + 1)), (by first | rfl | (simp; done) | (simp [*]; done)), H', ⟨by have := HK1.out; have := HK2.out; omega⟩, ⟨by (with_reducible repeat (first | apply Kd.R_alloc | apply Kd.R_drewN | apply Kd.R_drew)); exact HO_70.out⟩, ⟨by repeat (first | (with_reducible first | exact HB.out | apply below_alloc | apply pw_below_drewN | apply below_drew1) | exact HB.out)⟩⟩
                              · rw [if_neg c47] at H
                                exact absurd H (by simp)
                            · rw [if_neg c46] at H
                              exact absurd H (by simp)
                          · rw [if_neg c45] at H
                            have c45b0 : decide (x72_1 < (y126.length : Int)) = false := decide_eq_false c45
                            clear c45
                            obtain rfl := Option.some.inj H
                            go_wp2
                            go_ret
                            exact ⟨by first | rfl | (simp [errW_none, errW_some] <;> rfl) | (simp only [← hji13]; first | rfl | (simp [errW_none, errW_some] <;> rfl)) | (simp [*, errW_none, errW_some] <;> rfl), by repeat (first | (with_reducible first | exact HB.out | apply below_alloc | apply pw_below_drewN | apply below_drew1) | exact HB.out)⟩
                    · rw [if_neg c21] at H
                      exact absurd H (by simp)
                  · rw [if_neg c20] at H
                    exact absurd H (by simp)
                · rw [if_neg c19] at H
                  exact absurd H (by simp)
              · rw [if_neg c18] at H
                exact absurd H (by simp)
            · rw [if_neg c17] at H
              exact absurd H (by simp)
          · rw [if_neg c15] at H
            exact absurd H (by simp)
        · rw [if_neg c14] at H
          exact absurd H (by simp)
      · rw [if_neg c12] at H
        exact absurd H (by simp)
    · rw [if_neg c10] at H
      have c10b0 : (t116.toList == t117.toList) = false := beq_eq_false_iff_ne.mpr c10
      have c10b1 : (t116.toList != t117.toList) = true := bne_iff_ne.mpr c10
      obtain rfl := Option.some.inj H
      go_enter Try.func3, Try.ntmps3
      go_wp2_with (first | ((with_reducible refine gate_callee (f := 13) rfl ?_); refine goesL_ (some 23) rfl rfl Try.func13 (by kernel_rfl) rfl #[] rfl (by (try simp only [List.map_toArray, List.map_cons, List.map_nil]); first | done | rfl | (simp only [List.length_drop, List.length_take]; rfl)) ?_; (with_reducible refine (storagebarterlaw01_sane.calls k  true _ A6.out).mono ?_); rintro e w60 ⟨rfl, hb⟩; refine ⟨_, rfl, ?_⟩; have n0_ := Aside0.mk (below_step (by repeat (first | (with_reducible first | exact HB.out | apply below_alloc | apply pw_below_drewN | apply below_drew1) | exact HB.out)) hb); clear HB; have HB := n0_; clear n0_; (try clear hb); (try clear hb2); (try clear hk); (try clear hi)) | ((with_reducible refine gate_callee (f := 14) rfl ?_); refine goesL_ (some 27) rfl rfl Try.func14 (by kernel_rfl) rfl #[.string a2, .int .i64 a0] rfl (by (try simp only [List.map_toArray, List.map_cons, List.map_nil]); first | done | rfl | (simp only [List.length_drop, List.length_take]; rfl)) ?_; (with_reducible refine (wire_PutInt.calls a2 a0 t116 _ A8.out).mono ?_); rintro e w61 ⟨rfl, hb⟩; refine ⟨_, rfl, ?_⟩; have n0_ := Aside0.mk (below_step (by repeat (first | (with_reducible first | exact HB.out | apply below_alloc | apply pw_below_drewN | apply below_drew1) | exact HB.out)) hb); clear HB; have HB := n0_; clear n0_; (try clear hb); (try clear hb2); (try clear hk); (try clear hi)) | ((with_reducible refine gate_callee (f := 15) rfl ?_); refine goesL_ (some 30) rfl rfl Try.func15 (by kernel_rfl) rfl #[.string a2, .int .i64 a0] rfl (by (try simp only [List.map_toArray, List.map_cons, List.map_nil]); first | done | rfl | (simp only [List.length_drop, List.length_take]; rfl)) ?_; (with_reducible refine (storagebarterref01_PutInt.calls k a2 a0 t117 _ A9.out).mono ?_); rintro e w62 ⟨rfl, hb⟩; refine ⟨_, rfl, ?_⟩; have n0_ := Aside0.mk (below_step (by repeat (first | (with_reducible first | exact HB.out | apply below_alloc | apply pw_below_drewN | apply below_drew1) | exact HB.out)) hb); clear HB; have HB := n0_; clear n0_; (try clear hb); (try clear hb2); (try clear hk); (try clear hi)))
      go_ret
      exact ⟨by first | rfl | (simp [errW_none, errW_some] <;> rfl) | (simp [*, errW_none, errW_some] <;> rfl), by repeat (first | (with_reducible first | exact HB.out | apply below_alloc | apply pw_below_drewN | apply below_drew1) | exact HB.out)⟩
  · replace c7 := Bool.eq_false_iff.mpr c7
    subst c7
    have H1 : (some false) = some r := by rw [if_neg (show ¬ (false = true) by decide)] at H; exact H
    clear H
    have H := H1
    clear H1
    obtain rfl := Option.some.inj H
    go_enter Try.func3, Try.ntmps3
    go_wp2_with (first | ((with_reducible refine gate_callee (f := 13) rfl ?_); refine goesL_ (some 23) rfl rfl Try.func13 (by kernel_rfl) rfl #[] rfl (by (try simp only [List.map_toArray, List.map_cons, List.map_nil]); first | done | rfl | (simp only [List.length_drop, List.length_take]; rfl)) ?_; (with_reducible refine (storagebarterlaw01_sane.calls k  false _ A6.out).mono ?_); rintro e w63 ⟨rfl, hb⟩; refine ⟨_, rfl, ?_⟩; have n0_ := Aside0.mk (below_step (by repeat (first | (with_reducible first | exact HB.out | apply below_alloc | apply pw_below_drewN | apply below_drew1) | exact HB.out)) hb); clear HB; have HB := n0_; clear n0_; (try clear hb); (try clear hb2); (try clear hk); (try clear hi)))
    go_ret
    exact ⟨by first | rfl | (simp [errW_none, errW_some] <;> rfl) | (simp [*, errW_none, errW_some] <;> rfl), by repeat (first | (with_reducible first | exact HB.out | apply below_alloc | apply pw_below_drewN | apply below_drew1) | exact HB.out)⟩

/-- THE ONE PURE STATEMENT of storagebarterlaw01_WireInts: yours. -/
def storagebarterlaw01_WireInts.Pure : Prop := ∀ (a0 : Int) (a1 : Int) (a2 : ByteArray) (a3 : Int) (a4 : Int), (Lit.int .i64 a0).wf = true → (Lit.int .i64 a1).wf = true → a2.size ≤ 140737488351232 → (Lit.int .i64 a3).wf = true → (Lit.int .u8 a4).wf = true → ∃ k, storagebarterlaw01_WireInts.f k a0 a1 a2 a3 a4 = some true
theorem storagebarterlaw01_WireInts.walk (P : storagebarterlaw01_WireInts.Pure) (a0 : Int) (a1 : Int) (a2 : ByteArray) (a3 : Int) (a4 : Int) (w : World) (w0 : (Lit.int .i64 a0).wf = true) (w1 : (Lit.int .i64 a1).wf = true) (w2 : a2.size ≤ 140737488351232) (w3 : (Lit.int .i64 a3).wf = true) (w4 : (Lit.int .u8 a4).wf = true) :
    Calls Try.prog 3 #[.int .i64 a0, .int .i64 a1, .string a2, .int .i64 a3, .int .u8 a4] w fun e w' => e = .returned (.bool true) ∧ Below w.heap.size w w' := by
  obtain ⟨k, h⟩ := P a0 a1 a2 a3 a4 w0 w1 w2 w3 w4
  refine (storagebarterlaw01_WireInts.calls k a0 a1 a2 a3 a4 true w h).mono ?_
  rintro e w' ⟨rfl, hd⟩
  exact ⟨rfl, hd⟩

end Go.Proofs.Ytpebhbhdkmpjeaa.Q

/- The printed functions of 'wire' and of its reference, in plain words: what bytes mean as a number. -/
namespace Go.Proofs.Ytpebhbhdkmpjeaa.Gwa
open Go Go.RowKit Go.Proofs.Ytpebhbhdkmpjeaa.Gm Go.Proofs.Ytpebhbhdkmpjeaa.Q Go.Proofs.Ytpebhbhdkmpjeaa.Gput Go.Proofs.YtpebhbhdkmpjeaaW.PrintWords Go.Proofs.YtpebhbhdkmpjeaaW.PrintLast Go.Proofs.YtpebhbhdkmpjeaaW.PrintMore
set_option linter.unusedVariables false

theorem wrap_u64 (x : Int) : IntKind.u64.wrap x = x % 18446744073709551616 := by simp [IntKind.wrap, IntKind.bits, IntKind.signed]
theorem wraps_u64 (n : Int) (h₀ : 0 ≤ n) (h₁ : n < 2 ^ 64) : IntKind.u64.wrap n = n := by rw [wrap_u64]; omega

theorem w64 {x : Int} (h : -9223372036854775808 ≤ x ∧ x ≤ 9223372036854775807) : wrap64 x = x := by unfold wrap64; omega

theorem u8_and127 (x : Int) (h₀ : 0 ≤ x) (h₁ : x < 256) : bits .and .u8 x 127 = x % 128 := bits_mask .u8 8 (by decide) wraps_u8 7 (by decide) x h₀ h₁
theorem u64_and1 (x : Int) (h₀ : 0 ≤ x) (h₁ : x < 18446744073709551616) : bits .and .u64 x 1 = x % 2 := bits_mask .u64 64 (by decide) wraps_u64 1 (by decide) x h₀ h₁

theorem or_comm64 (a b : Nat) (ha : a < 2 ^ 64) (hb : b < 2 ^ 64) : bits .or .u64 (a : Int) (b : Int) = bits .or .u64 (b : Int) (a : Int) := by
  rw [(bits_nat .u64 64 (by decide) wraps_u64 a b ha hb).2, (bits_nat .u64 64 (by decide) wraps_u64 b a hb ha).2, Nat.or_comm]

theorem pow128 (i : Nat) : (128 : Nat) ^ i = 2 ^ (7 * i) := by rw [Nat.pow_mul]

theorem mul_lt64 {i b : Nat} (hi : i ≤ 9) (hb : i = 9 → b ≤ 1) : b % 128 * 128 ^ i + 128 ^ i ≤ 18446744073709551616 := by
  obtain ⟨m, hm, hm2, hm9⟩ := pow_split hi
  rw [hm, ← Nat.succ_mul, Nat.mul_comm]
  refine Nat.mul_le_mul_left _ ?_
  rcases Nat.lt_or_ge i 9 with h | h
  · have := hm9 h; omega
  · have := hb (by omega); omega

theorem shl_part (b i : Nat) (h256 : b < 256) (hi : i ≤ 9) (hb : i = 9 → b ≤ 1) : shl .u64 (IntKind.u64.wrap (bits .and .u8 (b : Int) 127)) (wrap64 (7 * (i : Int))) = ((b % 128 * 128 ^ i : Nat) : Int) := by
  have hlt := mul_lt64 hi hb
  have hpos : 0 < 128 ^ i := Nat.pow_pos (by decide)
  rw [u8_and127 _ (by omega) (by omega), w64 (by omega), wrap_u64]
  unfold shl
  have e1 : ((b : Int) % 128 % 18446744073709551616) = ((b % 128 : Nat) : Int) := by omega
  have e2 : min (7 * (i : Int)).toNat IntKind.u64.bits = 7 * i := by
    have : IntKind.u64.bits = 64 := rfl
    omega
  rw [e1, e2, wrap_u64]
  have e3 : ((b % 128 : Nat) : Int) * 2 ^ (7 * i) = ((b % 128 * 128 ^ i : Nat) : Int) := by
    rw [pow128, Int.natCast_mul, Int.natCast_pow]
    rfl
  rw [e3]
  omega

theorem or_part (u b i : Nat) (h256 : b < 256) (hi : i ≤ 9) (hb : i = 9 → b ≤ 1) (hu : u < 128 ^ i) :
    bits .or .u64 (u : Int) ((b % 128 * 128 ^ i : Nat) : Int) = ((u + b % 128 * 128 ^ i : Nat) : Int) := by
  have hlt := mul_lt64 hi hb
  have hpos : 0 < 128 ^ i := Nat.pow_pos (by decide)
  have h64 : (18446744073709551616 : Nat) = 2 ^ 64 := by decide
  have hx : b % 128 * 128 ^ i < 2 ^ 64 := by rw [← h64]; omega
  have hu64 : u < 2 ^ 64 := by rw [← h64]; omega
  rw [or_comm64 _ _ hu64 hx]
  have hj := bits_join .u64 64 (by decide) wraps_u64 (7 * i) ((b % 128 * 128 ^ i : Nat) : Int) (u : Int) (by omega)
    (by rw [pow128]; have : ((2 : Int) ^ (7 * i)) = ((2 ^ (7 * i) : Nat) : Int) := by simp
        rw [this, ← Int.natCast_emod, Nat.mul_mod_left]; rfl)
    (by exact_mod_cast hx) (by omega) (by rw [pow128] at hu; exact_mod_cast hu) (by exact_mod_cast hu64)
  rw [hj]
  omega

theorem bits_xor64i (a b : Int) : bits .xor .i64 a b = IntKind.i64.wrap ((BitVec.ofInt 64 a ^^^ BitVec.ofInt 64 b).toNat : Int) := rfl

theorem unzig_bits (U : Nat) (h : U < 18446744073709551616) : bits .xor .i64 (wrap64 ((U : Int) / 2)) (wrap64 (-(wrap64 (bits .and .u64 (U : Int) 1)))) = unzig U := by
  rw [u64_and1 _ (by omega) (by omega), w64 (x := (U : Int) / 2) (by omega), w64 (x := (U : Int) % 2) (by omega), w64 (by omega)]
  have ex : ((U : Int) / 2) = ((U / 2 : Nat) : Int) := by omega
  rw [ex, bits_xor64i, BitVec.ofInt_natCast]
  have hlt : U / 2 < 2 ^ 64 := by omega
  unfold unzig
  rcases Nat.mod_two_eq_zero_or_one U with h0 | h1
  · have e0 : (-((U : Int) % 2)) = ((0 : Nat) : Int) := by omega
    rw [e0, BitVec.ofInt_natCast, BitVec.toNat_xor, BitVec.toNat_ofNat, BitVec.toNat_ofNat, Nat.mod_eq_of_lt hlt, Nat.zero_mod, Nat.xor_zero, IntKind.wrap_i64, if_pos h0]
    omega
  · have e1 : (-((U : Int) % 2)) = -1 := by omega
    have hn : BitVec.ofInt 64 (-1) = BitVec.allOnes 64 := by decide
    rw [e1, hn, BitVec.xor_allOnes, BitVec.toNat_not, BitVec.toNat_ofNat, Nat.mod_eq_of_lt hlt, IntKind.wrap_i64, if_neg (by omega)]
    omega

/-- What is told of the bytes from an index on. -/
def told (a : Int) : Nat × Nat × Nat → Int × Int × Int
  | (u, n, 0) => (unzig u, a + n, 0)
  | (_, _, e) => (0, 0, e)

def intAt (s : ByteArray) (a : Int) : Int × Int × Int :=
  if a < 0 ∨ a > s.size then (0, 0, 1) else told a (rdU 0 0 (s.data.toList.drop a.toNat))

theorem bt_at (s : ByteArray) (a : Nat) (h : a < s.size) : bt s (a : Int) = ((s.data.toList.drop a).headD 0).toNat := by
  have h' : a < s.data.size := h
  unfold bt
  rw [dif_pos (by simpa using h)]
  simp only [Int.toNat_natCast]
  rw [List.drop_eq_getElem_cons (by simpa using h')]
  rfl

theorem drop_at (s : ByteArray) (a : Nat) (h : a < s.size) : s.data.toList.drop a = UInt8.ofNat (bt s (a : Int)).toNat :: s.data.toList.drop (a + 1) := by
  have h' : a < s.data.size := h
  rw [bt_at s a h, List.drop_eq_getElem_cons (by simpa using h')]
  simp

theorem bt_lt (s : ByteArray) (i : Int) : 0 ≤ bt s i ∧ bt s i < 256 := by
  unfold bt
  split
  · have := (s[i.toNat]).toNat_lt; omega
  · omega

set_option maxHeartbeats 1000000 in
theorem wire_Int_l0 (s : ByteArray) (a : Nat) (hs : s.size ≤ 9223372036854775000) : ∀ (d i u k : Nat), 9 - i = d → i ≤ 9 → a + i ≤ s.size → u < 128 ^ i → 2 * d + 3 ≤ k →
    wire_Int.l0 k s a u i = some (told a (rdU i u (s.data.toList.drop (a + i)))) := by
  intro d
  induction d with
  | zero =>
    intro i u k hd hi ha hu hk
    obtain rfl : i = 9 := by omega
    obtain ⟨k, rfl⟩ : ∃ m, k = m + 2 := ⟨k - 2, by omega⟩
    have ew : wrap64 ((a : Int) + ((9 : Nat) : Int)) = ((a + 9 : Nat) : Int) := by rw [w64 (by omega)]; omega
    simp only [wire_Int.l0]
    rw [ew]
    by_cases hend : a + 9 = s.size
    · rw [if_pos (by omega), List.drop_of_length_le (by rw [Array.length_toList]; exact Nat.le_of_eq hend.symm)]
      rfl
    · have hlt : a + 9 < s.size := by omega
      have hb := bt_lt s ((a + 9 : Nat) : Int)
      obtain ⟨b, hbn⟩ : ∃ b : Nat, bt s ((a + 9 : Nat) : Int) = b := ⟨(bt s ((a + 9 : Nat) : Int)).toNat, by omega⟩
      rw [if_neg (by omega), if_pos (by omega), if_pos (by omega), drop_at s _ hlt, hbn, rdU, Int.toNat_natCast, u8_ofNat b (by omega), if_pos (by omega)]
      by_cases h1 : 1 < b
      · rw [if_pos (by omega), if_pos (.inl ⟨rfl, h1⟩)]
        simp only [wire_Int.j2]
        rfl
      · rw [if_neg (by omega), if_pos (by omega)]
        by_cases h0 : b = 0
        · rw [if_pos (.inr ⟨by omega, h0⟩)]
          subst h0
          simp only [wire_Int.j2]
          rfl
        · have hb0 : ((b : Int) == 0) = false := by simp; omega
          rw [if_neg (by omega), if_pos (by omega), hb0]
          simp only [wire_Int.j2]
          rw [if_neg (by simp), if_pos (by rw [w64 (by omega)]; omega), if_pos (by omega), shl_part b 9 (by omega) (by omega) (fun _ => by omega), or_part u b 9 (by omega) (by omega) (fun _ => by omega) hu]
          have hlt := mul_lt64 (i := 9) (b := b) (by omega) (fun _ => by omega)
          rw [unzig_bits _ (by omega), ew, w64 (by omega), Nat.mod_eq_of_lt (show b < 128 by omega)]
          simp only [told]
          rfl
  | succ d ih =>
    intro i u k hd hi ha hu hk
    obtain ⟨k, rfl⟩ : ∃ m, k = m + 2 := ⟨k - 2, by omega⟩
    have ew : wrap64 ((a : Int) + (i : Int)) = ((a + i : Nat) : Int) := by rw [w64 (by omega)]; omega
    simp only [wire_Int.l0]
    rw [ew]
    by_cases hend : a + i = s.size
    · rw [if_pos (by omega), List.drop_of_length_le (by rw [Array.length_toList]; exact Nat.le_of_eq hend.symm)]
      rfl
    · have hlt : a + i < s.size := by omega
      have hb := bt_lt s ((a + i : Nat) : Int)
      obtain ⟨b, hbn⟩ : ∃ b : Nat, bt s ((a + i : Nat) : Int) = b := ⟨(bt s ((a + i : Nat) : Int)).toNat, by omega⟩
      have key : ∀ z : Bool, z = decide (0 < i ∧ b = 0) → wire_Int.j2 (k + 1) s a u i b z = some (told a (if (i = 9 ∧ 1 < b) ∨ (0 < i ∧ b = 0) then (0, 0, 2) else if b < 128 then (u + b * 128 ^ i, i + 1, 0) else rdU (i + 1) (u + b % 128 * 128 ^ i) (s.data.toList.drop (a + i + 1)))) := by
        intro z hz
        simp only [wire_Int.j2]
        by_cases hc : 0 < i ∧ b = 0
        · rw [if_pos (by rw [hz]; simp [hc]), if_pos (.inr hc)]
          rfl
        · rw [if_neg (by rw [hz]; simpa using hc), if_neg (show ¬ ((i = 9 ∧ 1 < b) ∨ (0 < i ∧ b = 0)) by rintro (⟨h9, -⟩ | h); omega; exact hc h), if_pos (show 0 ≤ wrap64 (7 * (i : Int)) by rw [w64 (by omega)]; omega), shl_part b i (by omega) hi (fun _ => by omega), or_part u b i (by omega) hi (fun _ => by omega) hu]
          have hlt := mul_lt64 hi (b := b) (fun _ => by omega)
          by_cases h128 : b < 128
          · rw [if_pos (by omega), if_pos h128, unzig_bits _ (by omega), ew, w64 (by omega), Nat.mod_eq_of_lt h128]
            simp only [told]
            rfl
          · rw [if_neg (by omega), if_neg h128, w64 (by omega)]
            have h2 : u + b % 128 * 128 ^ i < 128 ^ (i + 1) := by
              have h3 : b % 128 * 128 ^ i ≤ 127 * 128 ^ i := Nat.mul_le_mul_right _ (by omega)
              have h4 : 128 ^ (i + 1) = 128 ^ i * 128 := Nat.pow_succ 128 i
              omega
            have := ih (i + 1) (u + b % 128 * 128 ^ i) (k) (by omega) (by omega) (by omega) h2 (by omega)
            rw [show ((i + 1 : Nat) : Int) = (i : Int) + 1 by omega] at this
            rw [this, Nat.add_assoc]
      rw [if_neg (by omega), if_pos (by omega), if_pos (by omega), drop_at s _ hlt, hbn, rdU, Int.toNat_natCast, u8_ofNat b (by omega), if_neg (by omega)]
      by_cases hi0 : 0 < i
      · rw [if_pos (by omega)]
        refine key _ ?_
        rw [Bool.eq_iff_iff]; simp; omega
      · rw [if_neg (by omega)]
        exact key _ (by simp; omega)

theorem wire_Int_eq (s : ByteArray) (a : Int) (k : Nat) (hs : s.size ≤ 9223372036854775000) (hk : 24 ≤ k) : wire_Int.f k s a = some (intAt s a) := by
  obtain ⟨k, rfl⟩ : ∃ m, k = m + 1 := ⟨k - 1, by omega⟩
  unfold wire_Int.f intAt
  by_cases h0 : a < 0
  · rw [if_pos h0, if_pos (.inl h0)]
    simp only [wire_Int.j0]
    rfl
  · rw [if_neg h0]
    simp only [wire_Int.j0]
    by_cases h1 : a > (s.size : Int)
    · rw [if_pos (by simpa using h1), if_pos (.inr h1)]
    · rw [if_neg (by simpa using h1), if_neg (by omega)]
      obtain ⟨n, rfl⟩ : ∃ n : Nat, a = n := ⟨a.toNat, by omega⟩
      exact wire_Int_l0 s n hs 9 0 0 k rfl (by omega) (by omega) (by simp) (by omega)

end Go.Proofs.Ytpebhbhdkmpjeaa.Gwa

namespace Go.Proofs.Ytpebhbhdkmpjeaa.Q
open Go.RowKit Go.Proofs.YtpebhbhdkmpjeaaW.PrintWords Go.Proofs.YtpebhbhdkmpjeaaW.PrintLast Go.Proofs.YtpebhbhdkmpjeaaW.PrintMore Go.Proofs.Ytpebhbhdkmpjeaa.Gput Go.Proofs.Ytpebhbhdkmpjeaa.Gputl
attribute [local go_sem] max2_int min2_int max_two min_two max_three min_three max_four min_four   -- for this text's walks alone
set_option linter.unusedVariables false
set_option linter.unusedSimpArgs false

/-! ### wire_count: function 53 -/
def wire_count.f (k : Nat) (a0 : ByteArray) (a1 : Int) (a2 : Int) : Option (Int × Int × Int) := (wire_Int.f k a0 a1).bind fun bt244 => (if bt244.2.2 = 0 then (if bt244.1 < 0 then (some (0, 0, 2)) else (if bt244.1 > a2 then (some (0, 0, 4)) else (some (bt244.1, bt244.2.1, 0)))) else (some (0, 0, bt244.2.2)))
theorem wire_count.mono : ∀ a0 a1 a2 k, LeO (wire_count.f k a0 a1 a2) (wire_count.f (k + 1) a0 a1 a2) := by
  intro a0 a1 a2 k
  unfold wire_count.f
  repeat' first
      | (with_reducible exact wire_Int.mono _ _ _)
      | (with_reducible exact LeO.refl _)
      | (with_reducible exact LeO.none _)
      | (with_reducible refine LeO.ite ?_ ?_)
      | (with_reducible refine LeO.bind ?_ (fun _ => ?_))
      | exact wire_Int.mono _ _ _
      | exact LeO.none _
      | refine LeO.ite ?_ ?_
      | refine LeO.bind ?_ (fun _ => ?_)
set_option maxHeartbeats 8000000 in
set_option maxRecDepth 100000 in
theorem wire_count.calls (k : Nat) (a0 : ByteArray) (a1 : Int) (a2 : Int) (r1 : Int) (r2 : Int) (r3 : Int) (w : World) (h : wire_count.f k a0 a1 a2 = some (r1, r2, r3)) :
    Calls Try.prog 53 #[.string a0, .int .i64 a1, .int .i64 a2] w fun e w' => e = .returned (.tuple #[.int .i64 r1, .int .i64 r2, .int .i64 r3]) ∧ Drawn0 w w' := by
  have H : ((wire_Int.f k a0 a1).bind fun bt244 => (if bt244.2.2 = 0 then (if bt244.1 < 0 then (some (0, 0, 2)) else (if bt244.1 > a2 then (some (0, 0, 4)) else (some (bt244.1, bt244.2.1, 0)))) else (some (0, 0, bt244.2.2)))) = some (r1, r2, r3) := h
  clear h
  replace H := Option.bind_eq_some_iff.mp H
  obtain ⟨⟨t244, t245, t246⟩, A40, H⟩ := H
  replace H : (if t246 = 0 then (if t244 < 0 then (some (0, 0, 2)) else (if t244 > a2 then (some (0, 0, 4)) else (some (t244, t245, 0)))) else (some (0, 0, t246))) = some (r1, r2, r3) := H
  have A4 := Aside0.mk A40
  clear A40
  by_cases c5 : t246 = 0
  · rw [if_pos c5] at H
    have c5b0 : (t246 == 0) = true := beq_iff_eq.mpr c5
    have c5b1 : (t246 != 0) = false := bne_eq_false_iff_eq.mpr c5
    clear c5
    by_cases c6 : t244 < 0
    · rw [if_pos c6] at H
      have c6b0 : decide (t244 < 0) = true := decide_eq_true c6
      clear c6
      simp only [Option.some.injEq, Prod.mk.injEq] at H
      obtain ⟨rfl, rfl, rfl⟩ := H
      go_enter Try.func53, Try.ntmps53
      go_wp2_with (first | ((with_reducible refine gate_callee (f := 16) rfl ?_); refine goesL_ (some 14) rfl rfl Try.func16 (by kernel_rfl) rfl #[.string a0, .int .i64 a1] rfl (by (try simp only [List.map_toArray, List.map_cons, List.map_nil]); first | done | rfl | (simp only [List.length_drop, List.length_take]; rfl)) ?_; (with_reducible refine (wire_Int.calls k a0 a1 t244 t245 t246 _ A4.out).mono ?_); rintro e w' ⟨rfl, ⟨nd, rfl⟩⟩; refine ⟨_, rfl, ?_⟩))
      go_ret3
      exact ⟨by first | rfl | (simp; done) | (simp [*]; done), by repeat (first | exact Drawn0.refl _ | apply Drawn0.step)⟩
    · rw [if_neg c6] at H
      have c6b0 : decide (t244 < 0) = false := decide_eq_false c6
      clear c6
      by_cases c7 : t244 > a2
      · rw [if_pos c7] at H
        have c7b0 : decide (a2 < t244) = true := decide_eq_true c7
        clear c7
        simp only [Option.some.injEq, Prod.mk.injEq] at H
        obtain ⟨rfl, rfl, rfl⟩ := H
        go_enter Try.func53, Try.ntmps53
        go_wp2_with (first | ((with_reducible refine gate_callee (f := 16) rfl ?_); refine goesL_ (some 14) rfl rfl Try.func16 (by kernel_rfl) rfl #[.string a0, .int .i64 a1] rfl (by (try simp only [List.map_toArray, List.map_cons, List.map_nil]); first | done | rfl | (simp only [List.length_drop, List.length_take]; rfl)) ?_; (with_reducible refine (wire_Int.calls k a0 a1 t244 t245 t246 _ A4.out).mono ?_); rintro e w' ⟨rfl, ⟨nd, rfl⟩⟩; refine ⟨_, rfl, ?_⟩))
        go_ret3
        exact ⟨by first | rfl | (simp; done) | (simp [*]; done), by repeat (first | exact Drawn0.refl _ | apply Drawn0.step)⟩
      · rw [if_neg c7] at H
        have c7b0 : decide (a2 < t244) = false := decide_eq_false c7
        clear c7
        simp only [Option.some.injEq, Prod.mk.injEq] at H
        obtain ⟨rfl, rfl, rfl⟩ := H
        go_enter Try.func53, Try.ntmps53
        go_wp2_with (first | ((with_reducible refine gate_callee (f := 16) rfl ?_); refine goesL_ (some 14) rfl rfl Try.func16 (by kernel_rfl) rfl #[.string a0, .int .i64 a1] rfl (by (try simp only [List.map_toArray, List.map_cons, List.map_nil]); first | done | rfl | (simp only [List.length_drop, List.length_take]; rfl)) ?_; (with_reducible refine (wire_Int.calls k a0 a1 t244 t245 t246 _ A4.out).mono ?_); rintro e w' ⟨rfl, ⟨nd, rfl⟩⟩; refine ⟨_, rfl, ?_⟩))
        go_ret3
        exact ⟨by first | rfl | (simp; done) | (simp [*]; done), by repeat (first | exact Drawn0.refl _ | apply Drawn0.step)⟩
  · rw [if_neg c5] at H
    have c5b0 : (t246 == 0) = false := beq_eq_false_iff_ne.mpr c5
    have c5b1 : (t246 != 0) = true := bne_iff_ne.mpr c5
    simp only [Option.some.injEq, Prod.mk.injEq] at H
    obtain ⟨rfl, rfl, rfl⟩ := H
    go_enter Try.func53, Try.ntmps53
    go_wp2_with (first | ((with_reducible refine gate_callee (f := 16) rfl ?_); refine goesL_ (some 14) rfl rfl Try.func16 (by kernel_rfl) rfl #[.string a0, .int .i64 a1] rfl (by (try simp only [List.map_toArray, List.map_cons, List.map_nil]); first | done | rfl | (simp only [List.length_drop, List.length_take]; rfl)) ?_; (with_reducible refine (wire_Int.calls k a0 a1 t244 t245 t246 _ A4.out).mono ?_); rintro e w' ⟨rfl, ⟨nd, rfl⟩⟩; refine ⟨_, rfl, ?_⟩))
    go_ret3
    exact ⟨by first | rfl | (simp; done) | (simp [*]; done), by repeat (first | exact Drawn0.refl _ | apply Drawn0.step)⟩

end Go.Proofs.Ytpebhbhdkmpjeaa.Q

namespace Go.Proofs.Ytpebhbhdkmpjeaa.Q
open Go.RowKit Go.Proofs.YtpebhbhdkmpjeaaW.PrintWords Go.Proofs.YtpebhbhdkmpjeaaW.PrintLast Go.Proofs.YtpebhbhdkmpjeaaW.PrintMore Go.Proofs.Ytpebhbhdkmpjeaa.Gput Go.Proofs.Ytpebhbhdkmpjeaa.Gputl
attribute [local go_sem] max2_int min2_int max_two min_two max_three min_three max_four min_four   -- for this text's walks alone
set_option linter.unusedVariables false
set_option linter.unusedSimpArgs false

/-! ### wire_Text: function 35 -/
def wire_Text.f (k : Nat) (a0 : ByteArray) (a1 : Int) (a2 : Int) : Option (ByteArray × Int × Int) := (wire_count.f k a0 a1 a2).bind fun bt247 => (if bt247.2.2 = 0 then (if bt247.1 > (wrap64 ((a0.size : Int) - bt247.2.1)) then (some ((⟨#[]⟩ : ByteArray), 0, 3)) else (if 0 ≤ bt247.2.1 then (if bt247.2.1 ≤ (wrap64 (bt247.2.1 + bt247.1)) then (if (wrap64 (bt247.2.1 + bt247.1)) ≤ (a0.size : Int) then (some (a0.extract (bt247.2.1 : Int).toNat ((wrap64 (bt247.2.1 + bt247.1)) : Int).toNat, wrap64 (bt247.2.1 + bt247.1), 0)) else (none)) else (none)) else (none))) else (some ((⟨#[]⟩ : ByteArray), 0, bt247.2.2)))
theorem wire_Text.mono : ∀ a0 a1 a2 k, LeO (wire_Text.f k a0 a1 a2) (wire_Text.f (k + 1) a0 a1 a2) := by
  intro a0 a1 a2 k
  unfold wire_Text.f
  repeat' first
      | (with_reducible exact wire_count.mono _ _ _ _)
      | (with_reducible exact LeO.refl _)
      | (with_reducible exact LeO.none _)
      | (with_reducible refine LeO.ite ?_ ?_)
      | (with_reducible refine LeO.bind ?_ (fun _ => ?_))
      | exact wire_count.mono _ _ _ _
      | exact LeO.none _
      | refine LeO.ite ?_ ?_
      | refine LeO.bind ?_ (fun _ => ?_)
set_option maxHeartbeats 8000000 in
set_option maxRecDepth 100000 in
theorem wire_Text.calls (k : Nat) (a0 : ByteArray) (a1 : Int) (a2 : Int) (r1 : ByteArray) (r2 : Int) (r3 : Int) (w : World) (h : wire_Text.f k a0 a1 a2 = some (r1, r2, r3)) :
    Calls Try.prog 35 #[.string a0, .int .i64 a1, .int .i64 a2] w fun e w' => e = .returned (.tuple #[.string r1, .int .i64 r2, .int .i64 r3]) ∧ Drawn0 w w' := by
  have H : ((wire_count.f k a0 a1 a2).bind fun bt247 => (if bt247.2.2 = 0 then (if bt247.1 > (wrap64 ((a0.size : Int) - bt247.2.1)) then (some ((⟨#[]⟩ : ByteArray), 0, 3)) else (if 0 ≤ bt247.2.1 then (if bt247.2.1 ≤ (wrap64 (bt247.2.1 + bt247.1)) then (if (wrap64 (bt247.2.1 + bt247.1)) ≤ (a0.size : Int) then (some (a0.extract (bt247.2.1 : Int).toNat ((wrap64 (bt247.2.1 + bt247.1)) : Int).toNat, wrap64 (bt247.2.1 + bt247.1), 0)) else (none)) else (none)) else (none))) else (some ((⟨#[]⟩ : ByteArray), 0, bt247.2.2)))) = some (r1, r2, r3) := h
  clear h
  replace H := Option.bind_eq_some_iff.mp H
  obtain ⟨⟨t247, t248, t249⟩, A40, H⟩ := H
  replace H : (if t249 = 0 then (if t247 > (wrap64 ((a0.size : Int) - t248)) then (some ((⟨#[]⟩ : ByteArray), 0, 3)) else (if 0 ≤ t248 then (if t248 ≤ (wrap64 (t248 + t247)) then (if (wrap64 (t248 + t247)) ≤ (a0.size : Int) then (some (a0.extract (t248 : Int).toNat ((wrap64 (t248 + t247)) : Int).toNat, wrap64 (t248 + t247), 0)) else (none)) else (none)) else (none))) else (some ((⟨#[]⟩ : ByteArray), 0, t249))) = some (r1, r2, r3) := H
  have A4 := Aside0.mk A40
  clear A40
  by_cases c5 : t249 = 0
  · rw [if_pos c5] at H
    have c5b0 : (t249 == 0) = true := beq_iff_eq.mpr c5
    have c5b1 : (t249 != 0) = false := bne_eq_false_iff_eq.mpr c5
    clear c5
    by_cases c6 : t247 > (wrap64 ((a0.size : Int) - t248))
    · rw [if_pos c6] at H
      have c6b0 : decide ((wrap64 ((a0.size : Int) - t248)) < t247) = true := decide_eq_true c6
      clear c6
      simp only [Option.some.injEq, Prod.mk.injEq] at H
      obtain ⟨rfl, rfl, rfl⟩ := H
      go_enter Try.func35, Try.ntmps35
      go_wp2_with (first | ((with_reducible refine gate_callee (f := 53) rfl ?_); refine goesL_ (some 15) rfl rfl Try.func53 (by kernel_rfl) rfl #[.string a0, .int .i64 a1, .int .i64 a2] rfl (by (try simp only [List.map_toArray, List.map_cons, List.map_nil]); first | done | rfl | (simp only [List.length_drop, List.length_take]; rfl)) ?_; (with_reducible refine (wire_count.calls k a0 a1 a2 t247 t248 t249 _ A4.out).mono ?_); rintro e w' ⟨rfl, ⟨nd, rfl⟩⟩; refine ⟨_, rfl, ?_⟩))
      go_ret3
      exact ⟨by first | rfl | (simp; done) | (simp [*]; done), by repeat (first | exact Drawn0.refl _ | apply Drawn0.step)⟩
    · rw [if_neg c6] at H
      have c6b0 : decide ((wrap64 ((a0.size : Int) - t248)) < t247) = false := decide_eq_false c6
      clear c6
      by_cases c7 : 0 ≤ t248
      · rw [if_pos c7] at H
        have c7b0 := eq_true c7
        have c7b1 : decide (0 ≤ t248) = true := decide_eq_true c7
        clear c7
        by_cases c8 : t248 ≤ (wrap64 (t248 + t247))
        · rw [if_pos c8] at H
          have c8b0 := eq_true c8
          have c8b1 : decide (t248 ≤ (wrap64 (t248 + t247))) = true := decide_eq_true c8
          by_cases c9 : (wrap64 (t248 + t247)) ≤ (a0.size : Int)
          · rw [if_pos c9] at H
            have c9b0 := eq_true c9
            have c9b1 : decide ((wrap64 (t248 + t247)) ≤ (a0.size : Int)) = true := decide_eq_true c9
            simp only [Option.some.injEq, Prod.mk.injEq] at H
            obtain ⟨rfl, rfl, rfl⟩ := H
            go_enter Try.func35, Try.ntmps35
            go_wp2_with (first | ((with_reducible refine gate_callee (f := 53) rfl ?_); refine goesL_ (some 15) rfl rfl Try.func53 (by kernel_rfl) rfl #[.string a0, .int .i64 a1, .int .i64 a2] rfl (by (try simp only [List.map_toArray, List.map_cons, List.map_nil]); first | done | rfl | (simp only [List.length_drop, List.length_take]; rfl)) ?_; (with_reducible refine (wire_count.calls k a0 a1 a2 t247 t248 t249 _ A4.out).mono ?_); rintro e w' ⟨rfl, ⟨nd, rfl⟩⟩; refine ⟨_, rfl, ?_⟩))
            go_ret3
            exact ⟨by first | rfl | (simp; done) | (simp [*]; done), by repeat (first | exact Drawn0.refl _ | apply Drawn0.step)⟩
          · rw [if_neg c9] at H
            exact absurd H (by simp)
        · rw [if_neg c8] at H
          exact absurd H (by simp)
      · rw [if_neg c7] at H
        exact absurd H (by simp)
  · rw [if_neg c5] at H
    have c5b0 : (t249 == 0) = false := beq_eq_false_iff_ne.mpr c5
    have c5b1 : (t249 != 0) = true := bne_iff_ne.mpr c5
    simp only [Option.some.injEq, Prod.mk.injEq] at H
    obtain ⟨rfl, rfl, rfl⟩ := H
    go_enter Try.func35, Try.ntmps35
    go_wp2_with (first | ((with_reducible refine gate_callee (f := 53) rfl ?_); refine goesL_ (some 15) rfl rfl Try.func53 (by kernel_rfl) rfl #[.string a0, .int .i64 a1, .int .i64 a2] rfl (by (try simp only [List.map_toArray, List.map_cons, List.map_nil]); first | done | rfl | (simp only [List.length_drop, List.length_take]; rfl)) ?_; (with_reducible refine (wire_count.calls k a0 a1 a2 t247 t248 t249 _ A4.out).mono ?_); rintro e w' ⟨rfl, ⟨nd, rfl⟩⟩; refine ⟨_, rfl, ?_⟩))
    go_ret3
    exact ⟨by first | rfl | (simp; done) | (simp [*]; done), by repeat (first | exact Drawn0.refl _ | apply Drawn0.step)⟩

end Go.Proofs.Ytpebhbhdkmpjeaa.Q

namespace Go.Proofs.Ytpebhbhdkmpjeaa.Q
open Go.RowKit Go.Proofs.YtpebhbhdkmpjeaaW.PrintWords Go.Proofs.YtpebhbhdkmpjeaaW.PrintLast Go.Proofs.YtpebhbhdkmpjeaaW.PrintMore Go.Proofs.Ytpebhbhdkmpjeaa.Gput Go.Proofs.Ytpebhbhdkmpjeaa.Gputl
attribute [local go_sem] max2_int min2_int max_two min_two max_three min_three max_four min_four   -- for this text's walks alone
set_option linter.unusedVariables false
set_option linter.unusedSimpArgs false

/-! ### wire_PutText: function 31 -/
def wire_PutText.f (a0 : ByteArray) (a1 : ByteArray) : Option (ByteArray) := (wire_PutInt.f a0 (a1.size : Int)).bind fun t239 => (if t239.size + a1.size ≤ 9223372036854775807 then (some (t239 ++ a1)) else (none))
set_option maxHeartbeats 8000000 in
set_option maxRecDepth 100000 in
theorem wire_PutText.calls (a0 : ByteArray) (a1 : ByteArray) (r : ByteArray) (w : World) (h : wire_PutText.f a0 a1 = some r) :
    Calls Try.prog 31 #[.string a0, .string a1] w fun e w' => e = .returned (.string r) ∧ Below w.heap.size w w' := by
  have HB := Aside0.mk (Below.refl w.heap.size w)
  have H : ((wire_PutInt.f a0 (a1.size : Int)).bind fun t239 => (if t239.size + a1.size ≤ 9223372036854775807 then (some (t239 ++ a1)) else (none))) = some r := h
  clear h
  replace H := Option.bind_eq_some_iff.mp H
  obtain ⟨t239, A30, H⟩ := H
  replace H : (if t239.size + a1.size ≤ 9223372036854775807 then (some (t239 ++ a1)) else (none)) = some r := H
  have A3 := Aside0.mk A30
  clear A30
  by_cases c4 : t239.size + a1.size ≤ 9223372036854775807
  · rw [if_pos c4] at H
    have c4b0 := eq_true c4
    have c4b1 : decide (t239.size + a1.size ≤ 9223372036854775807) = true := decide_eq_true c4
    try have c4b2 : (9223372036854775807 < t239.size + a1.size) = False := eq_false (Nat.not_lt.2 c4)
    obtain rfl := Option.some.inj H
    go_enter Try.func31, Try.ntmps31
    go_wp2_with (first | ((with_reducible refine gate_callee (f := 14) rfl ?_); refine goesL_ (some 8) rfl rfl Try.func14 (by kernel_rfl) rfl #[.string a0, .int .i64 (a1.size : Int)] rfl (by (try simp only [List.map_toArray, List.map_cons, List.map_nil]); first | done | rfl | (simp only [List.length_drop, List.length_take]; rfl)) ?_; (with_reducible refine (wire_PutInt.calls a0 (a1.size : Int) t239 _ A3.out).mono ?_); rintro e w5 ⟨rfl, hb⟩; refine ⟨_, rfl, ?_⟩; have n0_ := Aside0.mk (below_step (by repeat (first | (with_reducible first | exact HB.out | apply below_alloc | apply pw_below_drewN | apply below_drew1) | exact HB.out)) hb); clear HB; have HB := n0_; clear n0_; (try clear hb); (try clear hb2); (try clear hk); (try clear hi)))
    go_ret
    exact ⟨by first | rfl | (simp [errW_none, errW_some] <;> rfl) | (simp [*, errW_none, errW_some] <;> rfl), by repeat (first | (with_reducible first | exact HB.out | apply below_alloc | apply pw_below_drewN | apply below_drew1) | exact HB.out)⟩
  · rw [if_neg c4] at H
    exact absurd H (by simp)

end Go.Proofs.Ytpebhbhdkmpjeaa.Q

namespace Go.Proofs.Ytpebhbhdkmpjeaa.Q
open Go.RowKit Go.Proofs.YtpebhbhdkmpjeaaW.PrintWords Go.Proofs.YtpebhbhdkmpjeaaW.PrintLast Go.Proofs.YtpebhbhdkmpjeaaW.PrintMore Go.Proofs.Ytpebhbhdkmpjeaa.Gput Go.Proofs.Ytpebhbhdkmpjeaa.Gputl
attribute [local go_sem] max2_int min2_int max_two min_two max_three min_three max_four min_four   -- for this text's walks alone
set_option linter.unusedVariables false
set_option linter.unusedSimpArgs false

/-! ### storagebarterref01_Text: function 36 -/
def storagebarterref01_Text.f (k : Nat) (a0 : ByteArray) (a1 : Int) (a2 : Int) : Option (ByteArray × Int × Int) := (storagebarterref01_Int.f k a0 a1).bind fun bt250 => (if bt250.2.2 = 0 then (if bt250.1 < 0 then (some ((⟨#[]⟩ : ByteArray), 0, 2)) else (if bt250.1 > a2 then (some ((⟨#[]⟩ : ByteArray), 0, 4)) else (if bt250.1 > (wrap64 ((a0.size : Int) - bt250.2.1)) then (some ((⟨#[]⟩ : ByteArray), 0, 3)) else (if 0 ≤ bt250.2.1 then (if bt250.2.1 ≤ (wrap64 (bt250.2.1 + bt250.1)) then (if (wrap64 (bt250.2.1 + bt250.1)) ≤ (a0.size : Int) then (some (a0.extract (bt250.2.1 : Int).toNat ((wrap64 (bt250.2.1 + bt250.1)) : Int).toNat, wrap64 (bt250.2.1 + bt250.1), 0)) else (none)) else (none)) else (none))))) else (some ((⟨#[]⟩ : ByteArray), 0, bt250.2.2)))
theorem storagebarterref01_Text.mono : ∀ a0 a1 a2 k, LeO (storagebarterref01_Text.f k a0 a1 a2) (storagebarterref01_Text.f (k + 1) a0 a1 a2) := by
  intro a0 a1 a2 k
  unfold storagebarterref01_Text.f
  repeat' first
      | (with_reducible exact storagebarterref01_Int.mono _ _ _)
      | (with_reducible exact LeO.refl _)
      | (with_reducible exact LeO.none _)
      | (with_reducible refine LeO.ite ?_ ?_)
      | (with_reducible refine LeO.bind ?_ (fun _ => ?_))
      | exact storagebarterref01_Int.mono _ _ _
      | exact LeO.none _
      | refine LeO.ite ?_ ?_
      | refine LeO.bind ?_ (fun _ => ?_)
set_option maxHeartbeats 8000000 in
set_option maxRecDepth 100000 in
theorem storagebarterref01_Text.calls (k : Nat) (a0 : ByteArray) (a1 : Int) (a2 : Int) (r1 : ByteArray) (r2 : Int) (r3 : Int) (w : World) (h : storagebarterref01_Text.f k a0 a1 a2 = some (r1, r2, r3)) :
    Calls Try.prog 36 #[.string a0, .int .i64 a1, .int .i64 a2] w fun e w' => e = .returned (.tuple #[.string r1, .int .i64 r2, .int .i64 r3]) ∧ Drawn0 w w' := by
  have H : ((storagebarterref01_Int.f k a0 a1).bind fun bt250 => (if bt250.2.2 = 0 then (if bt250.1 < 0 then (some ((⟨#[]⟩ : ByteArray), 0, 2)) else (if bt250.1 > a2 then (some ((⟨#[]⟩ : ByteArray), 0, 4)) else (if bt250.1 > (wrap64 ((a0.size : Int) - bt250.2.1)) then (some ((⟨#[]⟩ : ByteArray), 0, 3)) else (if 0 ≤ bt250.2.1 then (if bt250.2.1 ≤ (wrap64 (bt250.2.1 + bt250.1)) then (if (wrap64 (bt250.2.1 + bt250.1)) ≤ (a0.size : Int) then (some (a0.extract (bt250.2.1 : Int).toNat ((wrap64 (bt250.2.1 + bt250.1)) : Int).toNat, wrap64 (bt250.2.1 + bt250.1), 0)) else (none)) else (none)) else (none))))) else (some ((⟨#[]⟩ : ByteArray), 0, bt250.2.2)))) = some (r1, r2, r3) := h
  clear h
  replace H := Option.bind_eq_some_iff.mp H
  obtain ⟨⟨t250, t251, t252⟩, A40, H⟩ := H
  replace H : (if t252 = 0 then (if t250 < 0 then (some ((⟨#[]⟩ : ByteArray), 0, 2)) else (if t250 > a2 then (some ((⟨#[]⟩ : ByteArray), 0, 4)) else (if t250 > (wrap64 ((a0.size : Int) - t251)) then (some ((⟨#[]⟩ : ByteArray), 0, 3)) else (if 0 ≤ t251 then (if t251 ≤ (wrap64 (t251 + t250)) then (if (wrap64 (t251 + t250)) ≤ (a0.size : Int) then (some (a0.extract (t251 : Int).toNat ((wrap64 (t251 + t250)) : Int).toNat, wrap64 (t251 + t250), 0)) else (none)) else (none)) else (none))))) else (some ((⟨#[]⟩ : ByteArray), 0, t252))) = some (r1, r2, r3) := H
  have A4 := Aside0.mk A40
  clear A40
  by_cases c5 : t252 = 0
  · rw [if_pos c5] at H
    have c5b0 : (t252 == 0) = true := beq_iff_eq.mpr c5
    have c5b1 : (t252 != 0) = false := bne_eq_false_iff_eq.mpr c5
    clear c5
    by_cases c6 : t250 < 0
    · rw [if_pos c6] at H
      have c6b0 : decide (t250 < 0) = true := decide_eq_true c6
      clear c6
      simp only [Option.some.injEq, Prod.mk.injEq] at H
      obtain ⟨rfl, rfl, rfl⟩ := H
      go_enter Try.func36, Try.ntmps36
      go_wp2_with (first | ((with_reducible refine gate_callee (f := 17) rfl ?_); refine goesL_ (some 15) rfl rfl Try.func17 (by kernel_rfl) rfl #[.string a0, .int .i64 a1] rfl (by (try simp only [List.map_toArray, List.map_cons, List.map_nil]); first | done | rfl | (simp only [List.length_drop, List.length_take]; rfl)) ?_; (with_reducible refine (storagebarterref01_Int.calls k a0 a1 t250 t251 t252 _ A4.out).mono ?_); rintro e w' ⟨rfl, ⟨nd, rfl⟩⟩; refine ⟨_, rfl, ?_⟩))
      go_ret3
      exact ⟨by first | rfl | (simp; done) | (simp [*]; done), by repeat (first | exact Drawn0.refl _ | apply Drawn0.step)⟩
    · rw [if_neg c6] at H
      have c6b0 : decide (t250 < 0) = false := decide_eq_false c6
      clear c6
      by_cases c7 : t250 > a2
      · rw [if_pos c7] at H
        have c7b0 : decide (a2 < t250) = true := decide_eq_true c7
        clear c7
        simp only [Option.some.injEq, Prod.mk.injEq] at H
        obtain ⟨rfl, rfl, rfl⟩ := H
        go_enter Try.func36, Try.ntmps36
        go_wp2_with (first | ((with_reducible refine gate_callee (f := 17) rfl ?_); refine goesL_ (some 15) rfl rfl Try.func17 (by kernel_rfl) rfl #[.string a0, .int .i64 a1] rfl (by (try simp only [List.map_toArray, List.map_cons, List.map_nil]); first | done | rfl | (simp only [List.length_drop, List.length_take]; rfl)) ?_; (with_reducible refine (storagebarterref01_Int.calls k a0 a1 t250 t251 t252 _ A4.out).mono ?_); rintro e w' ⟨rfl, ⟨nd, rfl⟩⟩; refine ⟨_, rfl, ?_⟩))
        go_ret3
        exact ⟨by first | rfl | (simp; done) | (simp [*]; done), by repeat (first | exact Drawn0.refl _ | apply Drawn0.step)⟩
      · rw [if_neg c7] at H
        have c7b0 : decide (a2 < t250) = false := decide_eq_false c7
        clear c7
        by_cases c8 : t250 > (wrap64 ((a0.size : Int) - t251))
        · rw [if_pos c8] at H
          have c8b0 : decide ((wrap64 ((a0.size : Int) - t251)) < t250) = true := decide_eq_true c8
          clear c8
          simp only [Option.some.injEq, Prod.mk.injEq] at H
          obtain ⟨rfl, rfl, rfl⟩ := H
          go_enter Try.func36, Try.ntmps36
          go_wp2_with (first | ((with_reducible refine gate_callee (f := 17) rfl ?_); refine goesL_ (some 15) rfl rfl Try.func17 (by kernel_rfl) rfl #[.string a0, .int .i64 a1] rfl (by (try simp only [List.map_toArray, List.map_cons, List.map_nil]); first | done | rfl | (simp only [List.length_drop, List.length_take]; rfl)) ?_; (with_reducible refine (storagebarterref01_Int.calls k a0 a1 t250 t251 t252 _ A4.out).mono ?_); rintro e w' ⟨rfl, ⟨nd, rfl⟩⟩; refine ⟨_, rfl, ?_⟩))
          go_ret3
          exact ⟨by first | rfl | (simp; done) | (simp [*]; done), by repeat (first | exact Drawn0.refl _ | apply Drawn0.step)⟩
        · rw [if_neg c8] at H
          have c8b0 : decide ((wrap64 ((a0.size : Int) - t251)) < t250) = false := decide_eq_false c8
          clear c8
          by_cases c9 : 0 ≤ t251
          · rw [if_pos c9] at H
            have c9b0 := eq_true c9
            have c9b1 : decide (0 ≤ t251) = true := decide_eq_true c9
            clear c9
            by_cases c10 : t251 ≤ (wrap64 (t251 + t250))
            · rw [if_pos c10] at H
              have c10b0 := eq_true c10
              have c10b1 : decide (t251 ≤ (wrap64 (t251 + t250))) = true := decide_eq_true c10
              by_cases c11 : (wrap64 (t251 + t250)) ≤ (a0.size : Int)
              · rw [if_pos c11] at H
                have c11b0 := eq_true c11
                have c11b1 : decide ((wrap64 (t251 + t250)) ≤ (a0.size : Int)) = true := decide_eq_true c11
                simp only [Option.some.injEq, Prod.mk.injEq] at H
                obtain ⟨rfl, rfl, rfl⟩ := H
                go_enter Try.func36, Try.ntmps36
                go_wp2_with (first | ((with_reducible refine gate_callee (f := 17) rfl ?_); refine goesL_ (some 15) rfl rfl Try.func17 (by kernel_rfl) rfl #[.string a0, .int .i64 a1] rfl (by (try simp only [List.map_toArray, List.map_cons, List.map_nil]); first | done | rfl | (simp only [List.length_drop, List.length_take]; rfl)) ?_; (with_reducible refine (storagebarterref01_Int.calls k a0 a1 t250 t251 t252 _ A4.out).mono ?_); rintro e w' ⟨rfl, ⟨nd, rfl⟩⟩; refine ⟨_, rfl, ?_⟩))
                go_ret3
                exact ⟨by first | rfl | (simp; done) | (simp [*]; done), by repeat (first | exact Drawn0.refl _ | apply Drawn0.step)⟩
              · rw [if_neg c11] at H
                exact absurd H (by simp)
            · rw [if_neg c10] at H
              exact absurd H (by simp)
          · rw [if_neg c9] at H
            exact absurd H (by simp)
  · rw [if_neg c5] at H
    have c5b0 : (t252 == 0) = false := beq_eq_false_iff_ne.mpr c5
    have c5b1 : (t252 != 0) = true := bne_iff_ne.mpr c5
    simp only [Option.some.injEq, Prod.mk.injEq] at H
    obtain ⟨rfl, rfl, rfl⟩ := H
    go_enter Try.func36, Try.ntmps36
    go_wp2_with (first | ((with_reducible refine gate_callee (f := 17) rfl ?_); refine goesL_ (some 15) rfl rfl Try.func17 (by kernel_rfl) rfl #[.string a0, .int .i64 a1] rfl (by (try simp only [List.map_toArray, List.map_cons, List.map_nil]); first | done | rfl | (simp only [List.length_drop, List.length_take]; rfl)) ?_; (with_reducible refine (storagebarterref01_Int.calls k a0 a1 t250 t251 t252 _ A4.out).mono ?_); rintro e w' ⟨rfl, ⟨nd, rfl⟩⟩; refine ⟨_, rfl, ?_⟩))
    go_ret3
    exact ⟨by first | rfl | (simp; done) | (simp [*]; done), by repeat (first | exact Drawn0.refl _ | apply Drawn0.step)⟩

end Go.Proofs.Ytpebhbhdkmpjeaa.Q

namespace Go.Proofs.Ytpebhbhdkmpjeaa.Q
open Go.RowKit Go.Proofs.YtpebhbhdkmpjeaaW.PrintWords Go.Proofs.YtpebhbhdkmpjeaaW.PrintLast Go.Proofs.YtpebhbhdkmpjeaaW.PrintMore Go.Proofs.Ytpebhbhdkmpjeaa.Gput Go.Proofs.Ytpebhbhdkmpjeaa.Gputl
attribute [local go_sem] max2_int min2_int max_two min_two max_three min_three max_four min_four   -- for this text's walks alone
set_option linter.unusedVariables false
set_option linter.unusedSimpArgs false

/-! ### storagebarterref01_PutText: function 32 -/
def storagebarterref01_PutText.f (k : Nat) (a0 : ByteArray) (a1 : ByteArray) : Option (ByteArray) := (storagebarterref01_PutInt.f k a0 (a1.size : Int)).bind fun t240 => (if t240.size + a1.size ≤ 9223372036854775807 then (some (t240 ++ a1)) else (none))
theorem storagebarterref01_PutText.mono : ∀ a0 a1 k, LeO (storagebarterref01_PutText.f k a0 a1) (storagebarterref01_PutText.f (k + 1) a0 a1) := by
  intro a0 a1 k
  unfold storagebarterref01_PutText.f
  repeat' first
      | (with_reducible exact storagebarterref01_PutInt.mono _ _ _)
      | (with_reducible exact LeO.refl _)
      | (with_reducible exact LeO.none _)
      | (with_reducible refine LeO.ite ?_ ?_)
      | (with_reducible refine LeO.bind ?_ (fun _ => ?_))
      | exact storagebarterref01_PutInt.mono _ _ _
      | exact LeO.none _
      | refine LeO.ite ?_ ?_
      | refine LeO.bind ?_ (fun _ => ?_)
set_option maxHeartbeats 8000000 in
set_option maxRecDepth 100000 in
theorem storagebarterref01_PutText.calls (k : Nat) (a0 : ByteArray) (a1 : ByteArray) (r : ByteArray) (w : World) (h : storagebarterref01_PutText.f k a0 a1 = some r) :
    Calls Try.prog 32 #[.string a0, .string a1] w fun e w' => e = .returned (.string r) ∧ Below w.heap.size w w' := by
  have HB := Aside0.mk (Below.refl w.heap.size w)
  have H : ((storagebarterref01_PutInt.f k a0 (a1.size : Int)).bind fun t240 => (if t240.size + a1.size ≤ 9223372036854775807 then (some (t240 ++ a1)) else (none))) = some r := h
  clear h
  replace H := Option.bind_eq_some_iff.mp H
  obtain ⟨t240, A30, H⟩ := H
  replace H : (if t240.size + a1.size ≤ 9223372036854775807 then (some (t240 ++ a1)) else (none)) = some r := H
  have A3 := Aside0.mk A30
  clear A30
  by_cases c4 : t240.size + a1.size ≤ 9223372036854775807
  · rw [if_pos c4] at H
    have c4b0 := eq_true c4
    have c4b1 : decide (t240.size + a1.size ≤ 9223372036854775807) = true := decide_eq_true c4
    try have c4b2 : (9223372036854775807 < t240.size + a1.size) = False := eq_false (Nat.not_lt.2 c4)
    obtain rfl := Option.some.inj H
    go_enter Try.func32, Try.ntmps32
    go_wp2_with (first | ((with_reducible refine gate_callee (f := 15) rfl ?_); refine goesL_ (some 8) rfl rfl Try.func15 (by kernel_rfl) rfl #[.string a0, .int .i64 (a1.size : Int)] rfl (by (try simp only [List.map_toArray, List.map_cons, List.map_nil]); first | done | rfl | (simp only [List.length_drop, List.length_take]; rfl)) ?_; (with_reducible refine (storagebarterref01_PutInt.calls k a0 (a1.size : Int) t240 _ A3.out).mono ?_); rintro e w5 ⟨rfl, hb⟩; refine ⟨_, rfl, ?_⟩; have n0_ := Aside0.mk (below_step (by repeat (first | (with_reducible first | exact HB.out | apply below_alloc | apply pw_below_drewN | apply below_drew1) | exact HB.out)) hb); clear HB; have HB := n0_; clear n0_; (try clear hb); (try clear hb2); (try clear hk); (try clear hi)))
    go_ret
    exact ⟨by first | rfl | (simp [errW_none, errW_some] <;> rfl) | (simp [*, errW_none, errW_some] <;> rfl), by repeat (first | (with_reducible first | exact HB.out | apply below_alloc | apply pw_below_drewN | apply below_drew1) | exact HB.out)⟩
  · rw [if_neg c4] at H
    exact absurd H (by simp)

end Go.Proofs.Ytpebhbhdkmpjeaa.Q

namespace Go.Proofs.Ytpebhbhdkmpjeaa.Q
open Go.RowKit Go.Proofs.YtpebhbhdkmpjeaaW.PrintWords Go.Proofs.YtpebhbhdkmpjeaaW.PrintLast Go.Proofs.YtpebhbhdkmpjeaaW.PrintMore Go.Proofs.Ytpebhbhdkmpjeaa.Gput Go.Proofs.Ytpebhbhdkmpjeaa.Gputl
attribute [local go_sem] max2_int min2_int max_two min_two max_three min_three max_four min_four   -- for this text's walks alone
set_option linter.unusedVariables false
set_option linter.unusedSimpArgs false

/-! ### storagebarterref01_PutList: function 34 -/
def storagebarterref01_PutList.l0 : Nat → ByteArray → List Int → Int → Int → Option (ByteArray)
  | 0, _, _, _, _ => none
  | k + 1, x0, x11, x12, x13 => if x13 < x12 then (if 0 ≤ x13 then (if x13 < (x11.length : Int) then ((storagebarterref01_PutInt.f k x0 (rd x11 x13)).bind fun t243 => (storagebarterref01_PutList.l0 k t243 x11 x12 (wrap64 (x13 + 1)))) else (none)) else (none)) else (some x0)
def storagebarterref01_PutList.f (k : Nat) (a0 : ByteArray) (l1 : List Int) : Option (ByteArray) := (storagebarterref01_PutInt.f k a0 (l1.length : Int)).bind fun t241 => (storagebarterref01_PutList.l0 k t241 l1 (l1.length : Int) 0)
theorem storagebarterref01_PutList.mono_l : ∀ k, (∀ y0 y1 y2 y3, LeO (storagebarterref01_PutList.l0 k y0 y1 y2 y3) (storagebarterref01_PutList.l0 (k + 1) y0 y1 y2 y3))
  | 0 => fun _ _ _ _ r h => by simp [storagebarterref01_PutList.l0] at h
  | k + 1 => by
    have ih0 := storagebarterref01_PutList.mono_l k
    · intro y0 y1 y2 y3
      unfold storagebarterref01_PutList.l0
      repeat' first
      | (with_reducible exact ih0 _ _ _ _)
      | (with_reducible exact storagebarterref01_PutInt.mono _ _ _)
      | (with_reducible exact LeO.refl _)
      | (with_reducible exact LeO.none _)
      | (with_reducible refine LeO.ite ?_ ?_)
      | (with_reducible refine LeO.bind ?_ (fun _ => ?_))
      | exact ih0 _ _ _ _
      | exact storagebarterref01_PutInt.mono _ _ _
      | exact LeO.none _
      | refine LeO.ite ?_ ?_
      | refine LeO.bind ?_ (fun _ => ?_)
theorem storagebarterref01_PutList.mono : ∀ a0 a1 k, LeO (storagebarterref01_PutList.f k a0 a1) (storagebarterref01_PutList.f (k + 1) a0 a1) := by
  intro a0 a1 k
  have ih0 := storagebarterref01_PutList.mono_l k
  unfold storagebarterref01_PutList.f
  repeat' first
      | (with_reducible exact ih0 _ _ _ _)
      | (with_reducible exact storagebarterref01_PutInt.mono _ _ _)
      | (with_reducible exact LeO.refl _)
      | (with_reducible exact LeO.none _)
      | (with_reducible refine LeO.ite ?_ ?_)
      | (with_reducible refine LeO.bind ?_ (fun _ => ?_))
      | exact ih0 _ _ _ _
      | exact storagebarterref01_PutInt.mono _ _ _
      | exact LeO.none _
      | refine LeO.ite ?_ ?_
      | refine LeO.bind ?_ (fun _ => ?_)
set_option maxHeartbeats 8000000 in
set_option maxRecDepth 100000 in
theorem storagebarterref01_PutList.calls (k : Nat) (a0 : ByteArray) (A1 : Option Addr) (c1 : Nat) (l1 : List Int) (r : ByteArray) (w : World) (hr1 : Kd.C (Kd.int .i64) w A1 l1.length l1) (hc1 : l1.length ≤ c1) (h : storagebarterref01_PutList.f k a0 l1 = some r) :
    Calls Try.prog 34 #[.string a0, .slice A1 l1.length c1] w fun e w' => e = .returned (.string r) ∧ Below w.heap.size w w' := by
  have HR1 := Aside0.mk hr1
  have HC1 := Aside0.mk hc1
  clear hr1 hc1
  have HB := Aside0.mk (Below.refl w.heap.size w)
  have H : ((storagebarterref01_PutInt.f k a0 (l1.length : Int)).bind fun t241 => (storagebarterref01_PutList.l0 k t241 l1 (l1.length : Int) 0)) = some r := h
  clear h
  replace H := Option.bind_eq_some_iff.mp H
  obtain ⟨t241, A30, H⟩ := H
  replace H : (storagebarterref01_PutList.l0 k t241 l1 (l1.length : Int) 0) = some r := H
  have A3 := Aside0.mk A30
  clear A30
  have H' := Aside0.mk H
  clear H
  go_enter Try.func34, Try.ntmps34
  go_wp2_with (first | ((with_reducible refine gate_callee (f := 15) rfl ?_); refine goesL_ (some 10) rfl rfl Try.func15 (by kernel_rfl) rfl #[.string a0, .int .i64 (l1.length : Int)] rfl (by (try simp only [List.map_toArray, List.map_cons, List.map_nil]); first | done | rfl | (simp only [List.length_drop, List.length_take]; rfl)) ?_; (with_reducible refine (storagebarterref01_PutInt.calls k a0 (l1.length : Int) t241 _ A3.out).mono ?_); rintro e w4 ⟨rfl, hb⟩; refine ⟨_, rfl, ?_⟩; have n0_ := Aside0.mk (below_step (by repeat (first | (with_reducible first | exact HB.out | apply below_alloc | apply pw_below_drewN | apply below_drew1) | exact HB.out)) hb); clear HB; have HB := n0_; clear n0_; (try clear hb); (try clear hb2); (try clear hk); (try clear hi)))
  go_loopg [0, 13] k (fun kq v0 v13 w' => ∃ (x0_1 : ByteArray) (x13_1 : Int), v0 = .string x0_1 ∧ v13 = .int .i64 x13_1 ∧ Aside0 (storagebarterref01_PutList.l0 kq x0_1 l1 (l1.length : Int) x13_1 = some r) ∧ Aside0 (kq ≤ k) ∧ Aside0 (Below w.heap.size w w'))
  case atStart => exact ⟨(t241), (0), (by first | rfl | (simp; done) | (simp [*]; done)), (by first | rfl | (simp; done) | (simp [*]; done)), H', ⟨Nat.le_refl _⟩, ⟨by repeat (first | (with_reducible first | exact HB.out | apply below_alloc | apply pw_below_drewN | apply below_drew1) | exact HB.out)⟩⟩
  case round =>
    clear H'
    try clear c1
    try clear p2
    try clear c3
    obtain ⟨x0_1, x13_1, rfl, rfl, HA, HK1, HB⟩ := hrel
    cases gk with
    | zero => exact absurd HA.out (by simp [storagebarterref01_PutList.l0])
    | succ k1 =>
      have H := HA.out
      clear HA
      simp only [storagebarterref01_PutList.l0] at H
      by_cases c5 : x13_1 < (l1.length : Int)
      · rw [if_pos c5] at H
        have c5b0 : decide (x13_1 < (l1.length : Int)) = true := decide_eq_true c5
        clear c5
        by_cases c6 : 0 ≤ x13_1
        · rw [if_pos c6] at H
          have c6b0 : decide (0 ≤ x13_1) = true := decide_eq_true c6
          clear c6
          by_cases c7 : x13_1 < (l1.length : Int)
          · rw [if_pos c7] at H
            have c7b0 : decide (x13_1 < (l1.length : Int)) = true := decide_eq_true c7
            clear c7
            replace H := Option.bind_eq_some_iff.mp H
            obtain ⟨t243, A80, H⟩ := H
            replace H : (storagebarterref01_PutList.l0 k1 t243 l1 (l1.length : Int) (wrap64 (x13_1 + 1))) = some r := H
            have A8 := Aside0.mk A80
            clear A80
            have H' := Aside0.mk H
            clear H
            have p242 : 0 ≤ (x13_1 : Int) := of_decide_eq_true (by first | (with_reducible assumption) | assumption)
            have q242 : x13_1 < (l1.length : Int) := of_decide_eq_true (by first | (with_reducible assumption) | assumption)
            obtain ⟨ad242, e242, hx242_0⟩ := Kd.at_int HR1.out x13_1 p242 q242
            cases e242
            replace hx242_0 := (HB.out.cell (World.block_lt_of_cell? w _ hx242_0)).trans hx242_0
            replace p242 := eq_true p242
            replace q242 := eq_true q242
            go_wp2_with (first | ((with_reducible refine gate_callee (f := 15) rfl ?_); refine goesL_ (some 19) rfl rfl Try.func15 (by kernel_rfl) rfl #[.string x0_1, .int .i64 (rd l1 x13_1)] rfl (by (try simp only [List.map_toArray, List.map_cons, List.map_nil]); first | done | rfl | (simp only [List.length_drop, List.length_take]; rfl)) ?_; (with_reducible refine (storagebarterref01_PutInt.calls k1 x0_1 (rd l1 x13_1) t243 _ A8.out).mono ?_); rintro e w9 ⟨rfl, hb⟩; refine ⟨_, rfl, ?_⟩; have n0_ := Aside0.mk (below_step (by repeat (first | (with_reducible first | exact HB.out | apply below_alloc | apply pw_below_drewN | apply below_drew1) | exact HB.out)) hb); clear HB; have HB := n0_; clear n0_; (try clear hb); (try clear hb2); (try clear hk); (try clear hi)))
            go_roundg k1
            case measure => have := HK1.out; omega
            case rel => exact ⟨(t243), (wrap64 (x13_1 + 1)), (by first | rfl | (simp; done) | (simp [*]; done)), (by first | rfl | (simp; done) | (simp [*]; done)), H', ⟨by have := HK1.out; omega⟩, ⟨by repeat (first | (with_reducible first | exact HB.out | apply below_alloc | apply pw_below_drewN | apply below_drew1) | exact HB.out)⟩⟩
          · rw [if_neg c7] at H
            exact absurd H (by simp)
        · rw [if_neg c6] at H
          exact absurd H (by simp)
      · rw [if_neg c5] at H
        have c5b0 : decide (x13_1 < (l1.length : Int)) = false := decide_eq_false c5
        clear c5
        obtain rfl := Option.some.inj H
        go_wp2
        go_ret
        exact ⟨by first | rfl | (simp [errW_none, errW_some] <;> rfl) | (simp [*, errW_none, errW_some] <;> rfl), by repeat (first | (with_reducible first | exact HB.out | apply below_alloc | apply pw_below_drewN | apply below_drew1) | exact HB.out)⟩

end Go.Proofs.Ytpebhbhdkmpjeaa.Q
