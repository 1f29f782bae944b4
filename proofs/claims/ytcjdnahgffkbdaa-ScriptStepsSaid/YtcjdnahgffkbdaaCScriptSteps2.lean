/- ScriptStepsSaid -/
import Derived.ProofKit
import Derived.Laws.Strings
namespace Go.Proofs.Ytcjdnahgffkbdaa.Gm
def grp (u : Nat) : List UInt8 := if h : 127 < u then UInt8.ofNat (u % 128 + 128) :: grp (u / 128) else [UInt8.ofNat u]
termination_by u
decreasing_by omega
theorem grp_more {u : Nat} (h : 127 < u) : grp u = UInt8.ofNat (u % 128 + 128) :: grp (u / 128) := by rw [grp, dif_pos h]
theorem grp_last {u : Nat} (h : ¬ 127 < u) : grp u = [UInt8.ofNat u] := by rw [grp, dif_neg h]
def zig (n : Int) : Nat := if 0 ≤ n then (2 * n).toNat else (-2 * n - 1).toNat
def unzig (u : Nat) : Int := if u % 2 = 0 then ((u / 2 : Nat) : Int) else -((u / 2 : Nat) : Int) - 1
theorem unzig_zig (n : Int) : unzig (zig n) = n := by
  unfold unzig zig
  split <;> split <;> omega
theorem zig_unzig (u : Nat) : zig (unzig u) = u := by
  unfold unzig zig
  split <;> split <;> omega
theorem unzig_range {u : Nat} (h : u < 18446744073709551616) : -9223372036854775808 ≤ unzig u ∧ unzig u ≤ 9223372036854775807 := by
  unfold unzig
  split <;> omega
theorem zig_range {n : Int} (h : -9223372036854775808 ≤ n ∧ n ≤ 9223372036854775807) : zig n < 18446744073709551616 := by
  unfold zig
  split <;> omega
def putI (n : Int) : List UInt8 := grp (zig n)
theorem grp_pos (u : Nat) : 0 < (grp u).length := by rw [grp]; split <;> simp
theorem grp_len (k u : Nat) (h : u < 128 ^ (k + 1)) : (grp u).length ≤ k + 1 := by
  induction k generalizing u with
  | zero => rw [grp_last (by omega)]; simp
  | succ k ih =>
    by_cases h127 : 127 < u
    · rw [grp_more h127]
      have := ih (u / 128) (by rw [Nat.pow_succ] at h; exact Nat.div_lt_of_lt_mul (by omega))
      simp; omega
    · rw [grp_last h127]; simp
theorem grp_len10 (u : Nat) (h : u < 18446744073709551616) : (grp u).length ≤ 10 := grp_len 9 u (by simp; omega)
def putL (l : List Int) : List UInt8 := putI l.length ++ l.flatMap putI
theorem putI_pos (n : Int) : 0 < (putI n).length := grp_pos _
theorem putI_len {n : Int} (h : -9223372036854775808 ≤ n ∧ n ≤ 9223372036854775807) : (putI n).length ≤ 10 := grp_len10 _ (zig_range h)
theorem u8_ofNat (n : Nat) (h : n < 256) : (UInt8.ofNat n).toNat = n := UInt8.toNat_ofNat_of_lt' (by simpa using h)
theorem u8_eq {a b : UInt8} (h : a.toNat = b.toNat) : a = b := UInt8.toNat_inj.1 h
def rdU : Nat → Nat → List UInt8 → Nat × Nat × Nat
  | _, _, [] => (0, 0, 3)
  | k, u, b :: l => if (k = 9 ∧ 1 < b.toNat) ∨ (0 < k ∧ b.toNat = 0) then (0, 0, 2)
    else if b.toNat < 128 then (u + b.toNat * 128 ^ k, k + 1, 0) else rdU (k + 1) (u + b.toNat % 128 * 128 ^ k) l
theorem pow_split {k : Nat} (h : k ≤ 9) : ∃ m, 18446744073709551616 = 128 ^ k * m ∧ 2 ≤ m ∧ (k < 9 → 256 ≤ m) := by
  refine ⟨2 * 128 ^ (9 - k), ?_, ?_, ?_⟩
  · rw [← Nat.mul_assoc, Nat.mul_comm (128 ^ k) 2, Nat.mul_assoc, ← Nat.pow_add, Nat.add_sub_cancel' h]
  · have : 0 < 128 ^ (9 - k) := Nat.pow_pos (by decide)
    omega
  · intro hk
    obtain ⟨j, hj⟩ : ∃ j, 9 - k = j + 1 := ⟨8 - k, by omega⟩
    rw [hj, Nat.pow_succ]
    have : 0 < 128 ^ j := Nat.pow_pos (by decide)
    omega
theorem small_k {k v : Nat} (hv : 1 ≤ v) (h : v * 128 ^ k < 18446744073709551616) : k ≤ 9 := by
  rcases Nat.lt_or_ge 9 k with h9 | h9
  · exfalso
    have h1 : 128 ^ 10 ≤ 128 ^ k := Nat.pow_le_pow_right (by decide) h9
    have h2 : 128 ^ k ≤ v * 128 ^ k := Nat.le_mul_of_pos_left _ hv
    have h3 : (128 : Nat) ^ 10 = 1180591620717411303424 := by decide
    omega
  · exact h9
theorem at9 {v : Nat} (h : v * 128 ^ 9 < 18446744073709551616) : v ≤ 1 := by
  have h3 : (128 : Nat) ^ 9 = 9223372036854775808 := by decide
  rw [h3] at h
  omega
theorem step_val (u v k : Nat) : u + v % 128 * 128 ^ k + v / 128 * 128 ^ (k + 1) = u + v * 128 ^ k := by
  have h := Nat.div_add_mod v 128
  rw [Nat.pow_succ, Nat.mul_comm (128 ^ k) 128, ← Nat.mul_assoc, Nat.add_assoc, ← Nat.add_mul]
  congr 2
  omega
theorem rdU_grp (l : List UInt8) : ∀ (v k u : Nat), (0 < k → 1 ≤ v) → v * 128 ^ k < 18446744073709551616 → rdU k u (grp v ++ l) = (u + v * 128 ^ k, k + (grp v).length, 0) := by
  intro v
  induction v using Nat.strongRecOn with
  | _ v ih =>
  intro k u hk hv
  have h9 : k ≤ 9 := by
    rcases Nat.eq_zero_or_pos k with h | h
    · omega
    · exact small_k (hk h) hv
  by_cases h127 : 127 < v
  · have hn : ¬ ((k = 9 ∧ 1 < v % 128 + 128) ∨ (0 < k ∧ v % 128 + 128 = 0)) := by
      rintro (⟨rfl, _⟩ | ⟨_, h0⟩)
      · have := at9 hv; omega
      · omega
    have hval := step_val u v k
    have hle : v / 128 * 128 ^ (k + 1) ≤ v * 128 ^ k := by omega
    rw [grp_more h127, List.cons_append, rdU, u8_ofNat _ (by omega), if_neg hn, if_neg (by omega), show (v % 128 + 128) % 128 = v % 128 by omega, ih (v / 128) (by omega) (k + 1) _ (by omega) (by omega), hval]
    simp only [List.length_cons]
    congr 2
    omega
  · have hn : ¬ ((k = 9 ∧ 1 < v) ∨ (0 < k ∧ v = 0)) := by
      rintro (⟨rfl, h1⟩ | ⟨h0, h1⟩)
      · have := at9 hv; omega
      · have := hk h0; omega
    rw [grp_last h127, List.singleton_append, rdU, u8_ofNat _ (by omega), if_neg hn, if_pos (by omega)]
    rfl
theorem rdU_inv : ∀ (l : List UInt8) (k u r n : Nat), k ≤ 9 → rdU k u l = (r, n, 0) → ∃ v, r = u + v * 128 ^ k ∧ n = k + (grp v).length ∧ l.take (grp v).length = grp v ∧ (grp v).length ≤ l.length ∧ (0 < k → 1 ≤ v) ∧ v * 128 ^ k < 18446744073709551616
  | [], k, u, r, n, _, h => by simp [rdU] at h
  | b :: l, k, u, r, n, h9, h => by
    have hb := b.toNat_lt
    rw [rdU] at h
    split at h
    · simp at h
    rename_i hn
    have hbz : k = 9 → b.toNat ≤ 1 := fun e => by
      rcases Nat.lt_or_ge 1 b.toNat with h1 | h1
      · exact (hn (.inl ⟨e, h1⟩)).elim
      · exact h1
    obtain ⟨m, hm, hm2, hm9⟩ := pow_split h9
    split at h
    · rename_i h128
      simp only [Prod.mk.injEq, and_true] at h
      obtain ⟨rfl, rfl⟩ := h
      refine ⟨b.toNat, rfl, ?_⟩
      rw [grp_last (by omega)]
      refine ⟨rfl, by simp, by simp, fun hk => ?_, ?_⟩
      · rcases Nat.eq_zero_or_pos b.toNat with h0 | h0
        · exact (hn (.inr ⟨hk, h0⟩)).elim
        · exact h0
      · rw [hm, Nat.mul_comm]
        refine Nat.mul_lt_mul_of_pos_left ?_ (Nat.pow_pos (by decide))
        rcases Nat.lt_or_ge k 9 with hk | hk
        · have := hm9 hk; omega
        · have := hbz (by omega); omega
    · rename_i h128
      have hk9 : k < 9 := by
        rcases Nat.lt_or_ge k 9 with hk | hk
        · exact hk
        · have := hbz (by omega); omega
      obtain ⟨v, hr, hnn, ht, hl, hv1, hv2⟩ := rdU_inv l (k + 1) _ r n (by omega) h
      have hv1 := hv1 (by omega)
      have e1 : (b.toNat % 128 + 128 * v) % 128 = b.toNat % 128 := by omega
      have e2 : (b.toNat % 128 + 128 * v) / 128 = v := by omega
      have e3 : UInt8.ofNat (b.toNat % 128 + 128) = b := u8_eq (by rw [u8_ofNat _ (by omega)]; omega)
      refine ⟨b.toNat % 128 + 128 * v, ?_⟩
      have hs := step_val u (b.toNat % 128 + 128 * v) k
      rw [e1, e2] at hs
      rw [grp_more (by omega), e1, e2, e3]
      refine ⟨hr.trans hs, by simp; omega, by simp [ht], by simpa using hl, fun _ => by omega, ?_⟩
      have hs0 := step_val 0 (b.toNat % 128 + 128 * v) k
      rw [e1, e2] at hs0
      obtain ⟨m', hm', hm2', -⟩ := pow_split (show k + 1 ≤ 9 by omega)
      have hvm : v < m' := by
        rw [hm', Nat.mul_comm] at hv2
        exact Nat.lt_of_mul_lt_mul_left hv2
      have h1 : v * 128 ^ (k + 1) + 128 ^ (k + 1) ≤ 18446744073709551616 := by
        rw [hm', ← Nat.succ_mul, Nat.mul_comm]
        exact Nat.mul_le_mul_left _ hvm
      have h2 : b.toNat % 128 * 128 ^ k < 128 ^ (k + 1) := by
        rw [Nat.pow_succ, Nat.mul_comm]
        exact Nat.mul_lt_mul_of_pos_left (by omega) (Nat.pow_pos (by decide))
      omega
def B (l : List UInt8) : ByteArray := ⟨l.toArray⟩
theorem B_data (l : List UInt8) : (B l).data.toList = l := rfl
theorem B_toList (l : List UInt8) : (B l).toList = l := by rw [ByteArray.toList_eq]; rfl
theorem B_size (l : List UInt8) : (B l).size = l.length := by simp [B, ByteArray.size]
theorem exB (s : ByteArray) : ∃ l, s = B l := ⟨_, rfl⟩
theorem B_append (l m : List UInt8) : B l ++ B m = B (l ++ m) := by
  apply ByteArray.ext
  simp [B]
theorem B_extract (l : List UInt8) (i j : Nat) : (B l).extract i j = B ((l.take j).drop i) := by
  apply ByteArray.ext
  rw [ByteArray.data_extract]
  simp [B, List.drop_take]
end Go.Proofs.Ytcjdnahgffkbdaa.Gm
