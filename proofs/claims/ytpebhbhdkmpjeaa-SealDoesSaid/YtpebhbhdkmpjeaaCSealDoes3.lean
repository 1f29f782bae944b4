/- All keys and locks, and what sealing and opening does, or the error, for any arguments; and the row, whose second argument is a struct. -/
import Derived.Test.YtpebhbhdkmpjeaaCSealDoes2
import Derived.Test.YtpebhbhdkmpjeaaRows
import Derived.WalkKit
import Derived.ProofKit
import Derived.OpenShut
import Derived.ShutString
import Derived.ChangeOld
import Derived.Below
import Derived.SizedLaws
import Derived.Lib.SmallJoins
import Derived.ChangeArms
/- All keys and locks, and what sealing and opening does, or the error, for any arguments; and the row, whose second argument is a struct. -/
namespace Go.Proofs.Ytpebhbhdkmpjeaa.PureSd
open Go Go.RowKit Go.Proofs.Ytpebhbhdkmpjeaa.Gm Go.Proofs.Ytpebhbhdkmpjeaa.Gwa Go.Proofs.Ytpebhbhdkmpjeaa.Gwb Go.Proofs.Ytpebhbhdkmpjeaa.Gsa Go.Proofs.Ytpebhbhdkmpjeaa.Q Go.Proofs.YtpebhbhdkmpjeaaW.PrintWords Go.Proofs.YtpebhbhdkmpjeaaW.PrintLast

theorem rkey_eq (k : Int) : storagebarterref03_key.f k = some (decide (isKey k)) := by
  unfold storagebarterref03_key.f
  by_cases h : k ≥ 0
  · rw [if_pos h, decide_eq_decide.2 (show k < 4294967294 ↔ isKey k from ⟨fun z => ⟨h, z⟩, fun z => z.2⟩)]
  · rw [if_neg h, decide_eq_false (show ¬ isKey k from fun z => h z.1)]

theorem rPrivate_eq (k : Int) : storagebarterref03_Private.f k = some (if 0 ≤ k ∧ k < 2147483647 then (2 * k + 1, 0) else (0, 1)) := by
  unfold storagebarterref03_Private.f
  by_cases h : k < 0
  · rw [if_pos h, if_neg (by omega)]
  · rw [if_neg h]
    by_cases h2 : k ≥ 2147483647
    · rw [if_pos h2, if_neg (by omega)]
    · rw [if_neg h2, if_pos (by omega), w64 (x := 2 * k) (by omega), w64 (by omega)]

theorem rLock_eq (k : Int) : storagebarterref03_Lock.f k = some (if isKey k then (3 * k + 1, 0) else (0, 1)) := by
  unfold storagebarterref03_Lock.f
  rw [rkey_eq, Option.bind_some]
  by_cases h : isKey k
  · have h' := h
    unfold isKey at h'
    rw [if_pos (by simpa using h), if_pos h, w64 (x := 3 * k) (by omega), w64 (by omega)]
  · rw [if_neg (by simpa using h), if_neg h]

theorem rSeal_eq (l : List UInt8) (k : Int) : storagebarterref03_Seal.f (B l) k = some (if isKey k then (if l.length > 16384 then (0, B [], 4) else (3 * k + 1, B l, 0)) else (0, B [], 1)) := by
  unfold storagebarterref03_Seal.f
  rw [rkey_eq, Option.bind_some]
  by_cases h : isKey k
  · have h' := h
    unfold isKey at h'
    rw [if_pos (by simpa using h), if_pos h, B_size]
    by_cases h2 : l.length > 16384
    · rw [if_pos (by omega), if_pos h2]; rfl
    · rw [if_neg (by omega), if_neg h2, w64 (x := 3 * k) (by omega), w64 (by omega)]
  · rw [if_neg (by simpa using h), if_neg h]; rfl

theorem rLocks_eq (n : Int) (hn : -9223372036854775808 ≤ n ∧ n ≤ 9223372036854775807) : storagebarterref03_Locks.f n = some (decide (isLock n)) := by
  unfold storagebarterref03_Locks.f
  by_cases h : n ≥ 1
  · have e1 : Int.tmod n 3 = n % 3 := Int.tmod_eq_emod_of_nonneg (by omega)
    have e2 : Int.tdiv n 3 = n / 3 := Int.tdiv_eq_ediv_of_nonneg (by omega)
    rw [if_pos h, e1, e2]
    by_cases h3 : n % 3 = 1
    · rw [if_pos h3, w64 (x := n / 3) (by omega), rkey_eq, Option.bind_some]
      have : (isLock n) ↔ isKey (n / 3) := ⟨fun z => z.2.2, fun z => ⟨by omega, h3, z⟩⟩
      rw [decide_eq_decide.2 this]
    · rw [if_neg h3, decide_eq_false (show ¬ isLock n from fun z => h3 z.2.1)]
  · rw [if_neg h, decide_eq_false (show ¬ isLock n from fun z => by have := z.1; omega)]

theorem rOpen_eq (n : Int) (l : List UInt8) (k : Int) (hn : -9223372036854775808 ≤ n ∧ n ≤ 9223372036854775807) : storagebarterref03_Open.f n (B l) k = some (if isSealed n l then (if isKey k then (if n = 3 * k + 1 then (B l, 0) else (B [], 9)) else (B [], 1)) else (B [], 2)) := by
  unfold storagebarterref03_Open.f storagebarterref03_Valid.f
  rw [rLocks_eq n hn, Option.bind_some]
  by_cases h : isLock n
  · rw [if_pos (by simpa using h), B_size, Option.bind_some]
    by_cases h1 : l.length ≤ 16384
    · rw [if_pos (decide_eq_true (show (l.length : Int) ≤ 16384 by omega)), if_pos (show isSealed n l from ⟨h, h1⟩), rkey_eq, Option.bind_some]
      by_cases h2 : isKey k
      · have h' := h2
        unfold isKey at h'
        rw [if_pos (by simpa using h2), if_pos h2, w64 (x := 3 * k) (by omega), w64 (by omega)]
        split <;> rfl
      · rw [if_neg (by simpa using h2), if_neg h2]; rfl
    · rw [if_neg (by rw [decide_eq_false (show ¬ (l.length : Int) ≤ 16384 by omega)]; decide), if_neg (show ¬ isSealed n l from fun z => h1 z.2)]; rfl
  · rw [if_neg (by simpa using h), Option.bind_some, if_neg (by simp), if_neg (show ¬ isSealed n l from fun z => h z.1)]; rfl

theorem rSum_l0 (s : ByteArray) (hs : s.size ≤ 9223372036854775000) : ∀ (n i k : Nat) (d : Int), s.size - i = n → i ≤ s.size → 0 ≤ d ∧ d < 2147483647 → n < k → storagebarterref02_Sum.l0 k s d i = some (dg d (s.data.toList.drop i)) := by
  intro n
  induction n with
  | zero =>
    intro i k d hn hi hd hk
    obtain ⟨k, rfl⟩ : ∃ m, k = m + 1 := ⟨k - 1, by omega⟩
    simp only [storagebarterref02_Sum.l0]
    rw [if_neg (by omega), List.drop_of_length_le (by rw [Array.length_toList]; show s.size ≤ i; omega)]
    rfl
  | succ n ih =>
    intro i k d hn hi hd hk
    obtain ⟨k, rfl⟩ : ∃ m, k = m + 1 := ⟨k - 1, by omega⟩
    have hlt : i < s.size := by omega
    simp only [storagebarterref02_Sum.l0]
    rw [if_pos (by omega), if_pos (by omega), sum_step s d i hd hlt, w64 (by omega), show ((i : Int) + 1) = ((i + 1 : Nat) : Int) by omega, ih (i + 1) k _ (by omega) (by omega) (by omega) (by omega), List.drop_eq_getElem_cons (show i < s.data.toList.length by simpa using hlt)]
    rfl

theorem rConvergent_eq (l : List UInt8) (k : Nat) (hl : l.length ≤ 9223372036854775000) (hk : l.length < k) : storagebarterref03_Convergent.f k (B l) = some (2 * dg 1 l) := by
  unfold storagebarterref03_Convergent.f storagebarterref02_Sum.f
  have := dg_range l 1 (by omega)
  have h := rSum_l0 (B l) (by rw [B_size]; exact hl) l.length 0 k 1 (by rw [B_size]; omega) (by omega) (by omega) hk
  rw [show ((0 : Nat) : Int) = 0 from rfl] at h
  rw [h, Option.bind_some]
  show some (wrap64 (2 * dg 1 l)) = _
  rw [w64 (by omega)]

section
variable (x2 : Int) (x : List UInt8) (r0 : Int) (r1 : List UInt8)

theorem sd_l1 (x10 : Int) (x43 : List Int) (x44 x45 : Int) (ys : List S34) (hy : ∀ y ∈ ys, -9223372036854775808 ≤ y.f0 ∧ y.f0 ≤ 9223372036854775807) (hl : ys.length ≤ 100) (K : Nat)
    (hc : ∀ k, K ≤ k → storagebarterlaw03_SealDoes.l0 k (B x) x2 x43 x44 (wrap64 (x45 + 1)) r0 (B r1) = some true) :
    ∀ (d i k : Nat), ys.length - i = d → i ≤ ys.length → K + 1 + d ≤ k → storagebarterlaw03_SealDoes.l1 k (B x) x2 x10 x43 x44 x45 ys (ys.length : Int) (i : Int) r0 (B r1) = some true := by
  intro d
  induction d with
  | zero =>
    intro i k hd hi hk
    obtain ⟨k, rfl⟩ : ∃ m, k = m + 1 := ⟨k - 1, by omega⟩
    rw [storagebarterlaw03_SealDoes.l1, if_neg (by omega)]
    exact hc k (by omega)
  | succ d ih =>
    intro i k hd hi hk
    obtain ⟨k, rfl⟩ : ∃ m, k = m + 1 := ⟨k - 1, by omega⟩
    have hm : rd_T34 ys (i : Int) ∈ ys := by
      unfold rd_T34
      rw [Int.toNat_natCast, List.getD_eq_getElem?_getD, List.getElem?_eq_getElem (show i < ys.length by omega), Option.getD_some]
      exact List.getElem_mem _
    have hr := hy _ hm
    obtain ⟨l, e⟩ := exB (rd_T34 ys (i : Int)).f1
    rw [storagebarterlaw03_SealDoes.l1, if_pos (by omega), if_pos (by omega), if_pos (by omega), e, Open_eq _ _ _ hr, Option.bind_some, rOpen_eq _ _ _ hr, Option.bind_some, if_pos rfl, if_pos rfl, w64 (by omega), show ((i : Int) + 1) = ((i + 1 : Nat) : Int) by omega]
    exact ih (i + 1) k (by omega) (by omega) (by omega)

theorem sd_l0 (hx : x.length ≤ 40000) (hr : -9223372036854775808 ≤ r0 ∧ r0 ≤ 9223372036854775807) (x43 : List Int) (hl : x43.length ≤ 100) :
    ∀ (d i k : Nat), x43.length - i = d → i ≤ x43.length → 50000 + 100 * d ≤ k → storagebarterlaw03_SealDoes.l0 k (B x) x2 x43 (x43.length : Int) (i : Int) r0 (B r1) = some true := by
  intro d
  induction d with
  | zero =>
    intro i k hd hi hk
    obtain ⟨k, rfl⟩ : ∃ m, k = m + 1 := ⟨k - 1, by omega⟩
    rw [storagebarterlaw03_SealDoes.l0, if_neg (by omega), Convergent_eq x k (by omega) (by omega), Option.bind_some, rConvergent_eq x k (by omega) (by omega), Option.bind_some]
    simp
  | succ d ih =>
    intro i k hd hi hk
    obtain ⟨k, rfl⟩ : ∃ m, k = m + 3 := ⟨k - 3, by omega⟩
    rw [storagebarterlaw03_SealDoes.l0, if_pos (by omega), if_pos (by omega), if_pos (by omega), private_eq, Option.bind_some, rPrivate_eq, Option.bind_some, Lock_eq, Option.bind_some, rLock_eq, Option.bind_some, if_pos rfl, if_pos rfl, if_pos rfl, storagebarterlaw03_SealDoes.j1, if_neg (by simp), Seal_eq, Option.bind_some, rSeal_eq, Option.bind_some, if_neg (by simp), storagebarterlaw03_SealDoes.j2, if_neg (by simp), mod_eq _ _ (by omega) (by omega), Option.bind_some, Option.bind_some]
    have hm9 : 0 ≤ x2 % 9 ∧ x2 % 9 < 9 := by omega
    refine sd_l1 x2 x r0 r1 _ x43 _ _ _ ?_ (by simp) (50000 + 100 * d) ?_ 3 0 k rfl (by simp) (by omega)
    · intro y hy
      simp only [List.mem_cons, List.not_mem_nil, or_false] at hy
      rcases hy with rfl | rfl | rfl
      · exact hr
      · by_cases hk : isKey (rd x43 (i : Int))
        · have hk' := hk
          unfold isKey at hk'
          simp only [if_pos hk]
          split
          · simp only; omega
          · simp only; omega
        · simp only [if_neg hk]
          omega
      · simp only
        rw [w64 (x := 3 * (x2 % 9)) (by omega), w64 (by omega)]
        omega
    · intro j hj
      rw [w64 (by omega), show ((i : Int) + 1) = ((i + 1 : Nat) : Int) by omega]
      exact ih (i + 1) j (by omega) (by omega) (by omega)
end

theorem SealDoes (a0 : ByteArray) (r0 : Int) (r1 : ByteArray) (a2 a3 : Int) (h0 : a0.size ≤ 140737488351232) (h1 : r1.size ≤ 140737488351232) (hr : (Lit.int .i64 r0).wf = true) : ∃ k, storagebarterlaw03_SealDoes.f k a0 r0 r1 a2 a3 = some true := by
  obtain ⟨x, rfl⟩ := exB a0
  obtain ⟨y, rfl⟩ := exB r1
  rw [B_size] at h0 h1
  have hb := bounds_i64 hr
  refine ⟨100000, ?_⟩
  unfold storagebarterlaw03_SealDoes.f
  rw [law03_sane, Option.bind_some, if_pos rfl, B_size, B_size, w64 (by omega)]
  by_cases hl : (x.length : Int) + y.length > 40000
  · rw [if_pos hl]
  rw [if_neg hl, mod_eq _ _ (by omega) (by omega), Option.bind_some, Option.bind_some]
  exact sd_l0 a2 x r0 y (by omega) hb _ (by simp) 6 0 100000 rfl (by simp) (by omega)

end Go.Proofs.Ytpebhbhdkmpjeaa.PureSd

/- The row of 'SealDoes': its second argument is a struct, which is opened and given back. -/
namespace Go.Proofs.Ytpebhbhdkmpjeaa.sealDoes
open Go.ChangeShapes Go.WideShapes Go.ChangeAt Go.RowKit
open Go.ChangeMaps (open_string shut_string)
set_option linter.unusedVariables false
theorem own : ownKnob Try.prog.godebug = none := by kernel_rfl
theorem laidOut : laidOutB Try.prog = true := by kernel_rfl
set_option maxRecDepth 100000 in
theorem lifted (os : Os) (started : os.Started) (H : Type) (enc : TypeId × Value → H) :
    ReturnsInHanded {} Try.checked os 5 .any (Rows.sealDoesSpec.pre6 enc Try.prog Try.f5 Rows.sealDoesRow.domain false) (Rows.sealDoesSpec.post enc Try.prog Try.f5 false true false false) := by
  refine returnsInHanded_of_change_sized (C := Try.checked) own started (by kernel_rfl) Try.func5
    (ChangeSpec.witness6 (enc := enc) (C := Try.checked) false ⟨#[], #[.string ByteArray.empty, .agg #[.int .i64 0, .string ByteArray.empty], .int .i64 0, .int .i64 0], []⟩ 8 (by kernel_rfl) (by kernel_rfl) (by kernel_rfl) (by kernel_rfl)) ?_
  intro W base args ds gs before hval0 hW hcnd hsz0 _
  have hsz : (DataW.weightsEach Try.prog (Try.f5.params.toList ++ Rows.sealDoesSpec.plain.varTypes Try.prog) (ds ++ gs)).all (· ≤ reachBytes) = true := hsz0
  have hval : ∀ (j : Nat) t v, Try.f5.params[j]? = some t → args[j]? = some v → Value.okWide Try.prog W .any base t v := hval0
  have hW' := hW
  obtain ⟨p, q, hA0, hV, rfl, hfz, hnd⟩ := hW
  have hA : DataW.TrodAll enc Try.prog W 0 (fun _ => true) true Try.f5.params.toList args.toList ds p := hA0
  rw [Try.params5] at hA hval hsz
  obtain ⟨v0, vs0, d0, ds0, p0, q0, hargs, rfl, rfl, h0, r0⟩ := trodAll_cons hA
  obtain ⟨v1, vs1, d1, ds1, p1, q1, rfl, rfl, rfl, h1, r1⟩ := trodAll_cons r0
  obtain ⟨v2, vs2, d2, ds2, p2, q2, rfl, rfl, rfl, h2, r2⟩ := trodAll_cons r1
  obtain ⟨v3, vs3, d3, ds3, p3, q3, rfl, rfl, rfl, h3, r3⟩ := trodAll_cons r2
  obtain ⟨rfl, rfl, rfl⟩ := trodAll_nil r3
  obtain rfl : args = #[v0, v1, v2, v3] := by cases args; simp_all
  obtain ⟨rfl, rfl⟩ := trodVars_none hV
  obtain ⟨a0, rfl, rfl, rfl, y0⟩ := open_string Try.underlying9 (hval 0 9 v0 rfl rfl) h0
  have k1 := h1
  have lt1 : ∀ x ∈ p1, x.block < W.heap.size := by obtain ⟨m, hm⟩ := k1; exact DataW.trod_lt m _ _ _ hm
  obtain ⟨c0, c1, z0, z1, n1, rfl, rfl, rfl, t0, t1⟩ := Go.Joins.open_agg2 Try.underlying34 (by kernel_rfl) (by kernel_rfl) (hval 1 34 v1 rfl rfl) h1
  obtain ⟨b0, hb0, -, wf0⟩ := DataW.trod_int Try.underlying3 t0
  obtain ⟨b1, hb1, hz1, sz1⟩ := DataW.trod_string Try.underlying9 t1
  obtain rfl : c0 = .int .i64 b0 := by simpa using hb0
  obtain rfl : c1 = .string b1 := by simpa using hb1
  obtain ⟨a2, rfl, rfl, rfl, w2⟩ := open_int Try.underlying3 (hval 2 3 v2 rfl rfl) h2
  obtain ⟨a3, rfl, rfl, rfl, w3⟩ := open_int Try.underlying3 (hval 3 3 v3 rfl rfl) h3
  have w0 : a0.size ≤ 140737488351232 := by
    have z := sized_string hsz (j := 0) (t := 9) rfl rfl
    rw [Array.length_toList] at z
    exact z
  have w1 : b1.size ≤ 140737488351232 := by
    have hm : b1.data.toList.length ∈ (DataW.agg [z0.1, z1.1]).weights Try.prog 34 := by
      have hz : z1.1 = .lit (.string b1.data.toList) := by rw [hz1]
      simp only [DataW.weights, Try.underlying34]
      exact DataW.weights_mem_each (j := 1) (t := 9) rfl (by rw [hz]; rfl) _ (by simp [DataW.weights])
    have z := List.all_eq_true.1 hsz _ (DataW.weights_mem_each (j := 1) (t := 34) rfl rfl _ hm)
    have z2 : b1.data.toList.length ≤ reachBytes := by simpa using z
    rw [Array.length_toList] at z2
    exact z2
  clear hA0 hval0 hsz0 hsz
  obtain ⟨k, hk⟩ := PureSd.SealDoes a0 b0 b1 a2 a3 w0 w1 wf0
  refine (Q.storagebarterlaw03_SealDoes.calls k a0 b0 b1 a2 a3 true W hk).mono fun e W' ⟨he, bel⟩ => ?_
  subst he
  exact ⟨_, rfl, _, _, _, [], _, [], hW', trodAll_mk1 (shut_bool Try.underlying4 _), (trodAll_cons_mk (shut_string Try.underlying9 y0) (trodAll_cons_mk (Below.trod laidOut (by kernel_rfl) (of_decide_eq_true (by kernel_rfl)) k1 bel lt1) (trodAll_cons_mk (shut_int Try.underlying3 w2) (trodAll_cons_mk (shut_int Try.underlying3 w3) trodAll_mk0)))), rfl, bel.frame _, fun h => by cases h⟩
theorem over : Rows.sealDoesRow.holds Try.pinned (OpenSpec.ofChange Rows.sealDoesSpec) :=
  OpenClaim.holds_of_wide 5 Try.f5 rfl rfl rfl rfl rfl rfl rfl ⟨rfl, rfl, rfl, rfl, rfl⟩ rfl rfl rfl rfl rfl (by kernel_rfl) Try.func5 (by kernel_rfl)
    (of_decide_eq_true (by kernel_rfl)) (by unfold Func.isWrapper; first | (rw [if_pos (by decide +kernel)]; kernel_rfl) | (rw [if_neg (by decide +kernel)]; exact ⟨rfl, rfl⟩))
    (fun os started H enc _ => lifted os started H enc)
theorem proved : Rows.SealDoesSaid := over
#print axioms proved
end Go.Proofs.Ytpebhbhdkmpjeaa.sealDoes
namespace Go.Proofs.Ytpebhbhdkmpjeaa
/-- The row, under a short name, for the claim. -/
theorem sealDoes_holds : Rows.SealDoesSaid := sealDoes.proved
end Go.Proofs.Ytpebhbhdkmpjeaa
