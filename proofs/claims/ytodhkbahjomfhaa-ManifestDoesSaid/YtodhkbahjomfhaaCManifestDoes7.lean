/- Versions, sizes, changes and what is restored are as the reference says, or the error: for all arguments. -/
import Derived.Test.YtodhkbahjomfhaaCManifestDoes6
import Derived.Test.YtodhkbahjomfhaaCManifestDoes3
import Derived.Test.YtodhkbahjomfhaaCManifestDoes5
import Derived.Deep.SlicePairs
import Derived.ProofKit
import Derived.OpenShut
import Derived.SizedLaws
import Derived.Test.YtodhkbahjomfhaaRows
import Derived.Lib.SmallJoins
import Derived.ChangeArms
import Derived.SliceStrings
import Derived.WalkKit
import Derived.ShutString
import Derived.ChangeOld
import Derived.Below
import Derived.Test.YtodhkbahjomfhaaCManifestDoes1
namespace Go.Proofs.Ytodhkbahjomfhaa.Gwd
open Go Go.RowKit Go.Proofs.Ytodhkbahjomfhaa.Gm Go.Proofs.Ytodhkbahjomfhaa.Gwa Go.Proofs.Ytodhkbahjomfhaa.Gwb Go.Proofs.Ytodhkbahjomfhaa.Q Go.Proofs.Ytodhkbahjomfhaa.Gput Go.Proofs.Ytodhkbahjomfhaa.Gputl Go.Proofs.YtodhkbahjomfhaaW.PrintWords Go.Proofs.YtodhkbahjomfhaaW.PrintLast Go.Proofs.YtodhkbahjomfhaaW.PrintMore
set_option linter.unusedVariables false
def rdN (l : List UInt8) : Nat → Int → List Int → List Int × Int × Int
 | 0, a, acc => (acc, a, 0)
 | n + 1, a, acc => if (intAt (B l) a).2.2 = 0 then rdN l n (intAt (B l) a).2.1 (acc ++ [(intAt (B l) a).1]) else ([], 0, (intAt (B l) a).2.2)
def listAt (l : List UInt8) (a most : Int) : List Int × Int × Int :=
 if (countAt l a most).2.2 = 0 then rdN l (countAt l a most).1.toNat (countAt l a most).2.1 [] else ([], 0, (countAt l a most).2.2)
theorem wire_List_l0 (l : List UInt8) (hs : l.length ≤ 17592186044416) : ∀ (d : Nat) (k : Nat) (a : Int) (acc : List Int) (n i : Nat), (l.length : Int) - a = d → 0 ≤ a → (acc.length : Int) ≤ a → i + d + 30 < 9223372036854775807 → i ≤ n → n ≤ 9223372036854775807 → d + 30 ≤ k →
 wire_List.l0 k (B l) a acc n i = some (rdN l (n - i) a acc) := by
 intro d
 induction d using Nat.strongRecOn with
 | _ d ih =>
 intro k a acc n i hd ha hacc hbig hin hn hk
 obtain ⟨k, rfl⟩ : ∃ m, k = m + 1 := ⟨k - 1, by omega⟩
 simp only [wire_List.l0]
 by_cases h : i < n
 ·rw [if_pos (by omega), wire_Int_eq (B l) a k (by rw [B_size]; omega) (by omega), Option.bind_some]
  obtain ⟨m, hm⟩ : ∃ m, n - i = m + 1 := ⟨n - i - 1, by omega⟩
  rw [hm, rdN]
  rcases hi : intAt (B l) a with ⟨x, c, e⟩
  simp only
  by_cases he : e = 0
  ·subst he
   obtain ⟨h1, h2, h3, -⟩ := intAt_ok hi
   rw [if_pos rfl, if_pos rfl, if_pos (by omega)]
   have := ih (l.length - c).toNat (by omega) k c (acc ++ [x]) n (i + 1) (by omega) (by omega) (by simp; omega) (by omega) (by omega) hn (by omega)
   rw [w64 (by omega), show ((i : Int) + 1) = ((i + 1 : Nat) : Int) by omega, this, show n - (i + 1) = m by omega]
  ·rw [if_neg he, if_neg he]
 ·rw [if_neg (by omega), show n - i = 0 by omega]
  rfl
theorem wire_List_eq (l : List UInt8) (a m : Int) (k : Nat) (hs : l.length ≤ 17592186044416) (hk : l.length + 30 ≤ k) : wire_List.f k (B l) a m = some (listAt l a m) := by
 unfold wire_List.f listAt
 rw [wire_count_eq l a m k (by omega) (by omega), Option.bind_some]
 rcases hc : countAt l a m with ⟨x, n, e⟩
 simp only
 by_cases he : e = 0
 ·subst he
  obtain ⟨h1, h2, h3⟩ := countAt_ok hc
  obtain ⟨h4, h5, h6, h7, h8, h9, -⟩ := intAt_ok h1
  rw [if_pos rfl, if_pos rfl]
  have := wire_List_l0 l hs (l.length - n).toNat k n [] x.toNat 0 (by omega) (by omega) (by simp; omega) (by omega) (by omega) (by omega) (by omega)
  rw [show (x.toNat : Int) = x by omega] at this
  exact this
 ·rw [if_neg he, if_neg he]
theorem ref_List_l0 (l : List UInt8) (hs : l.length ≤ 17592186044416) : ∀ (d : Nat) (k : Nat) (a : Int) (acc : List Int) (n : Int), (l.length : Int) - a = d → 0 ≤ a → (acc.length : Int) ≤ a → d + 40 ≤ k →
 storagebarterref01_List.l0 k (B l) n a acc = some (rdN l (n - acc.length).toNat a acc) := by
 intro d
 induction d using Nat.strongRecOn with
 | _ d ih =>
 intro k a acc n hd ha hacc hk
 obtain ⟨k, rfl⟩ : ∃ m, k = m + 1 := ⟨k - 1, by omega⟩
 simp only [storagebarterref01_List.l0]
 by_cases h : (acc.length : Int) < n
 ·rw [if_pos h, ref_Int_eq (B l) a k (by rw [B_size]; omega) (by omega), Option.bind_some]
  obtain ⟨m, hm⟩ : ∃ m, (n - acc.length).toNat = m + 1 := ⟨(n - acc.length).toNat - 1, by omega⟩
  rw [hm, rdN]
  rcases hi : intAt (B l) a with ⟨x, c, e⟩
  simp only
  by_cases he : e = 0
  ·subst he
   obtain ⟨h1, h2, h3, -⟩ := intAt_ok hi
   rw [if_pos rfl, if_pos rfl, if_pos (by omega)]
   have := ih (l.length - c).toNat (by omega) k c (acc ++ [x]) n (by omega) (by omega) (by simp; omega) (by omega)
   rw [this, show (n - ((acc ++ [x]).length : Int)).toNat = m by simp; omega]
  ·rw [if_neg he, if_neg he]
 ·rw [if_neg h, show (n - acc.length).toNat = 0 by omega]
  rfl
theorem ref_List_eq (l : List UInt8) (a m : Int) (k : Nat) (hs : l.length ≤ 17592186044416) (hk : l.length + 40 ≤ k) : storagebarterref01_List.f k (B l) a m = some (listAt l a m) := by
 unfold storagebarterref01_List.f listAt countAt
 rw [ref_Int_eq (B l) a k (by rw [B_size]; omega) (by omega), Option.bind_some]
 rcases hc : intAt (B l) a with ⟨x, n, e⟩
 simp only
 by_cases he : e = 0
 ·subst he
  obtain ⟨h4, h5, h6, h7, h8, h9, -⟩ := intAt_ok hc
  simp only [if_true]
  by_cases h0 : x < 0
  ·rw [if_pos h0]; simp only [if_pos h0]; rfl
  ·rw [if_neg h0]; simp only [if_neg h0]
   by_cases h1 : x > m
   ·rw [if_pos h1]; simp only [if_pos h1]; rfl
   ·rw [if_neg h1]; simp only [if_neg h1, if_true]
    have := ref_List_l0 l hs (l.length - n).toNat k n [] x (by omega) (by omega) (by simp; omega) (by omega)
    rw [this]
    simp
 ·rw [if_neg he]
  simp only [if_neg he]
theorem ref_PutList_l0 (k : Nat) (xs : List Int) (hw : ∀ x ∈ xs, (Lit.int .i64 x).wf = true) (hx : xs.length ≤ 140737488355328) : ∀ (d i : Nat) (l : List UInt8) (j : Nat), xs.length - i = d → i ≤ xs.length → l.length + 10 * d ≤ 9223372036854775000 → d + 20 ≤ j →
 storagebarterref01_PutList.l0 j (B l) xs xs.length i = some (B (l ++ (xs.drop i).flatMap putI)) := by
 intro d
 induction d with
 | zero =>
  intro i l j hd hi hl hj
  obtain ⟨j, rfl⟩ : ∃ m, j = m + 1 := ⟨j - 1, by omega⟩
  simp only [storagebarterref01_PutList.l0]
  rw [if_neg (by omega), List.drop_of_length_le (by omega), List.flatMap_nil, List.append_nil]
 | succ d ih =>
  intro i l j hd hi hl hj
  obtain ⟨j, rfl⟩ : ∃ m, j = m + 1 := ⟨j - 1, by omega⟩
  have hlt : i < xs.length := by omega
  have er : rd xs i = xs[i] := by simp [rd, List.getD, hlt]
  have hr := bounds_i64 (hw _ (List.getElem_mem hlt))
  have hp := putI_len hr
  simp only [storagebarterref01_PutList.l0]
  rw [if_pos (by omega), if_pos (by omega), if_pos (by omega), er, ref_PutInt_eq l _ j (by omega) hr (by omega), Option.bind_some, w64 (by omega), show ((i : Int) + 1) = ((i + 1 : Nat) : Int) by omega, ih (i + 1) _ j (by omega) (by omega) (by rw [List.length_append]; omega) (by omega), List.drop_eq_getElem_cons hlt, List.flatMap_cons, List.append_assoc]
theorem ref_PutList_eq (l : List UInt8) (xs : List Int) (k : Nat) (hw : ∀ x ∈ xs, (Lit.int .i64 x).wf = true) (hx : xs.length ≤ 140737488355328) (hl : l.length ≤ 140737488355328) (hk : xs.length + 20 ≤ k) : storagebarterref01_PutList.f k (B l) xs = some (B (l ++ putL xs)) := by
 unfold storagebarterref01_PutList.f
 have hr : -9223372036854775808 ≤ (xs.length : Int) ∧ (xs.length : Int) ≤ 9223372036854775807 := by omega
 have hp := putI_len hr
 rw [ref_PutInt_eq l _ k (by omega) hr (by omega), Option.bind_some]
 have := ref_PutList_l0 k xs hw hx xs.length 0 (l ++ putI xs.length) k (by omega) (by omega) (by rw [List.length_append]; omega) hk
 rw [show ((0 : Nat) : Int) = 0 from rfl] at this
 rw [this]
 simp [putL]
theorem wire_PutList_eq (l : List UInt8) (xs : List Int) (hw : ∀ x ∈ xs, (Lit.int .i64 x).wf = true) (hx : l.length + 10 * (xs.length + 1) ≤ 140737488355328) : wire_PutList.f (B l) xs = some (B (l ++ putL xs)) := by
 unfold wire_PutList.f
 rw [if_pos ⟨by rw [B_size]; exact hx, List.all_eq_true.2 hw⟩]
 rfl
theorem rdN_put (p q : List UInt8) : ∀ (xs : List Int) (pre : List UInt8) (acc : List Int), (∀ x ∈ xs, (Lit.int .i64 x).wf = true) → rdN (pre ++ (xs.flatMap putI ++ q)) xs.length pre.length acc = (acc ++ xs, ((pre.length + (xs.flatMap putI).length : Nat) : Int), 0)
 | [], pre, acc, _ => by simp [rdN]
 | x :: xs, pre, acc, hw => by
  have hr := bounds_i64 (hw x (by simp))
  have hi := intAt_put pre (xs.flatMap putI ++ q) x hr
  have ih := rdN_put p q xs (pre ++ putI x) (acc ++ [x]) (fun y hy => hw y (by simp [hy]))
  simp only [List.length_append, List.append_assoc] at ih
  simp only [List.length_cons, List.flatMap_cons, List.append_assoc, rdN]
  rw [hi]
  simp only [if_true]
  rw [ih]
  simp [Nat.add_assoc]
theorem listAt_put (p q : List UInt8) (xs : List Int) (most : Int) (hw : ∀ x ∈ xs, (Lit.int .i64 x).wf = true) (hx : xs.length ≤ 140737488355328) (hm : (xs.length : Int) ≤ most) : listAt (p ++ (putL xs ++ q)) p.length most = (xs, ((p.length + (putL xs).length : Nat) : Int), 0) := by
 have hr : -9223372036854775808 ≤ (xs.length : Int) ∧ (xs.length : Int) ≤ 9223372036854775807 := by omega
 have hi := intAt_put p (xs.flatMap putI ++ q) xs.length hr
 rw [show putL xs ++ q = putI xs.length ++ (xs.flatMap putI ++ q) by simp [putL]]
 have hc : countAt (p ++ (putI xs.length ++ (xs.flatMap putI ++ q))) p.length most = ((xs.length : Int), ((p.length + (putI xs.length).length : Nat) : Int), 0) := by
  unfold countAt
  rw [hi]
  simp only [if_true]
  rw [if_neg (by omega), if_neg (by omega)]
 unfold listAt
 rw [hc]
 simp only [if_true, Int.toNat_natCast]
 have := rdN_put p q xs (p ++ putI xs.length) [] hw
 simp only [List.length_append, List.append_assoc, List.nil_append] at this
 rw [this]
 simp [putL, Nat.add_assoc]
end Go.Proofs.Ytodhkbahjomfhaa.Gwd

namespace Go.Proofs.Ytodhkbahjomfhaa.Q
open Go.RowKit Go.Proofs.YtodhkbahjomfhaaW.PrintWords Go.Proofs.YtodhkbahjomfhaaW.PrintLast Go.Proofs.YtodhkbahjomfhaaW.PrintMore Go.Proofs.Ytodhkbahjomfhaa.Gput Go.Proofs.Ytodhkbahjomfhaa.Gputl
attribute [local go_sem] max2_int min2_int max_two min_two max_three min_three max_four min_four   -- for this text's walks alone
set_option linter.unusedVariables false
set_option linter.unusedSimpArgs false
mutual
noncomputable def manifest_Decode.j0 : Nat → Int → List Int → Bool → Option (Int × (List (S78)) × Int)
 | 0, _, _, _ => none
 | k + 1, x4, x7, x41 => if x41 = true then (some (0, ([] : List (S78)), 2)) else (manifest_Decode.l0 k x7 0 x4 ([] : List (S78)))
noncomputable def manifest_Decode.l0 : Nat → List Int → Int → Int → List (S78) → Option (Int × (List (S78)) × Int)
 | 0, _, _, _, _ => none
 | k + 1, x7, x9, x571000, x571001 => if x9 < (x7.length : Int) then (if 0 ≤ x9 then (if 0 ≤ (wrap64 (x9 + 1)) then (if (wrap64 (x9 + 1)) < (x7.length : Int) then (if x571001.length < 8796093022208 then (manifest_Decode.l0 k x7 (wrap64 (x9 + 2)) x571000 (x571001 ++ [(⟨rd x7 x9, rd x7 (wrap64 (x9 + 1))⟩ : S78)])) else (none)) else (none)) else (none)) else (none)) else ((manifest_Check.f k x571000 x571001).bind fun t576 => (if t576 = 0 then (some (x571000, x571001, 0)) else (some (0, ([] : List (S78)), t576))))
end
noncomputable def manifest_Decode.f (k : Nat) (a0 : ByteArray) : Option (Int × (List (S78)) × Int) := (wire_Int.f k a0 0).bind fun bt562 => (if bt562.2.2 = 0 then ((wire_List.f k a0 bt562.2.1 512).bind fun bt565 => (if bt565.2.2 = 0 then (if bt565.2.1 < (a0.size : Int) then (manifest_Decode.j0 k bt562.1 bt565.1 true) else (manifest_Decode.j0 k bt562.1 bt565.1 (((bt565.1.length : Int) % 2) == 1))) else (some (0, ([] : List (S78)), bt565.2.2)))) else (some (0, ([] : List (S78)), bt562.2.2)))
noncomputable def manifest_Decode.T13 : Bool × List (List Nat × List Nat) := (true, [([], []), ([0], [0]), ([], []), ([], []), ([2, 3], [2, 3]), ([4], [4]), ([], []), ([], []), ([7], [7]), ([6, 8], [6, 8]), ([9], [9]), ([5, 10], [5, 10]), ([11], [11]), ([1, 12], [1, 12]), ([0, 1, 2, 3, 4, 5, 6, 7, 8, 9, 10, 11, 12, 13], []), ([14, 13, 13, 0, 1, 2, 3, 4, 5, 6, 7, 8, 9, 10, 11, 12, 13], [13, 14])])
noncomputable def manifest_Decode.B13 : List Nat := [0, 1, 0, 0, 12, 28, 0, 0, 128, 448, 960, 2044, 4092, 8191, 16383, 32767]
theorem manifest_Decode.tab13 : rtab .any (opsOf Try.f35 13) = manifest_Decode.T13 := by kernel_rfl
theorem manifest_Decode.bits13 : waitsOk manifest_Decode.T13.2 manifest_Decode.B13 = true := by kernel_rfl
set_option maxHeartbeats 8000000 in
set_option maxRecDepth 100000 in
theorem manifest_Decode.calls (k : Nat) (a0 : ByteArray) (r1 : Int) (r2 : List (S78)) (r3 : Int) (w : World) (h : manifest_Decode.f k a0 = some (r1, r2, r3)) :
 Calls Try.prog 35 #[.string a0] w fun e w' => ∃ v1_ : Value, e = .returned (.tuple #[.agg #[.int .i64 r1, v1_], .int .i64 r3]) ∧ Kd.R k78 78 w' w.heap.size (fun _ => True) v1_ r2 ∧ Below w.heap.size w w' := by
 have hu32 := Try.underlying32
 have hu78 := Try.underlying78
 have HB := Aside0.mk (Below.refl w.heap.size w)
 have H : ((wire_Int.f k a0 0).bind fun bt562 => (if bt562.2.2 = 0 then ((wire_List.f k a0 bt562.2.1 512).bind fun bt565 => (if bt565.2.2 = 0 then (if bt565.2.1 < (a0.size : Int) then (manifest_Decode.j0 k bt562.1 bt565.1 true) else (manifest_Decode.j0 k bt562.1 bt565.1 (((bt565.1.length : Int) % 2) == 1))) else (some (0, ([] : List (S78)), bt565.2.2)))) else (some (0, ([] : List (S78)), bt562.2.2)))) = some (r1, r2, r3) := h
 clear h
 replace H := Option.bind_eq_some_iff.mp H
 obtain ⟨⟨t562, t563, t564⟩, A20, H⟩ := H
 replace H : (if t564 = 0 then ((wire_List.f k a0 t563 512).bind fun bt565 => (if bt565.2.2 = 0 then (if bt565.2.1 < (a0.size : Int) then (manifest_Decode.j0 k t562 bt565.1 true) else (manifest_Decode.j0 k t562 bt565.1 (((bt565.1.length : Int) % 2) == 1))) else (some (0, ([] : List (S78)), bt565.2.2)))) else (some (0, ([] : List (S78)), t564))) = some (r1, r2, r3) := H
 have A2 := Aside0.mk A20
 clear A20
 by_cases c3 : t564 = 0
 ·rw [if_pos c3] at H
  have c3b0 : (t564 == 0) = true := beq_iff_eq.mpr c3
  have c3b1 : (t564 != 0) = false := bne_eq_false_iff_eq.mpr c3
  clear c3
  replace H := Option.bind_eq_some_iff.mp H
  obtain ⟨⟨t565, t566, t567⟩, A40, H⟩ := H
  replace H : (if t567 = 0 then (if t566 < (a0.size : Int) then (manifest_Decode.j0 k t562 t565 true) else (manifest_Decode.j0 k t562 t565 (((t565.length : Int) % 2) == 1))) else (some (0, ([] : List (S78)), t567))) = some (r1, r2, r3) := H
  have A4 := Aside0.mk A40
  clear A40
  by_cases c5 : t567 = 0
  ·rw [if_pos c5] at H
   have c5b0 : (t567 == 0) = true := beq_iff_eq.mpr c5
   have c5b1 : (t567 != 0) = false := bne_eq_false_iff_eq.mpr c5
   clear c5
   have HC6 := Aside0.mk H
   clear H
   go_enter Try.func35, Try.ntmps35
   go_upto_region 7 with (first | ((with_reducible refine gate_dst (N := 2) rfl ?_); (try (refine gate_guard (by rfl) ?_; dsimp only)); refine box_event ?hg (N := 2) ?hd (cs := #[.int .i64 0, .slice none 0 0]) (t := 32) ?hr ?_; (case hd => rfl); (case hg => rfl); (case hr => first | (go_simp; done) | (go_simp; rfl)); intro gb561 hg w7 hbox hb; have n0_ := Aside0.mk (below_step (by repeat (first | (with_reducible first | exact HB.out | apply below_alloc | apply pw_below_drewN | apply below_drew1) | exact HB.out)) hb); have n1_ := Aside0.mk (hbox); have n2_ := Aside0.mk ((by rw [hg]; exact (below_size (by repeat (first | (with_reducible first | exact HB.out | apply below_alloc | apply pw_below_drewN | apply below_drew1) | exact HB.out))) : w.heap.size ≤ gb561)); have n3_ := Aside0.mk ((by rw [hg]; exact (below_size (by repeat (first | (with_reducible first | exact HB.out | apply below_alloc | apply pw_below_drewN | apply below_drew1) | exact HB.out))) : w.heap.size ≤ gb561)); clear HB; have HB := n0_; have BK561 := n1_; have GW561 := n2_; have GE561 := n3_; clear n0_ n1_ n2_ n3_; clear hb hbox hg) | ((with_reducible refine gate_callee (f := 76) rfl ?_); refine goesL_ (some 13) rfl rfl Try.func76 (by kernel_rfl) rfl #[.string a0, .int .i64 0] rfl (by (try simp only [List.map_toArray, List.map_cons, List.map_nil]); first | done | rfl | (simp only [List.length_drop, List.length_take]; rfl)) ?_; (with_reducible refine (wire_Int.calls k a0 0 t562 t563 t564 _ A2.out).mono ?_); rintro e w' ⟨rfl, ⟨nd, rfl⟩⟩; refine ⟨_, rfl, ?_⟩; (try (rw [drewN_self w7]; generalize hq_ : World.drewN w7 _ = w7; have n0_ : Aside0 (w7.heap[gb561]? = some (.cells #[.int .i64 0, .slice none 0 0] 32 (0, 0))) := ⟨by rw [← hq_]; exact (by (with_reducible repeat (first | refine blk_drewN ?_ _ | refine blk_drew ?_ | refine blk_alloc ?_ _)); exact BK561.out)⟩; have n1_ : Aside0 (Below w.heap.size w w7) := ⟨by rw [← hq_]; exact (by repeat (first | (with_reducible first | exact HB.out | apply below_alloc | apply pw_below_drewN | apply below_drew1 | refine below_set ?_ GE561.out) | exact HB.out))⟩; clear BK561 HB hq_; have BK561 := n0_; have HB := n1_; clear n0_ n1_))) | ((with_reducible refine gate_callee (f := 77) rfl ?_); refine goesL_ (some 24) rfl rfl Try.func77 (by kernel_rfl) rfl #[.string a0, .int .i64 t563, .int .i64 512] rfl (by (try simp only [List.map_toArray, List.map_cons, List.map_nil]); first | done | rfl | (simp only [List.length_drop, List.length_take]; rfl)) ?_; (with_reducible refine (wire_List.calls k a0 t563 512 t565 t566 t567 _ A4.out).mono ?_); rintro e w8 ⟨v568, rfl, ho0, hb⟩; refine ⟨_, rfl, ?_⟩; have n0_ := Aside0.mk (Kd.R_lower ho0 (below_size (by repeat (first | (with_reducible first | exact HB.out | apply below_alloc | apply pw_below_drewN | apply below_drew1 | refine below_set ?_ GE561.out) | exact HB.out)))); have n1_ := Aside0.mk (blk_below (g := gb561) (o := .cells #[.int .i64 0, .slice none 0 0] 32 (0, 0)) (by (with_reducible repeat (first | refine blk_drewN ?_ _ | refine blk_drew ?_ | refine blk_alloc ?_ _)); exact BK561.out) hb); have n2_ := Aside0.mk (below_step (by repeat (first | (with_reducible first | exact HB.out | apply below_alloc | apply pw_below_drewN | apply below_drew1 | refine below_set ?_ GE561.out) | exact HB.out)) hb); clear BK561; clear HB; have HO569 := n0_; have BK561 := n1_; have HB := n2_; clear n0_ n1_ n2_; (try clear hb); (try clear hb2); (try clear hk); (try clear hi); (try clear ho0)))
   (try simp only [Act.put, Sa, Sz, Ss])
   go_cut [41] (fun v41 wc => ∃ (kq : Nat) (x41_5 : Bool), v41 = .bool x41_5 ∧ Aside0 (manifest_Decode.j0 kq t562 t565 x41_5 = some (r1, r2, r3)) ∧ Aside0 (kq ≤ k) ∧ Aside0 (Kd.R (Kd.int .i64) 3 wc w.heap.size (fun _ => True) v568 t565) ∧ Aside0 (wc.heap[gb561]? = some (.cells #[.int .i64 0, (.slice none 0 0)] 32 (0, 0))) ∧ Aside0 (Below w.heap.size w wc))
   case first =>
    have H := HC6.out
    clear HC6
    by_cases c9 : t566 < (a0.size : Int)
    ·rw [if_pos c9] at H
     have c9b0 : decide (t566 < (a0.size : Int)) = true := decide_eq_true c9
     clear c9
     (first | rw [c9b0] | (simp only [i64_w, i32_w]; rw [c9b0]) | skip)
     have H' := Aside0.mk H
     clear H
     go_wp2
     go_meet
     case rel => exact ⟨_, (true), (by first | rfl | (simp; done) | (simp [*]; done)), H', ⟨by first | omega | exact Nat.le_refl _⟩, ⟨by (with_reducible repeat (first | apply Kd.R_alloc | apply Kd.R_drewN | apply Kd.R_drew)); exact HO569.out⟩, ⟨by (with_reducible repeat (first | refine blk_drewN ?_ _ | refine blk_drew ?_ | refine blk_alloc ?_ _)); exact BK561.out⟩, ⟨by repeat (first | (with_reducible first | exact HB.out | apply below_alloc | apply pw_below_drewN | apply below_drew1 | refine below_set ?_ GE561.out) | exact HB.out)⟩⟩
    ·rw [if_neg c9] at H
     have c9b0 : decide (t566 < (a0.size : Int)) = false := decide_eq_false c9
     clear c9
     (first | rw [c9b0] | (simp only [i64_w, i32_w]; rw [c9b0]) | skip)
     have H' := Aside0.mk H
     clear H
     obtain ⟨Ao10, co10, eo10⟩ := Kd.R_slice HO569.out
     subst eo10
     go_wp2
     go_meet
     case rel => exact ⟨_, ((((t565.length : Int) % 2) == 1)), (by first | rfl | (simp; done) | (simp [*]; done)), H', ⟨by first | omega | exact Nat.le_refl _⟩, ⟨by (with_reducible repeat (first | apply Kd.R_alloc | apply Kd.R_drewN | apply Kd.R_drew)); exact HO569.out⟩, ⟨by (with_reducible repeat (first | refine blk_drewN ?_ _ | refine blk_drew ?_ | refine blk_alloc ?_ _)); exact BK561.out⟩, ⟨by repeat (first | (with_reducible first | exact HB.out | apply below_alloc | apply pw_below_drewN | apply below_drew1 | refine below_set ?_ GE561.out) | exact HB.out)⟩⟩
   case rest =>
    clear HC6
    try clear p2
    try clear c3
    try clear c3b0
    try clear c3b1
    try clear c5
    try clear c5b0
    try clear c5b1
    try clear c7
    try clear c9
    try clear c9b0
    obtain ⟨kq, x41_5, rfl, HA, HJ5, HO_7, BK561, HB⟩ := hcut
    cases kq with
    | zero => exact absurd HA.out (by simp [manifest_Decode.j0])
    | succ kj5 =>
     have H := HA.out
     clear HA
     simp only [manifest_Decode.j0] at H
     by_cases c11 : x41_5 = true
     ·subst c11
      have H1 : (some (0, ([] : List (S78)), 2)) = some (r1, r2, r3) := by rw [if_pos rfl] at H; exact H
      clear H
      have H := H1
      clear H1
      simp only [Option.some.injEq, Prod.mk.injEq] at H
      obtain ⟨rfl, rfl, rfl⟩ := H
      have hcz12_0 : wc.cell? ⟨gb561, 0, none⟩ = some (.int .i64 0) := (blk_cell BK561.out 0).trans rfl
      have hcz12_1 : wc.cell? ⟨gb561, 1, none⟩ = some (.slice none 0 0) := (blk_cell BK561.out 1).trans rfl
      have hfz12_0 := blk_frozen BK561.out 0
      have hfz12_1 := blk_frozen BK561.out 1
      go_wp2
      refine bodyPost_ret (results_ct rfl _ _ gb561 32 #[.int .i64 0, .slice none 0 0] (0, 0) _ rfl (by (with_reducible repeat (first | refine blk_drewN ?_ _ | refine blk_drew ?_ | refine blk_alloc ?_ _)); refine blk_put (cs := #[.int .i64 0, .slice none 0 0]) ?_ 1 _ rfl; (with_reducible repeat (first | refine blk_drewN ?_ _ | refine blk_drew ?_ | refine blk_alloc ?_ _)); refine blk_put (cs := #[.int .i64 0, .slice none 0 0]) ?_ 0 _ rfl; (with_reducible repeat (first | refine blk_drewN ?_ _ | refine blk_drew ?_ | refine blk_alloc ?_ _)); exact BK561.out) Try.underlying32 rfl (by kernel_rfl)) rfl ?_
      exact ⟨_, by first | rfl | (simp [errW_none, errW_some] <;> rfl) | (simp [*, errW_none, errW_some] <;> rfl), by first | exact Kd.R_nil _ _ _ _ _ | exact Kd.N_nil _ _ _ _ _ | exact Kd.V_nil _ _ _ _ _ | exact Kd.Q_nil _ _ _ _ _ | exact Kd.S_nil _ _ _ _ _, by repeat (first | (with_reducible first | exact HB.out | apply below_alloc | apply pw_below_drewN | apply below_drew1 | refine below_set ?_ GE561.out) | exact HB.out)⟩
     ·replace c11 := Bool.eq_false_iff.mpr c11
      subst c11
      have H1 : (manifest_Decode.l0 kj5 t565 0 t562 ([] : List (S78))) = some (r1, r2, r3) := by rw [if_neg (show ¬ (false = true) by decide)] at H; exact H
      clear H
      have H := H1
      clear H1
      have H' := Aside0.mk H
      clear H
      go_wp2_with (first | ((with_reducible refine gate_dst (N := 8) rfl ?_); (try (refine gate_guard (by rfl) ?_; dsimp only)); refine box_event ?hg (N := 8) ?hd (cs := #[.int .i64 0, .slice none 0 0]) (t := 32) ?hr ?_; (case hd => rfl); (case hg => rfl); (case hr => first | (go_simp; done) | (go_simp; rfl)); intro gb570 hg w13 hbox hb; have n0_ := Aside0.mk (Kd.R_below (by (with_reducible repeat (first | apply Kd.R_alloc | apply Kd.R_drewN | apply Kd.R_drew)); exact HO_7.out) hb); have n1_ := Aside0.mk (blk_below (g := gb561) (o := .cells #[.int .i64 0, .slice none 0 0] 32 (0, 0)) (by (with_reducible repeat (first | refine blk_drewN ?_ _ | refine blk_drew ?_ | refine blk_alloc ?_ _)); exact BK561.out) hb); have n2_ := Aside0.mk (below_step (by repeat (first | (with_reducible first | exact HB.out | apply below_alloc | apply pw_below_drewN | apply below_drew1 | refine below_set ?_ GE561.out) | exact HB.out)) hb); have n3_ := Aside0.mk (hbox); have n4_ := Aside0.mk ((by rw [hg]; exact (below_size (by repeat (first | (with_reducible first | exact HB.out | apply below_alloc | apply pw_below_drewN | apply below_drew1 | refine below_set ?_ GE561.out) | exact HB.out))) : w.heap.size ≤ gb570)); have n5_ := Aside0.mk ((by rw [hg]; exact (below_size (by repeat (first | (with_reducible first | exact HB.out | apply below_alloc | apply pw_below_drewN | apply below_drew1 | refine below_set ?_ GE561.out) | exact HB.out))) : w.heap.size ≤ gb570)); have n6_ := Aside0.mk ((by rw [hg]; exact Nat.ne_of_lt (blk_lt (g := gb561) (o := .cells #[.int .i64 0, .slice none 0 0] 32 (0, 0)) (by (with_reducible repeat (first | refine blk_drewN ?_ _ | refine blk_drew ?_ | refine blk_alloc ?_ _)); exact BK561.out)) : gb561 ≠ gb570)); have n7_ := Aside0.mk ((by rw [hg]; exact Nat.ne_of_gt (blk_lt (g := gb561) (o := .cells #[.int .i64 0, .slice none 0 0] 32 (0, 0)) (by (with_reducible repeat (first | refine blk_drewN ?_ _ | refine blk_drew ?_ | refine blk_alloc ?_ _)); exact BK561.out)) : gb570 ≠ gb561)); clear HO_7; clear BK561; clear HB; have HO_7 := n0_; have BK561 := n1_; have HB := n2_; have BK570 := n3_; have GW570 := n4_; have GE570 := n5_; have NB561_570 := n6_; have NB570_561 := n7_; clear n0_ n1_ n2_ n3_ n4_ n5_ n6_ n7_; clear hb hbox hg; have hnb14 := NB570_561.out; have hnc14 := NB561_570.out; have hcz15_0 : w13.cell? ⟨gb570, 0, none⟩ = some (.int .i64 0) := (blk_cell BK570.out 0).trans rfl; have hcz15_1 : w13.cell? ⟨gb570, 1, none⟩ = some (.slice none 0 0) := (blk_cell BK570.out 1).trans rfl; have hfz15_0 := blk_frozen BK570.out 0; have hfz15_1 := blk_frozen BK570.out 1))
      go_loopg [9] kj5 (fun kq v9 w' => ∃ (x9_2 : Int) (x571001_2 : List (S78)) (u571001 : Value), v9 = .int .i64 x9_2 ∧ Aside0 (manifest_Decode.l0 kq t565 x9_2 t562 x571001_2 = some (r1, r2, r3)) ∧ Aside0 (kq ≤ kj5) ∧ Aside0 (Kd.R (Kd.int .i64) 3 w' w.heap.size (fun _ => True) v568 t565) ∧ Aside0 (Kd.R k78 78 w' w.heap.size (fun _ => True) u571001 x571001_2) ∧ Aside0 (w'.heap[gb561]? = some (.cells #[.int .i64 0, (.slice none 0 0)] 32 (0, 0))) ∧ Aside0 (w'.heap[gb570]? = some (.cells #[.int .i64 t562, u571001] 32 (0, 0))) ∧ Aside0 (Below w.heap.size w w'))
      case atStart => exact ⟨(0), (([] : List (S78))), (.slice none 0 0), (by first | rfl | (simp; done) | (simp [*]; done)), H', ⟨Nat.le_refl _⟩, ⟨by (with_reducible repeat (first | apply Kd.R_alloc | apply Kd.R_drewN | apply Kd.R_drew)); exact Kd.R_mono (Kd.R_far (p := ⟨gb570, 1, none⟩) (Kd.R_far (p := ⟨gb570, 0, none⟩) (Kd.R_types HO_7.out BK570.out (by decide)) (fun _ hk => hk.2) (.int .i64 t562)) (fun _ hk => hk.2) (.slice none 0 0)) (fun _ hk => trivial)⟩, ⟨by first | exact Kd.R_nil _ _ _ _ _ | exact Kd.N_nil _ _ _ _ _ | exact Kd.V_nil _ _ _ _ _ | exact Kd.Q_nil _ _ _ _ _ | exact Kd.S_nil _ _ _ _ _⟩, ⟨by (with_reducible repeat (first | refine blk_drewN ?_ _ | refine blk_drew ?_ | refine blk_alloc ?_ _)); refine blk_far ?_ NB561_570.out _; (with_reducible repeat (first | refine blk_drewN ?_ _ | refine blk_drew ?_ | refine blk_alloc ?_ _)); refine blk_far ?_ NB561_570.out _; (with_reducible repeat (first | refine blk_drewN ?_ _ | refine blk_drew ?_ | refine blk_alloc ?_ _)); exact BK561.out⟩, ⟨by (with_reducible repeat (first | refine blk_drewN ?_ _ | refine blk_drew ?_ | refine blk_alloc ?_ _)); refine blk_put (cs := #[.int .i64 t562, .slice none 0 0]) ?_ 1 _ rfl; (with_reducible repeat (first | refine blk_drewN ?_ _ | refine blk_drew ?_ | refine blk_alloc ?_ _)); refine blk_put (cs := #[.int .i64 0, .slice none 0 0]) ?_ 0 _ rfl; (with_reducible repeat (first | refine blk_drewN ?_ _ | refine blk_drew ?_ | refine blk_alloc ?_ _)); exact BK570.out⟩, ⟨by repeat (first | (with_reducible first | exact HB.out | apply below_alloc | apply pw_below_drewN | apply below_drew1 | refine below_set ?_ GE561.out | refine below_set ?_ GE570.out) | exact HB.out)⟩⟩
      case round =>
       clear H'
       try clear c1
       try clear p2
       try clear c3
       try clear c3b0
       try clear c3b1
       try clear c5
       try clear c5b0
       try clear c5b1
       try clear c7
       try clear c9
       try clear c9b0
       try clear c11
       try clear c14
       try clear hcz12_0
       try clear hcz12_1
       try clear hcz15_0
       try clear hcz15_1
       try clear hfz12_0
       try clear hfz12_1
       try clear hfz15_0
       try clear hfz15_1
       try clear p2
       obtain ⟨x9_2, x571001_2, u571001, rfl, HA, HK2, HO_7, HO_571001, BK561, BK570, HB⟩ := hrel
       cases gk with
       | zero => exact absurd HA.out (by simp [manifest_Decode.l0])
       | succ k2 =>
        have H := HA.out
        clear HA
        simp only [manifest_Decode.l0] at H
        by_cases c16 : x9_2 < (t565.length : Int)
        ·rw [if_pos c16] at H
         have c16b0 : decide (x9_2 < (t565.length : Int)) = true := decide_eq_true c16
         clear c16
         by_cases c17 : 0 ≤ x9_2
         ·rw [if_pos c17] at H
          have c17b0 : decide (0 ≤ x9_2) = true := decide_eq_true c17
          clear c17
          obtain ⟨ji18, hji18⟩ : ∃ j_ : Int, (wrap64 (x9_2 + 1)) = j_ := ⟨_, rfl⟩
          replace H : (if 0 ≤ (ji18) then (if (ji18) < (t565.length : Int) then (if x571001_2.length < 8796093022208 then (manifest_Decode.l0 k2 t565 (wrap64 (x9_2 + 2)) t562 (x571001_2 ++ [(⟨rd t565 x9_2, rd t565 (ji18)⟩ : S78)])) else (none)) else (none)) else (none)) = some (r1, r2, r3) := by first | (rw [hji18] at H; exact H) | (simp only [hji18] at H ⊢; exact H)
          have hji18w : (IntKind.i64.wrap (x9_2 + 1)) = ji18 := (i64_w _).trans hji18
          by_cases c19 : 0 ≤ (ji18)
          ·rw [if_pos c19] at H
           have c19b0 : decide (0 ≤ (ji18)) = true := decide_eq_true c19
           clear c19
           by_cases c20 : (ji18) < (t565.length : Int)
           ·rw [if_pos c20] at H
            have c20b0 : decide ((ji18) < (t565.length : Int)) = true := decide_eq_true c20
            clear c20
            by_cases c21 : x571001_2.length < 8796093022208
            ·rw [if_pos c21] at H
             have LMc21 := Aside0.mk c21
             clear c21
             obtain ⟨y573, hy573⟩ : ∃ y_ : List (S78), y_ = (x571001_2 ++ [(⟨rd t565 x9_2, rd t565 (ji18)⟩ : S78)]) := ⟨_, rfl⟩
             replace H : (manifest_Decode.l0 k2 t565 (wrap64 (x9_2 + 2)) t562 y573) = some (r1, r2, r3) := by first | (rw [hy573]; with_reducible exact H) | (have H2_ := (Option.bind_some _ _).symm.trans H; rw [hy573]; with_reducible exact H2_) | (have H2_ := (Option.bind_some _ _).symm.trans H; with_reducible exact H2_) | with_reducible exact H | (rw [hy573]; exact H) | exact H
             have Ny573 := Aside0.mk hy573
             clear hy573
             have H' := Aside0.mk H
             clear H
             obtain ⟨Ao22, co22, eo22⟩ := Kd.R_slice HO_7.out
             subst eo22
             try go_wp2
             have n0_ := Aside0.mk (Kd.R_drew HO_7.out)
             have n1_ := Aside0.mk (Kd.R_drew HO_571001.out)
             have n2_ := Aside0.mk (blk_drew BK561.out)
             have n3_ := Aside0.mk (blk_drew BK570.out)
             have n4_ := Aside0.mk (below_drew1 HB.out)
             clear HO_7
             clear HO_571001
             clear BK561
             clear BK570
             clear HB
             have HO_7 := n0_
             have HO_571001 := n1_
             have BK561 := n2_
             have BK570 := n3_
             have HB := n4_
             clear n0_ n1_ n2_ n3_ n4_
             have p571 : 0 ≤ (x9_2 : Int) := of_decide_eq_true (by first | (with_reducible assumption) | assumption)
             have q571 : x9_2 < (t565.length : Int) := of_decide_eq_true (by first | (with_reducible assumption) | assumption)
             obtain ⟨ad571, e571, hx571_0⟩ := Kd.at_int (Kd.R_reads' HO_7.out).2.2 x9_2 p571 q571
             cases e571
             replace p571 := eq_true p571
             replace q571 := eq_true q571
             have p572 : 0 ≤ ((ji18) : Int) := of_decide_eq_true (by first | (with_reducible assumption) | assumption)
             have q572 : (ji18) < (t565.length : Int) := of_decide_eq_true (by first | (with_reducible assumption) | assumption)
             obtain ⟨ad572, e572, hx572_0⟩ := Kd.at_int (Kd.R_reads' HO_7.out).2.2 (ji18) p572 q572
             obtain rfl : ad571 = ad572 := (by injection e572)
             replace p572 := eq_true p572
             replace q572 := eq_true q572
             refine start_ (n := 16) (S := fun w' => w'.cell? ⟨gb570, 0, none⟩ = some (.int .i64 t562) ∧ w'.cell? ⟨gb570, 1, none⟩ = some (u571001) ∧ w'.cell? (ad571.add (x9_2).toNat) = some (.int .i64 (rd t565 x9_2)) ∧ w'.cell? (ad571.add ((ji18)).toNat) = some (.int .i64 (rd t565 (ji18)))) (ds := [13, 15]) #[false, false, false, false, false, false, false, false, false, false, false, false, false, false, false, false] (by kernel_rfl) rfl rfl ⟨(blk_cell BK570.out 0).trans rfl, (blk_cell BK570.out 1).trans rfl, hx571_0, hx572_0⟩ (fun hHeld => ?_); refine with_tabW manifest_Decode.tab13 manifest_Decode.bits13 (fun HT_ HW_ => ?_)
             generalize wr.drew = w23 at HO_7 HO_571001 BK561 BK570 HB hx571_0 hx572_0 hHeld ⊢
             refine pu 0 51 (v := ?_) (a' := ?_) HT_ rfl rfl (by kernel_rfl) (fun _ _ _ h => h) (Or.inl ⟨by rfl, ?_⟩) ?_ ?_
             rotate_left; (intro w'; go_simp; with_reducible rfl); rotate_left; (simp only [Act.put, Sa, Sz, Ss, i64_w, i32_w]; rfl)
             refine pu 2 53 (v := ?_) (a' := ?_) HT_ rfl rfl (by kernel_rfl) (fun _ _ _ h => h) (Or.inl ⟨by rfl, ?_⟩) ?_ ?_
             rotate_left; (intro w'; go_simp; with_reducible rfl); rotate_left; (simp only [Act.put, Sa, Sz, Ss, i64_w, i32_w]; rfl)
             refine pu 3 54 (v := ?_) (a' := ?_) HT_ rfl rfl (by kernel_rfl) (fun _ _ _ h => h) (Or.inl ⟨by rfl, ?_⟩) ?_ ?_
             rotate_left; (intro w'; go_simp; with_reducible rfl); rotate_left; (simp only [Act.put, Sa, Sz, Ss, i64_w, i32_w]; rfl)
             refine pu 4 55 (v := ?_) (a' := ?_) HT_ rfl rfl (by kernel_rfl) (fun _ _ _ h => h) (Or.inl ⟨by rfl, ?_⟩) ?_ ?_
             rotate_left; (intro w'; go_simp; with_reducible rfl); rotate_left; (simp only [Act.put, Sa, Sz, Ss, i64_w, i32_w]; rfl)
             refine pu 6 57 (v := ?_) (a' := ?_) HT_ rfl rfl (by kernel_rfl) (fun _ _ _ h => h) (Or.inl ⟨by rfl, ?_⟩) ?_ ?_
             rotate_left; (intro w'; go_simp; with_reducible rfl); rotate_left; (simp only [Act.put, Sa, Sz, Ss, i64_w, i32_w]; rfl)
             refine pu 7 58 (v := ?_) (a' := ?_) HT_ rfl rfl (by kernel_rfl) (fun _ _ _ h => h) (Or.inl ⟨by rfl, ?_⟩) ?_ ?_
             rotate_left; (intro w'; go_simp; with_reducible rfl); rotate_left; (simp only [Act.put, Sa, Sz, Ss, i64_w, i32_w]; rfl)
             refine pu 8 59 (v := ?_) (a' := ?_) HT_ rfl rfl (by kernel_rfl) (fun _ _ _ h => h) (Or.inl ⟨by rfl, ?_⟩) ?_ ?_
             rotate_left; (intro w'; go_simp; with_reducible rfl); rotate_left; (simp only [Act.put, Sa, Sz, Ss, i64_w, i32_w]; rfl)
             refine pu 9 60 (v := ?_) (a' := ?_) HT_ rfl rfl (by kernel_rfl) (fun _ _ _ h => h) (Or.inl ⟨by rfl, ?_⟩) ?_ ?_
             rotate_left; (intro w'; go_simp; with_reducible rfl); rotate_left; (simp only [Act.put, Sa, Sz, Ss, i64_w, i32_w]; rfl)
             refine tk 1 52 (v := ?_) (a' := ?_) HT_ HW_ rfl rfl (by kernel_rfl) (fun _ _ _ h => h) (Or.inl ⟨by rfl, ?_⟩) hHeld ?_ ?_
             rotate_left; (rintro w' ⟨s0, s1, s2, s3⟩; go_simp; with_reducible rfl); rotate_left; (simp only [Act.put, Sa, Sz, Ss, i64_w, i32_w]; rfl)
             refine tk 5 56 (v := ?_) (a' := ?_) HT_ HW_ rfl rfl (by kernel_rfl) (fun _ _ _ h => h) (Or.inl ⟨by rfl, ?_⟩) hHeld ?_ ?_
             rotate_left; (rintro w' ⟨s0, s1, s2, s3⟩; go_simp; with_reducible rfl); rotate_left; (simp only [Act.put, Sa, Sz, Ss, i64_w, i32_w]; rfl)
             refine tk 10 61 (v := ?_) (a' := ?_) HT_ HW_ rfl rfl (by kernel_rfl) (fun _ _ _ h => h) (Or.inl ⟨by rfl, ?_⟩) hHeld ?_ ?_
             rotate_left; (rintro w' ⟨s0, s1, s2, s3⟩; go_simp; with_reducible rfl); rotate_left; (simp only [Act.put, Sa, Sz, Ss, i64_w, i32_w]; rfl)
             refine pu 11 62 (v := ?_) (a' := ?_) HT_ rfl rfl (by kernel_rfl) (fun _ _ _ h => h) (Or.inl ⟨by rfl, ?_⟩) ?_ ?_
             rotate_left; (intro w'; go_simp; with_reducible rfl); rotate_left; (simp only [Act.put, Sa, Sz, Ss, i64_w, i32_w]; rfl)
             refine one_ (i := 12) (N := some 63) #[true, true, true, true, true, true, true, true, true, true, true, true, true, false, false, false] rfl rfl (one_of HT_.out (by kernel_rfl)) (by decide) (fun K hK => ?_)
             refine value_ (w1 := ?_) (v := ?_) (by rfl) rfl ?_ ?_
             rotate_left 2
             ·go_simp
              constructor
              ·rfl
              ·rfl
             refine hK.out _ _ ⟨(blk_cell (blk_alloc BK570.out _) 0).trans rfl, (blk_cell (blk_alloc BK570.out _) 1).trans rfl, (World.cell?_alloc_lt _ _ _ (World.block_lt_of_cell? _ _ (hHeld.2.2.1))).trans (hHeld.2.2.1), (World.cell?_alloc_lt _ _ _ (World.block_lt_of_cell? _ _ (hHeld.2.2.2))).trans (hHeld.2.2.2)⟩ (fun hHeld => ?_)
             clear hK K
             refine norm_ (a' := ?_) ?_ ?_
             rotate_left
             ·show Act.put _ (some 63) _ = _
              simp only [Act.put, Sa, Sz, Ss, i64_w, i32_w]
              rfl
             refine last_ (i := 13) (N := some 64) #[true, true, true, true, true, true, true, true, true, true, true, true, true, true, false, false] rfl rfl (one_of HT_.out (by kernel_rfl)) (by decide) (fun K hK => ?_)
             refine Kd.R_append_step k78 (w0 := w) w.heap.size (by rfl) (.tmp 52) (.tmp 63) 30 78 (.agg #[(.int .i64 0), (.int .i64 0)]) 16 rfl Try.underlying30 info78 rfl (by decide) (by omega) u571001 x571001_2 (⟨rd t565 x9_2, rd t565 (ji18)⟩ : S78) [.int .i64 (rd t565 x9_2), .int .i64 (rd t565 (ji18))] (fun _ => True) (fun _ => False) rfl rfl ?aP (fun _ hk => hk.elim) ?aF ?aO ?aB ?aS ?aL ?_
             (case aP => exact k78_mkM _ _ _ (⟨rd t565 x9_2, rd t565 (ji18)⟩ : S78))
             (case aB => exact (by repeat (first | (with_reducible first | exact HB.out | apply below_alloc | apply pw_below_drewN | apply below_drew1 | refine below_set ?_ GE561.out | refine below_set ?_ GE570.out) | exact HB.out)))
             (case aF => exact (fun _ _ => trivial))
             (case aO => exact (by (with_reducible repeat (first | apply Kd.R_alloc | apply Kd.R_drewN | apply Kd.R_drew)); exact HO_571001.out))
             (case aS => exact (below_size (by repeat (first | (with_reducible first | exact HB.out | apply below_alloc | apply pw_below_drewN | apply below_drew1 | refine below_set ?_ GE561.out | refine below_set ?_ GE570.out) | exact HB.out))))
             (case aL => have := LMc21.out; omega)
             intro v574 w24 ho hb hg hat
             rw [← Ny573.out] at ho
             have n0_ := Aside0.mk (Kd.R_over' (by (with_reducible repeat (first | apply Kd.R_alloc | apply Kd.R_drewN | apply Kd.R_drew)); exact HO_7.out) (Kd.R_typed (by (with_reducible repeat (first | apply Kd.R_alloc | apply Kd.R_drewN | apply Kd.R_drew)); exact HO_571001.out)) (by decide) hg)
             have n1_ := Aside0.mk (blk_grown (g := gb561) (o := .cells #[.int .i64 0, .slice none 0 0] 32 (0, 0)) (by (with_reducible repeat (first | refine blk_drewN ?_ _ | refine blk_drew ?_ | refine blk_alloc ?_ _)); exact BK561.out) hg (Kd.R_ne HO_571001.out BK561.out (by decide)))
             have n2_ := Aside0.mk (blk_grown (g := gb570) (o := .cells #[.int .i64 t562, u571001] 32 (0, 0)) (by (with_reducible repeat (first | refine blk_drewN ?_ _ | refine blk_drew ?_ | refine blk_alloc ?_ _)); exact BK570.out) hg (Kd.R_ne HO_571001.out BK570.out (by decide)))
             have n3_ := Aside0.mk (hb)
             have n4_ := Aside0.mk (ho)
             clear HO_7
             clear BK561
             clear BK570
             clear HB
             clear HO_571001
             have HO_7 := n0_
             have BK561 := n1_
             have BK570 := n2_
             have HB := n3_
             have HO575 := n4_
             clear n0_ n1_ n2_ n3_ n4_
             clear ho hb hg hat
             obtain ⟨Ao25, co25, eo25⟩ := Kd.R_slice HO575.out
             (first | subst eo25 | (injection eo25 with f1_ f2_ f3_; have f4_ := f1_.symm; have f5_ := f3_.symm; clear f1_ f2_ f3_; subst f4_; subst f5_))
             refine hK.out _ _ ?_
             clear hK K
             refine norm_ (a' := ?_) ?_ ?_
             rotate_left
             ·show Act.put _ (some 64) _ = _
              simp only [Act.put, Sa, Sz, Ss, i64_w, i32_w]
              rfl
             refine pu 14 65 (v := ?_) (a' := ?_) HT_ rfl rfl (by kernel_rfl) (fun _ _ _ h => h) (Or.inl ⟨by rfl, ?_⟩) ?_ ?_
             rotate_left; (intro w'; go_simp; with_reducible rfl); rotate_left; (simp only [Act.put, Sa, Sz, Ss, i64_w, i32_w]; rfl)
             refine last_ (i := 15) (N := none) #[true, true, true, true, true, true, true, true, true, true, true, true, true, true, true, true] rfl rfl (one_of HT_.out (by kernel_rfl)) (by decide) (fun K hK => ?_)
             have hs26 : w24.cell? ⟨gb570, 1, none⟩ = some (u571001) := (blk_cell BK570.out 1).trans rfl
             have hfs26 := blk_frozen BK570.out 1
             have hns26_0 := NB561_570.out
             have hms26_0 := NB570_561.out
             refine skip_ (w1 := ?_) (by rfl) rfl ?_ ?_
             rotate_left
             ·go_simp
              rfl
             refine hK.out _ _ ?_
             clear hK K
             refine done_ (done_of HT_.out (by kernel_rfl)) ?_
             try go_wp2
             go_roundg k2
             case measure => have := HJ5.out; have := HK2.out; omega
             case rel => exact ⟨(wrap64 (x9_2 + 2)), (y573), (.slice Ao25 y573.length co25), (by first | rfl | (simp; done) | (simp [*]; done)), H', ⟨by have := HJ5.out; have := HK2.out; omega⟩, ⟨by (with_reducible repeat (first | apply Kd.R_alloc | apply Kd.R_drewN | apply Kd.R_drew)); exact Kd.R_mono (Kd.R_far (p := ⟨gb570, 1, none⟩) (Kd.R_types HO_7.out BK570.out (by decide)) (fun _ hk => hk.2) (.slice Ao25 y573.length co25)) (fun _ hk => trivial)⟩, ⟨by (with_reducible repeat (first | apply Kd.R_alloc | apply Kd.R_drewN | apply Kd.R_drew)); exact Kd.R_mono (Kd.R_far (p := ⟨gb570, 1, none⟩) (Kd.R_types HO575.out BK570.out (by decide)) (fun _ hk => hk.2) (.slice Ao25 y573.length co25)) (fun _ hk => trivial)⟩, ⟨by (with_reducible repeat (first | refine blk_drewN ?_ _ | refine blk_drew ?_ | refine blk_alloc ?_ _)); refine blk_far ?_ NB561_570.out _; (with_reducible repeat (first | refine blk_drewN ?_ _ | refine blk_drew ?_ | refine blk_alloc ?_ _)); exact BK561.out⟩, ⟨by (with_reducible repeat (first | refine blk_drewN ?_ _ | refine blk_drew ?_ | refine blk_alloc ?_ _)); refine blk_put (cs := #[.int .i64 t562, u571001]) ?_ 1 _ rfl; (with_reducible repeat (first | refine blk_drewN ?_ _ | refine blk_drew ?_ | refine blk_alloc ?_ _)); exact BK570.out⟩, ⟨by repeat (first | (with_reducible first | exact HB.out | apply below_alloc | apply pw_below_drewN | apply below_drew1 | refine below_set ?_ GE561.out | refine below_set ?_ GE570.out) | exact HB.out)⟩⟩
            ·rw [if_neg c21] at H
             exact absurd H (by simp)
           ·rw [if_neg c20] at H
            exact absurd H (by simp)
          ·rw [if_neg c19] at H
           exact absurd H (by simp)
         ·rw [if_neg c17] at H
          exact absurd H (by simp)
        ·rw [if_neg c16] at H
         have c16b0 : decide (x9_2 < (t565.length : Int)) = false := decide_eq_false c16
         clear c16
         replace H := Option.bind_eq_some_iff.mp H
         obtain ⟨t576, A270, H⟩ := H
         replace H : (if t576 = 0 then (some (t562, x571001_2, 0)) else (some (0, ([] : List (S78)), t576))) = some (r1, r2, r3) := H
         have A27 := Aside0.mk A270
         clear A270
         by_cases c28 : t576 = 0
         ·rw [if_pos c28] at H
          have c28b0 : (t576 == 0) = true := beq_iff_eq.mpr c28
          have c28b1 : (t576 != 0) = false := bne_eq_false_iff_eq.mpr c28
          clear c28
          simp only [Option.some.injEq, Prod.mk.injEq] at H
          obtain ⟨rfl, rfl, rfl⟩ := H
          obtain ⟨Ao29, co29, eo29⟩ := Kd.R_slice HO_7.out
          subst eo29
          have hnb30 := NB570_561.out
          have hnc30 := NB561_570.out
          have hcz31_0 : wr.cell? ⟨gb570, 0, none⟩ = some (.int .i64 t562) := (blk_cell BK570.out 0).trans rfl
          have hcz31_1 : wr.cell? ⟨gb570, 1, none⟩ = some (u571001) := (blk_cell BK570.out 1).trans rfl
          have hfz31_0 := blk_frozen BK570.out 0
          have hfz31_1 := blk_frozen BK570.out 1
          obtain ⟨Ao32, co32, eo32⟩ := Kd.R_slice HO_571001.out
          subst eo32
          go_wp2_with (first | ((with_reducible refine gate_callee (f := 56) rfl ?_); refine goesL_ (some 67) rfl rfl Try.func56 (by kernel_rfl) rfl #[.agg #[.int .i64 t562, .slice Ao32 x571001_2.length co32]] rfl (by (try simp only [List.map_toArray, List.map_cons, List.map_nil]); first | done | rfl | (simp only [List.length_drop, List.length_take]; rfl)) ?_; (with_reducible refine (manifest_Check.calls k2 t562 _ _ x571001_2 t576 _ ?side1 ?side2 A27.out).mono ?_); (case side1 => repeat (first | exact (Kd.R_reads' HO_571001.out).2.2 | (with_reducible refine Kd.C_alloc ?_ _) | (with_reducible refine Kd.C_drewN ?_ _) | (with_reducible refine Kd.C_drew ?_))); (case side2 => exact (Kd.R_reads' HO_571001.out).2.1); rintro e w33 ⟨rfl, hb⟩; refine ⟨_, rfl, ?_⟩; have n0_ := Aside0.mk (Kd.R_below (by (with_reducible repeat (first | apply Kd.R_alloc | apply Kd.R_drewN | apply Kd.R_drew)); exact HO_7.out) hb); have n1_ := Aside0.mk (Kd.R_below (by (with_reducible repeat (first | apply Kd.R_alloc | apply Kd.R_drewN | apply Kd.R_drew)); exact HO_571001.out) hb); have n2_ := Aside0.mk (blk_below (g := gb561) (o := .cells #[.int .i64 0, .slice none 0 0] 32 (0, 0)) (by (with_reducible repeat (first | refine blk_drewN ?_ _ | refine blk_drew ?_ | refine blk_alloc ?_ _)); exact BK561.out) hb); have n3_ := Aside0.mk (blk_below (g := gb570) (o := .cells #[.int .i64 t562, .slice Ao32 x571001_2.length co32] 32 (0, 0)) (by (with_reducible repeat (first | refine blk_drewN ?_ _ | refine blk_drew ?_ | refine blk_alloc ?_ _)); exact BK570.out) hb); have n4_ := Aside0.mk (below_step (by repeat (first | (with_reducible first | exact HB.out | apply below_alloc | apply pw_below_drewN | apply below_drew1 | refine below_set ?_ GE561.out | refine below_set ?_ GE570.out) | exact HB.out)) hb); clear HO_7; clear HO_571001; clear BK561; clear BK570; clear HB; have HO_7 := n0_; have HO_571001 := n1_; have BK561 := n2_; have BK570 := n3_; have HB := n4_; clear n0_ n1_ n2_ n3_ n4_; (try clear hb); (try clear hb2); (try clear hk); (try clear hi); have hcz34_0 : w33.cell? ⟨gb570, 0, none⟩ = some (.int .i64 t562) := (blk_cell BK570.out 0).trans rfl; have hcz34_1 : w33.cell? ⟨gb570, 1, none⟩ = some (.slice Ao32 x571001_2.length co32) := (blk_cell BK570.out 1).trans rfl; have hfz34_0 := blk_frozen BK570.out 0; have hfz34_1 := blk_frozen BK570.out 1; have hcz35_0 : w33.cell? ⟨gb561, 0, none⟩ = some (.int .i64 0) := (blk_cell BK561.out 0).trans rfl; have hcz35_1 : w33.cell? ⟨gb561, 1, none⟩ = some (.slice none 0 0) := (blk_cell BK561.out 1).trans rfl; have hfz35_0 := blk_frozen BK561.out 0; have hfz35_1 := blk_frozen BK561.out 1))
          refine bodyPost_ret (results_ct rfl _ _ gb561 32 #[.int .i64 t562, .slice Ao32 x571001_2.length co32] (0, 0) _ rfl (by (with_reducible repeat (first | refine blk_drewN ?_ _ | refine blk_drew ?_ | refine blk_alloc ?_ _)); refine blk_put (cs := #[.int .i64 t562, .slice none 0 0]) ?_ 1 _ rfl; (with_reducible repeat (first | refine blk_drewN ?_ _ | refine blk_drew ?_ | refine blk_alloc ?_ _)); refine blk_put (cs := #[.int .i64 0, .slice none 0 0]) ?_ 0 _ rfl; (with_reducible repeat (first | refine blk_drewN ?_ _ | refine blk_drew ?_ | refine blk_alloc ?_ _)); exact BK561.out) Try.underlying32 rfl (by kernel_rfl)) rfl ?_
          exact ⟨_, by first | rfl | (simp [errW_none, errW_some] <;> rfl) | (simp [*, errW_none, errW_some] <;> rfl), by (with_reducible repeat (first | apply Kd.R_alloc | apply Kd.R_drewN | apply Kd.R_drew)); exact Kd.R_mono (Kd.R_far (p := ⟨gb561, 1, none⟩) (Kd.R_far (p := ⟨gb561, 0, none⟩) (Kd.R_types HO_571001.out BK561.out (by decide)) (fun _ hk => hk.2) (.int .i64 t562)) (fun _ hk => hk.2) (.slice Ao32 x571001_2.length co32)) (fun _ hk => trivial), by repeat (first | (with_reducible first | exact HB.out | apply below_alloc | apply pw_below_drewN | apply below_drew1 | refine below_set ?_ GE561.out | refine below_set ?_ GE570.out) | exact HB.out)⟩
         ·rw [if_neg c28] at H
          have c28b0 : (t576 == 0) = false := beq_eq_false_iff_ne.mpr c28
          have c28b1 : (t576 != 0) = true := bne_iff_ne.mpr c28
          simp only [Option.some.injEq, Prod.mk.injEq] at H
          obtain ⟨rfl, rfl, rfl⟩ := H
          obtain ⟨Ao36, co36, eo36⟩ := Kd.R_slice HO_7.out
          subst eo36
          have hnb37 := NB570_561.out
          have hnc37 := NB561_570.out
          have hcz38_0 : wr.cell? ⟨gb570, 0, none⟩ = some (.int .i64 t562) := (blk_cell BK570.out 0).trans rfl
          have hcz38_1 : wr.cell? ⟨gb570, 1, none⟩ = some (u571001) := (blk_cell BK570.out 1).trans rfl
          have hfz38_0 := blk_frozen BK570.out 0
          have hfz38_1 := blk_frozen BK570.out 1
          obtain ⟨Ao39, co39, eo39⟩ := Kd.R_slice HO_571001.out
          subst eo39
          go_wp2_with (first | ((with_reducible refine gate_callee (f := 56) rfl ?_); refine goesL_ (some 67) rfl rfl Try.func56 (by kernel_rfl) rfl #[.agg #[.int .i64 t562, .slice Ao39 x571001_2.length co39]] rfl (by (try simp only [List.map_toArray, List.map_cons, List.map_nil]); first | done | rfl | (simp only [List.length_drop, List.length_take]; rfl)) ?_; (with_reducible refine (manifest_Check.calls k2 t562 _ _ x571001_2 t576 _ ?side1 ?side2 A27.out).mono ?_); (case side1 => repeat (first | exact (Kd.R_reads' HO_571001.out).2.2 | (with_reducible refine Kd.C_alloc ?_ _) | (with_reducible refine Kd.C_drewN ?_ _) | (with_reducible refine Kd.C_drew ?_))); (case side2 => exact (Kd.R_reads' HO_571001.out).2.1); rintro e w40 ⟨rfl, hb⟩; refine ⟨_, rfl, ?_⟩; have n0_ := Aside0.mk (Kd.R_below (by (with_reducible repeat (first | apply Kd.R_alloc | apply Kd.R_drewN | apply Kd.R_drew)); exact HO_7.out) hb); have n1_ := Aside0.mk (Kd.R_below (by (with_reducible repeat (first | apply Kd.R_alloc | apply Kd.R_drewN | apply Kd.R_drew)); exact HO_571001.out) hb); have n2_ := Aside0.mk (blk_below (g := gb561) (o := .cells #[.int .i64 0, .slice none 0 0] 32 (0, 0)) (by (with_reducible repeat (first | refine blk_drewN ?_ _ | refine blk_drew ?_ | refine blk_alloc ?_ _)); exact BK561.out) hb); have n3_ := Aside0.mk (blk_below (g := gb570) (o := .cells #[.int .i64 t562, .slice Ao39 x571001_2.length co39] 32 (0, 0)) (by (with_reducible repeat (first | refine blk_drewN ?_ _ | refine blk_drew ?_ | refine blk_alloc ?_ _)); exact BK570.out) hb); have n4_ := Aside0.mk (below_step (by repeat (first | (with_reducible first | exact HB.out | apply below_alloc | apply pw_below_drewN | apply below_drew1 | refine below_set ?_ GE561.out | refine below_set ?_ GE570.out) | exact HB.out)) hb); clear HO_7; clear HO_571001; clear BK561; clear BK570; clear HB; have HO_7 := n0_; have HO_571001 := n1_; have BK561 := n2_; have BK570 := n3_; have HB := n4_; clear n0_ n1_ n2_ n3_ n4_; (try clear hb); (try clear hb2); (try clear hk); (try clear hi); have hcz41_0 : w40.cell? ⟨gb561, 0, none⟩ = some (.int .i64 0) := (blk_cell BK561.out 0).trans rfl; have hcz41_1 : w40.cell? ⟨gb561, 1, none⟩ = some (.slice none 0 0) := (blk_cell BK561.out 1).trans rfl; have hfz41_0 := blk_frozen BK561.out 0; have hfz41_1 := blk_frozen BK561.out 1))
          refine bodyPost_ret (results_ct rfl _ _ gb561 32 #[.int .i64 0, .slice none 0 0] (0, 0) _ rfl (by (with_reducible repeat (first | refine blk_drewN ?_ _ | refine blk_drew ?_ | refine blk_alloc ?_ _)); refine blk_put (cs := #[.int .i64 0, .slice none 0 0]) ?_ 1 _ rfl; (with_reducible repeat (first | refine blk_drewN ?_ _ | refine blk_drew ?_ | refine blk_alloc ?_ _)); refine blk_put (cs := #[.int .i64 0, .slice none 0 0]) ?_ 0 _ rfl; (with_reducible repeat (first | refine blk_drewN ?_ _ | refine blk_drew ?_ | refine blk_alloc ?_ _)); exact BK561.out) Try.underlying32 rfl (by kernel_rfl)) rfl ?_
          exact ⟨_, by first | rfl | (simp [errW_none, errW_some] <;> rfl) | (simp [*, errW_none, errW_some] <;> rfl), by first | exact Kd.R_nil _ _ _ _ _ | exact Kd.N_nil _ _ _ _ _ | exact Kd.V_nil _ _ _ _ _ | exact Kd.Q_nil _ _ _ _ _ | exact Kd.S_nil _ _ _ _ _, by repeat (first | (with_reducible first | exact HB.out | apply below_alloc | apply pw_below_drewN | apply below_drew1 | refine below_set ?_ GE561.out | refine below_set ?_ GE570.out) | exact HB.out)⟩
  ·rw [if_neg c5] at H
   have c5b0 : (t567 == 0) = false := beq_eq_false_iff_ne.mpr c5
   have c5b1 : (t567 != 0) = true := bne_iff_ne.mpr c5
   simp only [Option.some.injEq, Prod.mk.injEq] at H
   obtain ⟨rfl, rfl, rfl⟩ := H
   go_enter Try.func35, Try.ntmps35
   go_wp2_with (first | ((with_reducible refine gate_dst (N := 2) rfl ?_); (try (refine gate_guard (by rfl) ?_; dsimp only)); refine box_event ?hg (N := 2) ?hd (cs := #[.int .i64 0, .slice none 0 0]) (t := 32) ?hr ?_; (case hd => rfl); (case hg => rfl); (case hr => first | (go_simp; done) | (go_simp; rfl)); intro gb561 hg w42 hbox hb; have n0_ := Aside0.mk (below_step (by repeat (first | (with_reducible first | exact HB.out | apply below_alloc | apply pw_below_drewN | apply below_drew1) | exact HB.out)) hb); have n1_ := Aside0.mk (hbox); have n2_ := Aside0.mk ((by rw [hg]; exact (below_size (by repeat (first | (with_reducible first | exact HB.out | apply below_alloc | apply pw_below_drewN | apply below_drew1) | exact HB.out))) : w.heap.size ≤ gb561)); have n3_ := Aside0.mk ((by rw [hg]; exact (below_size (by repeat (first | (with_reducible first | exact HB.out | apply below_alloc | apply pw_below_drewN | apply below_drew1) | exact HB.out))) : w.heap.size ≤ gb561)); clear HB; have HB := n0_; have BK561 := n1_; have GW561 := n2_; have GE561 := n3_; clear n0_ n1_ n2_ n3_; clear hb hbox hg) | ((with_reducible refine gate_callee (f := 76) rfl ?_); refine goesL_ (some 13) rfl rfl Try.func76 (by kernel_rfl) rfl #[.string a0, .int .i64 0] rfl (by (try simp only [List.map_toArray, List.map_cons, List.map_nil]); first | done | rfl | (simp only [List.length_drop, List.length_take]; rfl)) ?_; (with_reducible refine (wire_Int.calls k a0 0 t562 t563 t564 _ A2.out).mono ?_); rintro e w' ⟨rfl, ⟨nd, rfl⟩⟩; refine ⟨_, rfl, ?_⟩; (try (rw [drewN_self w42]; generalize hq_ : World.drewN w42 _ = w42; have n0_ : Aside0 (w42.heap[gb561]? = some (.cells #[.int .i64 0, .slice none 0 0] 32 (0, 0))) := ⟨by rw [← hq_]; exact (by (with_reducible repeat (first | refine blk_drewN ?_ _ | refine blk_drew ?_ | refine blk_alloc ?_ _)); exact BK561.out)⟩; have n1_ : Aside0 (Below w.heap.size w w42) := ⟨by rw [← hq_]; exact (by repeat (first | (with_reducible first | exact HB.out | apply below_alloc | apply pw_below_drewN | apply below_drew1 | refine below_set ?_ GE561.out) | exact HB.out))⟩; clear BK561 HB hq_; have BK561 := n0_; have HB := n1_; clear n0_ n1_))) | ((with_reducible refine gate_callee (f := 77) rfl ?_); refine goesL_ (some 24) rfl rfl Try.func77 (by kernel_rfl) rfl #[.string a0, .int .i64 t563, .int .i64 512] rfl (by (try simp only [List.map_toArray, List.map_cons, List.map_nil]); first | done | rfl | (simp only [List.length_drop, List.length_take]; rfl)) ?_; (with_reducible refine (wire_List.calls k a0 t563 512 t565 t566 t567 _ A4.out).mono ?_); rintro e w43 ⟨v568, rfl, ho0, hb⟩; refine ⟨_, rfl, ?_⟩; have n0_ := Aside0.mk (Kd.R_lower ho0 (below_size (by repeat (first | (with_reducible first | exact HB.out | apply below_alloc | apply pw_below_drewN | apply below_drew1 | refine below_set ?_ GE561.out) | exact HB.out)))); have n1_ := Aside0.mk (blk_below (g := gb561) (o := .cells #[.int .i64 0, .slice none 0 0] 32 (0, 0)) (by (with_reducible repeat (first | refine blk_drewN ?_ _ | refine blk_drew ?_ | refine blk_alloc ?_ _)); exact BK561.out) hb); have n2_ := Aside0.mk (below_step (by repeat (first | (with_reducible first | exact HB.out | apply below_alloc | apply pw_below_drewN | apply below_drew1 | refine below_set ?_ GE561.out) | exact HB.out)) hb); clear BK561; clear HB; have HO569 := n0_; have BK561 := n1_; have HB := n2_; clear n0_ n1_ n2_; (try clear hb); (try clear hb2); (try clear hk); (try clear hi); (try clear ho0); have hcz44_0 : w43.cell? ⟨gb561, 0, none⟩ = some (.int .i64 0) := (blk_cell BK561.out 0).trans rfl; have hcz44_1 : w43.cell? ⟨gb561, 1, none⟩ = some (.slice none 0 0) := (blk_cell BK561.out 1).trans rfl; have hfz44_0 := blk_frozen BK561.out 0; have hfz44_1 := blk_frozen BK561.out 1))
   refine bodyPost_ret (results_ct rfl _ _ gb561 32 #[.int .i64 0, .slice none 0 0] (0, 0) _ rfl (by (with_reducible repeat (first | refine blk_drewN ?_ _ | refine blk_drew ?_ | refine blk_alloc ?_ _)); refine blk_put (cs := #[.int .i64 0, .slice none 0 0]) ?_ 1 _ rfl; (with_reducible repeat (first | refine blk_drewN ?_ _ | refine blk_drew ?_ | refine blk_alloc ?_ _)); refine blk_put (cs := #[.int .i64 0, .slice none 0 0]) ?_ 0 _ rfl; (with_reducible repeat (first | refine blk_drewN ?_ _ | refine blk_drew ?_ | refine blk_alloc ?_ _)); exact BK561.out) Try.underlying32 rfl (by kernel_rfl)) rfl ?_
   exact ⟨_, by first | rfl | (simp [errW_none, errW_some] <;> rfl) | (simp [*, errW_none, errW_some] <;> rfl), by first | exact Kd.R_nil _ _ _ _ _ | exact Kd.N_nil _ _ _ _ _ | exact Kd.V_nil _ _ _ _ _ | exact Kd.Q_nil _ _ _ _ _ | exact Kd.S_nil _ _ _ _ _, by repeat (first | (with_reducible first | exact HB.out | apply below_alloc | apply pw_below_drewN | apply below_drew1 | refine below_set ?_ GE561.out) | exact HB.out)⟩
 ·rw [if_neg c3] at H
  have c3b0 : (t564 == 0) = false := beq_eq_false_iff_ne.mpr c3
  have c3b1 : (t564 != 0) = true := bne_iff_ne.mpr c3
  simp only [Option.some.injEq, Prod.mk.injEq] at H
  obtain ⟨rfl, rfl, rfl⟩ := H
  go_enter Try.func35, Try.ntmps35
  go_wp2_with (first | ((with_reducible refine gate_dst (N := 2) rfl ?_); (try (refine gate_guard (by rfl) ?_; dsimp only)); refine box_event ?hg (N := 2) ?hd (cs := #[.int .i64 0, .slice none 0 0]) (t := 32) ?hr ?_; (case hd => rfl); (case hg => rfl); (case hr => first | (go_simp; done) | (go_simp; rfl)); intro gb561 hg w45 hbox hb; have n0_ := Aside0.mk (below_step (by repeat (first | (with_reducible first | exact HB.out | apply below_alloc | apply pw_below_drewN | apply below_drew1) | exact HB.out)) hb); have n1_ := Aside0.mk (hbox); have n2_ := Aside0.mk ((by rw [hg]; exact (below_size (by repeat (first | (with_reducible first | exact HB.out | apply below_alloc | apply pw_below_drewN | apply below_drew1) | exact HB.out))) : w.heap.size ≤ gb561)); have n3_ := Aside0.mk ((by rw [hg]; exact (below_size (by repeat (first | (with_reducible first | exact HB.out | apply below_alloc | apply pw_below_drewN | apply below_drew1) | exact HB.out))) : w.heap.size ≤ gb561)); clear HB; have HB := n0_; have BK561 := n1_; have GW561 := n2_; have GE561 := n3_; clear n0_ n1_ n2_ n3_; clear hb hbox hg) | ((with_reducible refine gate_callee (f := 76) rfl ?_); refine goesL_ (some 13) rfl rfl Try.func76 (by kernel_rfl) rfl #[.string a0, .int .i64 0] rfl (by (try simp only [List.map_toArray, List.map_cons, List.map_nil]); first | done | rfl | (simp only [List.length_drop, List.length_take]; rfl)) ?_; (with_reducible refine (wire_Int.calls k a0 0 t562 t563 t564 _ A2.out).mono ?_); rintro e w' ⟨rfl, ⟨nd, rfl⟩⟩; refine ⟨_, rfl, ?_⟩; (try (rw [drewN_self w45]; generalize hq_ : World.drewN w45 _ = w45; have n0_ : Aside0 (w45.heap[gb561]? = some (.cells #[.int .i64 0, .slice none 0 0] 32 (0, 0))) := ⟨by rw [← hq_]; exact (by (with_reducible repeat (first | refine blk_drewN ?_ _ | refine blk_drew ?_ | refine blk_alloc ?_ _)); exact BK561.out)⟩; have n1_ : Aside0 (Below w.heap.size w w45) := ⟨by rw [← hq_]; exact (by repeat (first | (with_reducible first | exact HB.out | apply below_alloc | apply pw_below_drewN | apply below_drew1 | refine below_set ?_ GE561.out) | exact HB.out))⟩; clear BK561 HB hq_; have BK561 := n0_; have HB := n1_; clear n0_ n1_)); have hcz46_0 : w45.cell? ⟨gb561, 0, none⟩ = some (.int .i64 0) := (blk_cell BK561.out 0).trans rfl; have hcz46_1 : w45.cell? ⟨gb561, 1, none⟩ = some (.slice none 0 0) := (blk_cell BK561.out 1).trans rfl; have hfz46_0 := blk_frozen BK561.out 0; have hfz46_1 := blk_frozen BK561.out 1))
  refine bodyPost_ret (results_ct rfl _ _ gb561 32 #[.int .i64 0, .slice none 0 0] (0, 0) _ rfl (by (with_reducible repeat (first | refine blk_drewN ?_ _ | refine blk_drew ?_ | refine blk_alloc ?_ _)); refine blk_put (cs := #[.int .i64 0, .slice none 0 0]) ?_ 1 _ rfl; (with_reducible repeat (first | refine blk_drewN ?_ _ | refine blk_drew ?_ | refine blk_alloc ?_ _)); refine blk_put (cs := #[.int .i64 0, .slice none 0 0]) ?_ 0 _ rfl; (with_reducible repeat (first | refine blk_drewN ?_ _ | refine blk_drew ?_ | refine blk_alloc ?_ _)); exact BK561.out) Try.underlying32 rfl (by kernel_rfl)) rfl ?_
  exact ⟨_, by first | rfl | (simp [errW_none, errW_some] <;> rfl) | (simp [*, errW_none, errW_some] <;> rfl), by first | exact Kd.R_nil _ _ _ _ _ | exact Kd.N_nil _ _ _ _ _ | exact Kd.V_nil _ _ _ _ _ | exact Kd.Q_nil _ _ _ _ _ | exact Kd.S_nil _ _ _ _ _, by repeat (first | (with_reducible first | exact HB.out | apply below_alloc | apply pw_below_drewN | apply below_drew1 | refine below_set ?_ GE561.out) | exact HB.out)⟩
end Go.Proofs.Ytodhkbahjomfhaa.Q

namespace Go.Proofs.Ytodhkbahjomfhaa.Q
open Go.RowKit Go.Proofs.YtodhkbahjomfhaaW.PrintWords Go.Proofs.YtodhkbahjomfhaaW.PrintLast Go.Proofs.YtodhkbahjomfhaaW.PrintMore Go.Proofs.Ytodhkbahjomfhaa.Gput Go.Proofs.Ytodhkbahjomfhaa.Gputl
attribute [local go_sem] max2_int min2_int max_two min_two max_three min_three max_four min_four   -- for this text's walks alone
set_option linter.unusedVariables false
set_option linter.unusedSimpArgs false
mutual
noncomputable def storagebarterref08_Decode.j0 : Nat → Int → List Int → Bool → Option (Int × (List (S78)) × Int)
 | 0, _, _, _ => none
 | k + 1, x4, x7, x42 => if x42 = true then (some (0, ([] : List (S78)), 2)) else (storagebarterref08_Decode.l0 k x7 0 x4 ([] : List (S78)))
noncomputable def storagebarterref08_Decode.l0 : Nat → List Int → Int → Int → List (S78) → Option (Int × (List (S78)) × Int)
 | 0, _, _, _, _ => none
 | k + 1, x7, x10, x596000, x596001 => if x10 < (x7.length : Int) then (if 0 ≤ x10 then (if 0 ≤ (wrap64 (x10 + 1)) then (if (wrap64 (x10 + 1)) < (x7.length : Int) then (if x596001.length < 8796093022208 then (storagebarterref08_Decode.l0 k x7 (wrap64 (x10 + 2)) x596000 (x596001 ++ [(⟨rd x7 x10, rd x7 (wrap64 (x10 + 1))⟩ : S78)])) else (none)) else (none)) else (none)) else (none)) else ((storagebarterref08_Check.f k x596000 x596001).bind fun t601 => (if t601 = 0 then (some (x596000, x596001, 0)) else (some (0, ([] : List (S78)), t601))))
end
noncomputable def storagebarterref08_Decode.f (k : Nat) (a0 : ByteArray) : Option (Int × (List (S78)) × Int) := (storagebarterref01_Int.f k a0 0).bind fun bt587 => (if bt587.2.2 = 0 then ((storagebarterref01_List.f k a0 bt587.2.1 512).bind fun bt590 => (if bt590.2.2 = 0 then (if bt590.2.1 = (a0.size : Int) then (storagebarterref08_Decode.j0 k bt587.1 bt590.1 (((bt590.1.length : Int) % 2) != 0)) else (storagebarterref08_Decode.j0 k bt587.1 bt590.1 true)) else (some (0, ([] : List (S78)), bt590.2.2)))) else (some (0, ([] : List (S78)), bt587.2.2)))
noncomputable def storagebarterref08_Decode.T13 : Bool × List (List Nat × List Nat) := (true, [([], []), ([0], [0]), ([], []), ([], []), ([2, 3], [2, 3]), ([4], [4]), ([], []), ([], []), ([7], [7]), ([6, 8], [6, 8]), ([9], [9]), ([5, 10], [5, 10]), ([11], [11]), ([1, 12], [1, 12]), ([0, 1, 2, 3, 4, 5, 6, 7, 8, 9, 10, 11, 12, 13], []), ([14, 13, 13, 0, 1, 2, 3, 4, 5, 6, 7, 8, 9, 10, 11, 12, 13], [13, 14])])
noncomputable def storagebarterref08_Decode.B13 : List Nat := [0, 1, 0, 0, 12, 28, 0, 0, 128, 448, 960, 2044, 4092, 8191, 16383, 32767]
theorem storagebarterref08_Decode.tab13 : rtab .any (opsOf Try.f36 13) = storagebarterref08_Decode.T13 := by kernel_rfl
theorem storagebarterref08_Decode.bits13 : waitsOk storagebarterref08_Decode.T13.2 storagebarterref08_Decode.B13 = true := by kernel_rfl
set_option maxHeartbeats 8000000 in
set_option maxRecDepth 100000 in
theorem storagebarterref08_Decode.calls (k : Nat) (a0 : ByteArray) (r1 : Int) (r2 : List (S78)) (r3 : Int) (w : World) (h : storagebarterref08_Decode.f k a0 = some (r1, r2, r3)) :
 Calls Try.prog 36 #[.string a0] w fun e w' => ∃ v1_ : Value, e = .returned (.tuple #[.agg #[.int .i64 r1, v1_], .int .i64 r3]) ∧ Kd.R k78 78 w' w.heap.size (fun _ => True) v1_ r2 ∧ Below w.heap.size w w' := by
 have hu32 := Try.underlying32
 have hu78 := Try.underlying78
 have HB := Aside0.mk (Below.refl w.heap.size w)
 have H : ((storagebarterref01_Int.f k a0 0).bind fun bt587 => (if bt587.2.2 = 0 then ((storagebarterref01_List.f k a0 bt587.2.1 512).bind fun bt590 => (if bt590.2.2 = 0 then (if bt590.2.1 = (a0.size : Int) then (storagebarterref08_Decode.j0 k bt587.1 bt590.1 (((bt590.1.length : Int) % 2) != 0)) else (storagebarterref08_Decode.j0 k bt587.1 bt590.1 true)) else (some (0, ([] : List (S78)), bt590.2.2)))) else (some (0, ([] : List (S78)), bt587.2.2)))) = some (r1, r2, r3) := h
 clear h
 replace H := Option.bind_eq_some_iff.mp H
 obtain ⟨⟨t587, t588, t589⟩, A20, H⟩ := H
 replace H : (if t589 = 0 then ((storagebarterref01_List.f k a0 t588 512).bind fun bt590 => (if bt590.2.2 = 0 then (if bt590.2.1 = (a0.size : Int) then (storagebarterref08_Decode.j0 k t587 bt590.1 (((bt590.1.length : Int) % 2) != 0)) else (storagebarterref08_Decode.j0 k t587 bt590.1 true)) else (some (0, ([] : List (S78)), bt590.2.2)))) else (some (0, ([] : List (S78)), t589))) = some (r1, r2, r3) := H
 have A2 := Aside0.mk A20
 clear A20
 by_cases c3 : t589 = 0
 ·rw [if_pos c3] at H
  have c3b0 : (t589 == 0) = true := beq_iff_eq.mpr c3
  have c3b1 : (t589 != 0) = false := bne_eq_false_iff_eq.mpr c3
  clear c3
  replace H := Option.bind_eq_some_iff.mp H
  obtain ⟨⟨t590, t591, t592⟩, A40, H⟩ := H
  replace H : (if t592 = 0 then (if t591 = (a0.size : Int) then (storagebarterref08_Decode.j0 k t587 t590 (((t590.length : Int) % 2) != 0)) else (storagebarterref08_Decode.j0 k t587 t590 true)) else (some (0, ([] : List (S78)), t592))) = some (r1, r2, r3) := H
  have A4 := Aside0.mk A40
  clear A40
  by_cases c5 : t592 = 0
  ·rw [if_pos c5] at H
   have c5b0 : (t592 == 0) = true := beq_iff_eq.mpr c5
   have c5b1 : (t592 != 0) = false := bne_eq_false_iff_eq.mpr c5
   clear c5
   have HC6 := Aside0.mk H
   clear H
   go_enter Try.func36, Try.ntmps36
   go_upto_region 7 with (first | ((with_reducible refine gate_dst (N := 2) rfl ?_); (try (refine gate_guard (by rfl) ?_; dsimp only)); refine box_event ?hg (N := 2) ?hd (cs := #[.int .i64 0, .slice none 0 0]) (t := 32) ?hr ?_; (case hd => rfl); (case hg => rfl); (case hr => first | (go_simp; done) | (go_simp; rfl)); intro gb586 hg w7 hbox hb; have n0_ := Aside0.mk (below_step (by repeat (first | (with_reducible first | exact HB.out | apply below_alloc | apply pw_below_drewN | apply below_drew1) | exact HB.out)) hb); have n1_ := Aside0.mk (hbox); have n2_ := Aside0.mk ((by rw [hg]; exact (below_size (by repeat (first | (with_reducible first | exact HB.out | apply below_alloc | apply pw_below_drewN | apply below_drew1) | exact HB.out))) : w.heap.size ≤ gb586)); have n3_ := Aside0.mk ((by rw [hg]; exact (below_size (by repeat (first | (with_reducible first | exact HB.out | apply below_alloc | apply pw_below_drewN | apply below_drew1) | exact HB.out))) : w.heap.size ≤ gb586)); clear HB; have HB := n0_; have BK586 := n1_; have GW586 := n2_; have GE586 := n3_; clear n0_ n1_ n2_ n3_; clear hb hbox hg) | ((with_reducible refine gate_callee (f := 78) rfl ?_); refine goesL_ (some 14) rfl rfl Try.func78 (by kernel_rfl) rfl #[.string a0, .int .i64 0] rfl (by (try simp only [List.map_toArray, List.map_cons, List.map_nil]); first | done | rfl | (simp only [List.length_drop, List.length_take]; rfl)) ?_; (with_reducible refine (storagebarterref01_Int.calls k a0 0 t587 t588 t589 _ A2.out).mono ?_); rintro e w' ⟨rfl, ⟨nd, rfl⟩⟩; refine ⟨_, rfl, ?_⟩; (try (rw [drewN_self w7]; generalize hq_ : World.drewN w7 _ = w7; have n0_ : Aside0 (w7.heap[gb586]? = some (.cells #[.int .i64 0, .slice none 0 0] 32 (0, 0))) := ⟨by rw [← hq_]; exact (by (with_reducible repeat (first | refine blk_drewN ?_ _ | refine blk_drew ?_ | refine blk_alloc ?_ _)); exact BK586.out)⟩; have n1_ : Aside0 (Below w.heap.size w w7) := ⟨by rw [← hq_]; exact (by repeat (first | (with_reducible first | exact HB.out | apply below_alloc | apply pw_below_drewN | apply below_drew1 | refine below_set ?_ GE586.out) | exact HB.out))⟩; clear BK586 HB hq_; have BK586 := n0_; have HB := n1_; clear n0_ n1_))) | ((with_reducible refine gate_callee (f := 79) rfl ?_); refine goesL_ (some 25) rfl rfl Try.func79 (by kernel_rfl) rfl #[.string a0, .int .i64 t588, .int .i64 512] rfl (by (try simp only [List.map_toArray, List.map_cons, List.map_nil]); first | done | rfl | (simp only [List.length_drop, List.length_take]; rfl)) ?_; (with_reducible refine (storagebarterref01_List.calls k a0 t588 512 t590 t591 t592 _ A4.out).mono ?_); rintro e w8 ⟨v593, rfl, ho0, hb⟩; refine ⟨_, rfl, ?_⟩; have n0_ := Aside0.mk (Kd.R_lower ho0 (below_size (by repeat (first | (with_reducible first | exact HB.out | apply below_alloc | apply pw_below_drewN | apply below_drew1 | refine below_set ?_ GE586.out) | exact HB.out)))); have n1_ := Aside0.mk (blk_below (g := gb586) (o := .cells #[.int .i64 0, .slice none 0 0] 32 (0, 0)) (by (with_reducible repeat (first | refine blk_drewN ?_ _ | refine blk_drew ?_ | refine blk_alloc ?_ _)); exact BK586.out) hb); have n2_ := Aside0.mk (below_step (by repeat (first | (with_reducible first | exact HB.out | apply below_alloc | apply pw_below_drewN | apply below_drew1 | refine below_set ?_ GE586.out) | exact HB.out)) hb); clear BK586; clear HB; have HO594 := n0_; have BK586 := n1_; have HB := n2_; clear n0_ n1_ n2_; (try clear hb); (try clear hb2); (try clear hk); (try clear hi); (try clear ho0)))
   (try simp only [Act.put, Sa, Sz, Ss])
   go_cut [42] (fun v42 wc => ∃ (kq : Nat) (x42_5 : Bool), v42 = .bool x42_5 ∧ Aside0 (storagebarterref08_Decode.j0 kq t587 t590 x42_5 = some (r1, r2, r3)) ∧ Aside0 (kq ≤ k) ∧ Aside0 (Kd.R (Kd.int .i64) 3 wc w.heap.size (fun _ => True) v593 t590) ∧ Aside0 (wc.heap[gb586]? = some (.cells #[.int .i64 0, (.slice none 0 0)] 32 (0, 0))) ∧ Aside0 (Below w.heap.size w wc))
   case first =>
    have H := HC6.out
    clear HC6
    by_cases c9 : t591 = (a0.size : Int)
    ·rw [if_pos c9] at H
     have c9b0 : (t591 == (a0.size : Int)) = true := beq_iff_eq.mpr c9
     have c9b1 : (t591 != (a0.size : Int)) = false := bne_eq_false_iff_eq.mpr c9
     clear c9
     (first | rw [c9b0] | (simp only [i64_w, i32_w]; rw [c9b0]) | skip)
     have H' := Aside0.mk H
     clear H
     obtain ⟨Ao10, co10, eo10⟩ := Kd.R_slice HO594.out
     subst eo10
     go_wp2
     go_meet
     case rel => exact ⟨_, ((((t590.length : Int) % 2) != 0)), (by first | rfl | (simp; done) | (simp [*]; done)), H', ⟨by first | omega | exact Nat.le_refl _⟩, ⟨by (with_reducible repeat (first | apply Kd.R_alloc | apply Kd.R_drewN | apply Kd.R_drew)); exact HO594.out⟩, ⟨by (with_reducible repeat (first | refine blk_drewN ?_ _ | refine blk_drew ?_ | refine blk_alloc ?_ _)); exact BK586.out⟩, ⟨by repeat (first | (with_reducible first | exact HB.out | apply below_alloc | apply pw_below_drewN | apply below_drew1 | refine below_set ?_ GE586.out) | exact HB.out)⟩⟩
    ·rw [if_neg c9] at H
     have c9b0 : (t591 == (a0.size : Int)) = false := beq_eq_false_iff_ne.mpr c9
     have c9b1 : (t591 != (a0.size : Int)) = true := bne_iff_ne.mpr c9
     (first | rw [c9b0] | (simp only [i64_w, i32_w]; rw [c9b0]) | skip)
     have H' := Aside0.mk H
     clear H
     go_wp2
     go_meet
     case rel => exact ⟨_, (true), (by first | rfl | (simp; done) | (simp [*]; done)), H', ⟨by first | omega | exact Nat.le_refl _⟩, ⟨by (with_reducible repeat (first | apply Kd.R_alloc | apply Kd.R_drewN | apply Kd.R_drew)); exact HO594.out⟩, ⟨by (with_reducible repeat (first | refine blk_drewN ?_ _ | refine blk_drew ?_ | refine blk_alloc ?_ _)); exact BK586.out⟩, ⟨by repeat (first | (with_reducible first | exact HB.out | apply below_alloc | apply pw_below_drewN | apply below_drew1 | refine below_set ?_ GE586.out) | exact HB.out)⟩⟩
   case rest =>
    clear HC6
    try clear p2
    try clear c3
    try clear c3b0
    try clear c3b1
    try clear c5
    try clear c5b0
    try clear c5b1
    try clear c7
    try clear c9
    try clear c9b0
    try clear c9b1
    obtain ⟨kq, x42_5, rfl, HA, HJ5, HO_7, BK586, HB⟩ := hcut
    cases kq with
    | zero => exact absurd HA.out (by simp [storagebarterref08_Decode.j0])
    | succ kj5 =>
     have H := HA.out
     clear HA
     simp only [storagebarterref08_Decode.j0] at H
     by_cases c11 : x42_5 = true
     ·subst c11
      have H1 : (some (0, ([] : List (S78)), 2)) = some (r1, r2, r3) := by rw [if_pos rfl] at H; exact H
      clear H
      have H := H1
      clear H1
      simp only [Option.some.injEq, Prod.mk.injEq] at H
      obtain ⟨rfl, rfl, rfl⟩ := H
      have hcz12_0 : wc.cell? ⟨gb586, 0, none⟩ = some (.int .i64 0) := (blk_cell BK586.out 0).trans rfl
      have hcz12_1 : wc.cell? ⟨gb586, 1, none⟩ = some (.slice none 0 0) := (blk_cell BK586.out 1).trans rfl
      have hfz12_0 := blk_frozen BK586.out 0
      have hfz12_1 := blk_frozen BK586.out 1
      go_wp2
      refine bodyPost_ret (results_ct rfl _ _ gb586 32 #[.int .i64 0, .slice none 0 0] (0, 0) _ rfl (by (with_reducible repeat (first | refine blk_drewN ?_ _ | refine blk_drew ?_ | refine blk_alloc ?_ _)); refine blk_put (cs := #[.int .i64 0, .slice none 0 0]) ?_ 1 _ rfl; (with_reducible repeat (first | refine blk_drewN ?_ _ | refine blk_drew ?_ | refine blk_alloc ?_ _)); refine blk_put (cs := #[.int .i64 0, .slice none 0 0]) ?_ 0 _ rfl; (with_reducible repeat (first | refine blk_drewN ?_ _ | refine blk_drew ?_ | refine blk_alloc ?_ _)); exact BK586.out) Try.underlying32 rfl (by kernel_rfl)) rfl ?_
      exact ⟨_, by first | rfl | (simp [errW_none, errW_some] <;> rfl) | (simp [*, errW_none, errW_some] <;> rfl), by first | exact Kd.R_nil _ _ _ _ _ | exact Kd.N_nil _ _ _ _ _ | exact Kd.V_nil _ _ _ _ _ | exact Kd.Q_nil _ _ _ _ _ | exact Kd.S_nil _ _ _ _ _, by repeat (first | (with_reducible first | exact HB.out | apply below_alloc | apply pw_below_drewN | apply below_drew1 | refine below_set ?_ GE586.out) | exact HB.out)⟩
     ·replace c11 := Bool.eq_false_iff.mpr c11
      subst c11
      have H1 : (storagebarterref08_Decode.l0 kj5 t590 0 t587 ([] : List (S78))) = some (r1, r2, r3) := by rw [if_neg (show ¬ (false = true) by decide)] at H; exact H
      clear H
      have H := H1
      clear H1
      have H' := Aside0.mk H
      clear H
      go_wp2_with (first | ((with_reducible refine gate_dst (N := 9) rfl ?_); (try (refine gate_guard (by rfl) ?_; dsimp only)); refine box_event ?hg (N := 9) ?hd (cs := #[.int .i64 0, .slice none 0 0]) (t := 32) ?hr ?_; (case hd => rfl); (case hg => rfl); (case hr => first | (go_simp; done) | (go_simp; rfl)); intro gb595 hg w13 hbox hb; have n0_ := Aside0.mk (Kd.R_below (by (with_reducible repeat (first | apply Kd.R_alloc | apply Kd.R_drewN | apply Kd.R_drew)); exact HO_7.out) hb); have n1_ := Aside0.mk (blk_below (g := gb586) (o := .cells #[.int .i64 0, .slice none 0 0] 32 (0, 0)) (by (with_reducible repeat (first | refine blk_drewN ?_ _ | refine blk_drew ?_ | refine blk_alloc ?_ _)); exact BK586.out) hb); have n2_ := Aside0.mk (below_step (by repeat (first | (with_reducible first | exact HB.out | apply below_alloc | apply pw_below_drewN | apply below_drew1 | refine below_set ?_ GE586.out) | exact HB.out)) hb); have n3_ := Aside0.mk (hbox); have n4_ := Aside0.mk ((by rw [hg]; exact (below_size (by repeat (first | (with_reducible first | exact HB.out | apply below_alloc | apply pw_below_drewN | apply below_drew1 | refine below_set ?_ GE586.out) | exact HB.out))) : w.heap.size ≤ gb595)); have n5_ := Aside0.mk ((by rw [hg]; exact (below_size (by repeat (first | (with_reducible first | exact HB.out | apply below_alloc | apply pw_below_drewN | apply below_drew1 | refine below_set ?_ GE586.out) | exact HB.out))) : w.heap.size ≤ gb595)); have n6_ := Aside0.mk ((by rw [hg]; exact Nat.ne_of_lt (blk_lt (g := gb586) (o := .cells #[.int .i64 0, .slice none 0 0] 32 (0, 0)) (by (with_reducible repeat (first | refine blk_drewN ?_ _ | refine blk_drew ?_ | refine blk_alloc ?_ _)); exact BK586.out)) : gb586 ≠ gb595)); have n7_ := Aside0.mk ((by rw [hg]; exact Nat.ne_of_gt (blk_lt (g := gb586) (o := .cells #[.int .i64 0, .slice none 0 0] 32 (0, 0)) (by (with_reducible repeat (first | refine blk_drewN ?_ _ | refine blk_drew ?_ | refine blk_alloc ?_ _)); exact BK586.out)) : gb595 ≠ gb586)); clear HO_7; clear BK586; clear HB; have HO_7 := n0_; have BK586 := n1_; have HB := n2_; have BK595 := n3_; have GW595 := n4_; have GE595 := n5_; have NB586_595 := n6_; have NB595_586 := n7_; clear n0_ n1_ n2_ n3_ n4_ n5_ n6_ n7_; clear hb hbox hg; have hnb14 := NB595_586.out; have hnc14 := NB586_595.out; have hcz15_0 : w13.cell? ⟨gb595, 0, none⟩ = some (.int .i64 0) := (blk_cell BK595.out 0).trans rfl; have hcz15_1 : w13.cell? ⟨gb595, 1, none⟩ = some (.slice none 0 0) := (blk_cell BK595.out 1).trans rfl; have hfz15_0 := blk_frozen BK595.out 0; have hfz15_1 := blk_frozen BK595.out 1))
      go_loopg [10] kj5 (fun kq v10 w' => ∃ (x10_2 : Int) (x596001_2 : List (S78)) (u596001 : Value), v10 = .int .i64 x10_2 ∧ Aside0 (storagebarterref08_Decode.l0 kq t590 x10_2 t587 x596001_2 = some (r1, r2, r3)) ∧ Aside0 (kq ≤ kj5) ∧ Aside0 (Kd.R (Kd.int .i64) 3 w' w.heap.size (fun _ => True) v593 t590) ∧ Aside0 (Kd.R k78 78 w' w.heap.size (fun _ => True) u596001 x596001_2) ∧ Aside0 (w'.heap[gb586]? = some (.cells #[.int .i64 0, (.slice none 0 0)] 32 (0, 0))) ∧ Aside0 (w'.heap[gb595]? = some (.cells #[.int .i64 t587, u596001] 32 (0, 0))) ∧ Aside0 (Below w.heap.size w w'))
      case atStart => exact ⟨(0), (([] : List (S78))), (.slice none 0 0), (by first | rfl | (simp; done) | (simp [*]; done)), H', ⟨Nat.le_refl _⟩, ⟨by (with_reducible repeat (first | apply Kd.R_alloc | apply Kd.R_drewN | apply Kd.R_drew)); exact Kd.R_mono (Kd.R_far (p := ⟨gb595, 1, none⟩) (Kd.R_far (p := ⟨gb595, 0, none⟩) (Kd.R_types HO_7.out BK595.out (by decide)) (fun _ hk => hk.2) (.int .i64 t587)) (fun _ hk => hk.2) (.slice none 0 0)) (fun _ hk => trivial)⟩, ⟨by first | exact Kd.R_nil _ _ _ _ _ | exact Kd.N_nil _ _ _ _ _ | exact Kd.V_nil _ _ _ _ _ | exact Kd.Q_nil _ _ _ _ _ | exact Kd.S_nil _ _ _ _ _⟩, ⟨by (with_reducible repeat (first | refine blk_drewN ?_ _ | refine blk_drew ?_ | refine blk_alloc ?_ _)); refine blk_far ?_ NB586_595.out _; (with_reducible repeat (first | refine blk_drewN ?_ _ | refine blk_drew ?_ | refine blk_alloc ?_ _)); refine blk_far ?_ NB586_595.out _; (with_reducible repeat (first | refine blk_drewN ?_ _ | refine blk_drew ?_ | refine blk_alloc ?_ _)); exact BK586.out⟩, ⟨by (with_reducible repeat (first | refine blk_drewN ?_ _ | refine blk_drew ?_ | refine blk_alloc ?_ _)); refine blk_put (cs := #[.int .i64 t587, .slice none 0 0]) ?_ 1 _ rfl; (with_reducible repeat (first | refine blk_drewN ?_ _ | refine blk_drew ?_ | refine blk_alloc ?_ _)); refine blk_put (cs := #[.int .i64 0, .slice none 0 0]) ?_ 0 _ rfl; (with_reducible repeat (first | refine blk_drewN ?_ _ | refine blk_drew ?_ | refine blk_alloc ?_ _)); exact BK595.out⟩, ⟨by repeat (first | (with_reducible first | exact HB.out | apply below_alloc | apply pw_below_drewN | apply below_drew1 | refine below_set ?_ GE586.out | refine below_set ?_ GE595.out) | exact HB.out)⟩⟩
      case round =>
       clear H'
       try clear c1
       try clear p2
       try clear c3
       try clear c3b0
       try clear c3b1
       try clear c5
       try clear c5b0
       try clear c5b1
       try clear c7
       try clear c9
       try clear c9b0
       try clear c9b1
       try clear c11
       try clear c14
       try clear hcz12_0
       try clear hcz12_1
       try clear hcz15_0
       try clear hcz15_1
       try clear hfz12_0
       try clear hfz12_1
       try clear hfz15_0
       try clear hfz15_1
       try clear p2
       obtain ⟨x10_2, x596001_2, u596001, rfl, HA, HK2, HO_7, HO_596001, BK586, BK595, HB⟩ := hrel
       cases gk with
       | zero => exact absurd HA.out (by simp [storagebarterref08_Decode.l0])
       | succ k2 =>
        have H := HA.out
        clear HA
        simp only [storagebarterref08_Decode.l0] at H
        by_cases c16 : x10_2 < (t590.length : Int)
        ·rw [if_pos c16] at H
         have c16b0 : decide (x10_2 < (t590.length : Int)) = true := decide_eq_true c16
         clear c16
         by_cases c17 : 0 ≤ x10_2
         ·rw [if_pos c17] at H
          have c17b0 : decide (0 ≤ x10_2) = true := decide_eq_true c17
          clear c17
          obtain ⟨ji18, hji18⟩ : ∃ j_ : Int, (wrap64 (x10_2 + 1)) = j_ := ⟨_, rfl⟩
          replace H : (if 0 ≤ (ji18) then (if (ji18) < (t590.length : Int) then (if x596001_2.length < 8796093022208 then (storagebarterref08_Decode.l0 k2 t590 (wrap64 (x10_2 + 2)) t587 (x596001_2 ++ [(⟨rd t590 x10_2, rd t590 (ji18)⟩ : S78)])) else (none)) else (none)) else (none)) = some (r1, r2, r3) := by first | (rw [hji18] at H; exact H) | (simp only [hji18] at H ⊢; exact H)
          have hji18w : (IntKind.i64.wrap (x10_2 + 1)) = ji18 := (i64_w _).trans hji18
          by_cases c19 : 0 ≤ (ji18)
          ·rw [if_pos c19] at H
           have c19b0 : decide (0 ≤ (ji18)) = true := decide_eq_true c19
           clear c19
           by_cases c20 : (ji18) < (t590.length : Int)
           ·rw [if_pos c20] at H
            have c20b0 : decide ((ji18) < (t590.length : Int)) = true := decide_eq_true c20
            clear c20
            by_cases c21 : x596001_2.length < 8796093022208
            ·rw [if_pos c21] at H
             have LMc21 := Aside0.mk c21
             clear c21
             obtain ⟨y598, hy598⟩ : ∃ y_ : List (S78), y_ = (x596001_2 ++ [(⟨rd t590 x10_2, rd t590 (ji18)⟩ : S78)]) := ⟨_, rfl⟩
             replace H : (storagebarterref08_Decode.l0 k2 t590 (wrap64 (x10_2 + 2)) t587 y598) = some (r1, r2, r3) := by first | (rw [hy598]; with_reducible exact H) | (have H2_ := (Option.bind_some _ _).symm.trans H; rw [hy598]; with_reducible exact H2_) | (have H2_ := (Option.bind_some _ _).symm.trans H; with_reducible exact H2_) | with_reducible exact H | (rw [hy598]; exact H) | exact H
             have Ny598 := Aside0.mk hy598
             clear hy598
             have H' := Aside0.mk H
             clear H
             obtain ⟨Ao22, co22, eo22⟩ := Kd.R_slice HO_7.out
             subst eo22
             try go_wp2
             have n0_ := Aside0.mk (Kd.R_drew HO_7.out)
             have n1_ := Aside0.mk (Kd.R_drew HO_596001.out)
             have n2_ := Aside0.mk (blk_drew BK586.out)
             have n3_ := Aside0.mk (blk_drew BK595.out)
             have n4_ := Aside0.mk (below_drew1 HB.out)
             clear HO_7
             clear HO_596001
             clear BK586
             clear BK595
             clear HB
             have HO_7 := n0_
             have HO_596001 := n1_
             have BK586 := n2_
             have BK595 := n3_
             have HB := n4_
             clear n0_ n1_ n2_ n3_ n4_
             have p596 : 0 ≤ (x10_2 : Int) := of_decide_eq_true (by first | (with_reducible assumption) | assumption)
             have q596 : x10_2 < (t590.length : Int) := of_decide_eq_true (by first | (with_reducible assumption) | assumption)
             obtain ⟨ad596, e596, hx596_0⟩ := Kd.at_int (Kd.R_reads' HO_7.out).2.2 x10_2 p596 q596
             cases e596
             replace p596 := eq_true p596
             replace q596 := eq_true q596
             have p597 : 0 ≤ ((ji18) : Int) := of_decide_eq_true (by first | (with_reducible assumption) | assumption)
             have q597 : (ji18) < (t590.length : Int) := of_decide_eq_true (by first | (with_reducible assumption) | assumption)
             obtain ⟨ad597, e597, hx597_0⟩ := Kd.at_int (Kd.R_reads' HO_7.out).2.2 (ji18) p597 q597
             obtain rfl : ad596 = ad597 := (by injection e597)
             replace p597 := eq_true p597
             replace q597 := eq_true q597
             refine start_ (n := 16) (S := fun w' => w'.cell? ⟨gb595, 0, none⟩ = some (.int .i64 t587) ∧ w'.cell? ⟨gb595, 1, none⟩ = some (u596001) ∧ w'.cell? (ad596.add (x10_2).toNat) = some (.int .i64 (rd t590 x10_2)) ∧ w'.cell? (ad596.add ((ji18)).toNat) = some (.int .i64 (rd t590 (ji18)))) (ds := [13, 15]) #[false, false, false, false, false, false, false, false, false, false, false, false, false, false, false, false] (by kernel_rfl) rfl rfl ⟨(blk_cell BK595.out 0).trans rfl, (blk_cell BK595.out 1).trans rfl, hx596_0, hx597_0⟩ (fun hHeld => ?_); refine with_tabW storagebarterref08_Decode.tab13 storagebarterref08_Decode.bits13 (fun HT_ HW_ => ?_)
             generalize wr.drew = w23 at HO_7 HO_596001 BK586 BK595 HB hx596_0 hx597_0 hHeld ⊢
             refine pu 0 52 (v := ?_) (a' := ?_) HT_ rfl rfl (by kernel_rfl) (fun _ _ _ h => h) (Or.inl ⟨by rfl, ?_⟩) ?_ ?_
             rotate_left; (intro w'; go_simp; with_reducible rfl); rotate_left; (simp only [Act.put, Sa, Sz, Ss, i64_w, i32_w]; rfl)
             refine pu 2 54 (v := ?_) (a' := ?_) HT_ rfl rfl (by kernel_rfl) (fun _ _ _ h => h) (Or.inl ⟨by rfl, ?_⟩) ?_ ?_
             rotate_left; (intro w'; go_simp; with_reducible rfl); rotate_left; (simp only [Act.put, Sa, Sz, Ss, i64_w, i32_w]; rfl)
             refine pu 3 55 (v := ?_) (a' := ?_) HT_ rfl rfl (by kernel_rfl) (fun _ _ _ h => h) (Or.inl ⟨by rfl, ?_⟩) ?_ ?_
             rotate_left; (intro w'; go_simp; with_reducible rfl); rotate_left; (simp only [Act.put, Sa, Sz, Ss, i64_w, i32_w]; rfl)
             refine pu 4 56 (v := ?_) (a' := ?_) HT_ rfl rfl (by kernel_rfl) (fun _ _ _ h => h) (Or.inl ⟨by rfl, ?_⟩) ?_ ?_
             rotate_left; (intro w'; go_simp; with_reducible rfl); rotate_left; (simp only [Act.put, Sa, Sz, Ss, i64_w, i32_w]; rfl)
             refine pu 6 58 (v := ?_) (a' := ?_) HT_ rfl rfl (by kernel_rfl) (fun _ _ _ h => h) (Or.inl ⟨by rfl, ?_⟩) ?_ ?_
             rotate_left; (intro w'; go_simp; with_reducible rfl); rotate_left; (simp only [Act.put, Sa, Sz, Ss, i64_w, i32_w]; rfl)
             refine pu 7 59 (v := ?_) (a' := ?_) HT_ rfl rfl (by kernel_rfl) (fun _ _ _ h => h) (Or.inl ⟨by rfl, ?_⟩) ?_ ?_
             rotate_left; (intro w'; go_simp; with_reducible rfl); rotate_left; (simp only [Act.put, Sa, Sz, Ss, i64_w, i32_w]; rfl)
             refine pu 8 60 (v := ?_) (a' := ?_) HT_ rfl rfl (by kernel_rfl) (fun _ _ _ h => h) (Or.inl ⟨by rfl, ?_⟩) ?_ ?_
             rotate_left; (intro w'; go_simp; with_reducible rfl); rotate_left; (simp only [Act.put, Sa, Sz, Ss, i64_w, i32_w]; rfl)
             refine pu 9 61 (v := ?_) (a' := ?_) HT_ rfl rfl (by kernel_rfl) (fun _ _ _ h => h) (Or.inl ⟨by rfl, ?_⟩) ?_ ?_
             rotate_left; (intro w'; go_simp; with_reducible rfl); rotate_left; (simp only [Act.put, Sa, Sz, Ss, i64_w, i32_w]; rfl)
             refine tk 1 53 (v := ?_) (a' := ?_) HT_ HW_ rfl rfl (by kernel_rfl) (fun _ _ _ h => h) (Or.inl ⟨by rfl, ?_⟩) hHeld ?_ ?_
             rotate_left; (rintro w' ⟨s0, s1, s2, s3⟩; go_simp; with_reducible rfl); rotate_left; (simp only [Act.put, Sa, Sz, Ss, i64_w, i32_w]; rfl)
             refine tk 5 57 (v := ?_) (a' := ?_) HT_ HW_ rfl rfl (by kernel_rfl) (fun _ _ _ h => h) (Or.inl ⟨by rfl, ?_⟩) hHeld ?_ ?_
             rotate_left; (rintro w' ⟨s0, s1, s2, s3⟩; go_simp; with_reducible rfl); rotate_left; (simp only [Act.put, Sa, Sz, Ss, i64_w, i32_w]; rfl)
             refine tk 10 62 (v := ?_) (a' := ?_) HT_ HW_ rfl rfl (by kernel_rfl) (fun _ _ _ h => h) (Or.inl ⟨by rfl, ?_⟩) hHeld ?_ ?_
             rotate_left; (rintro w' ⟨s0, s1, s2, s3⟩; go_simp; with_reducible rfl); rotate_left; (simp only [Act.put, Sa, Sz, Ss, i64_w, i32_w]; rfl)
             refine pu 11 63 (v := ?_) (a' := ?_) HT_ rfl rfl (by kernel_rfl) (fun _ _ _ h => h) (Or.inl ⟨by rfl, ?_⟩) ?_ ?_
             rotate_left; (intro w'; go_simp; with_reducible rfl); rotate_left; (simp only [Act.put, Sa, Sz, Ss, i64_w, i32_w]; rfl)
             refine one_ (i := 12) (N := some 64) #[true, true, true, true, true, true, true, true, true, true, true, true, true, false, false, false] rfl rfl (one_of HT_.out (by kernel_rfl)) (by decide) (fun K hK => ?_)
             refine value_ (w1 := ?_) (v := ?_) (by rfl) rfl ?_ ?_
             rotate_left 2
             ·go_simp
              constructor
              ·rfl
              ·rfl
             refine hK.out _ _ ⟨(blk_cell (blk_alloc BK595.out _) 0).trans rfl, (blk_cell (blk_alloc BK595.out _) 1).trans rfl, (World.cell?_alloc_lt _ _ _ (World.block_lt_of_cell? _ _ (hHeld.2.2.1))).trans (hHeld.2.2.1), (World.cell?_alloc_lt _ _ _ (World.block_lt_of_cell? _ _ (hHeld.2.2.2))).trans (hHeld.2.2.2)⟩ (fun hHeld => ?_)
             clear hK K
             refine norm_ (a' := ?_) ?_ ?_
             rotate_left
             ·show Act.put _ (some 64) _ = _
              simp only [Act.put, Sa, Sz, Ss, i64_w, i32_w]
              rfl
             refine last_ (i := 13) (N := some 65) #[true, true, true, true, true, true, true, true, true, true, true, true, true, true, false, false] rfl rfl (one_of HT_.out (by kernel_rfl)) (by decide) (fun K hK => ?_)
             refine Kd.R_append_step k78 (w0 := w) w.heap.size (by rfl) (.tmp 53) (.tmp 64) 30 78 (.agg #[(.int .i64 0), (.int .i64 0)]) 16 rfl Try.underlying30 info78 rfl (by decide) (by omega) u596001 x596001_2 (⟨rd t590 x10_2, rd t590 (ji18)⟩ : S78) [.int .i64 (rd t590 x10_2), .int .i64 (rd t590 (ji18))] (fun _ => True) (fun _ => False) rfl rfl ?aP (fun _ hk => hk.elim) ?aF ?aO ?aB ?aS ?aL ?_
             (case aP => exact k78_mkM _ _ _ (⟨rd t590 x10_2, rd t590 (ji18)⟩ : S78))
             (case aB => exact (by repeat (first | (with_reducible first | exact HB.out | apply below_alloc | apply pw_below_drewN | apply below_drew1 | refine below_set ?_ GE586.out | refine below_set ?_ GE595.out) | exact HB.out)))
             (case aF => exact (fun _ _ => trivial))
             (case aO => exact (by (with_reducible repeat (first | apply Kd.R_alloc | apply Kd.R_drewN | apply Kd.R_drew)); exact HO_596001.out))
             (case aS => exact (below_size (by repeat (first | (with_reducible first | exact HB.out | apply below_alloc | apply pw_below_drewN | apply below_drew1 | refine below_set ?_ GE586.out | refine below_set ?_ GE595.out) | exact HB.out))))
             (case aL => have := LMc21.out; omega)
             intro v599 w24 ho hb hg hat
             rw [← Ny598.out] at ho
             have n0_ := Aside0.mk (Kd.R_over' (by (with_reducible repeat (first | apply Kd.R_alloc | apply Kd.R_drewN | apply Kd.R_drew)); exact HO_7.out) (Kd.R_typed (by (with_reducible repeat (first | apply Kd.R_alloc | apply Kd.R_drewN | apply Kd.R_drew)); exact HO_596001.out)) (by decide) hg)
             have n1_ := Aside0.mk (blk_grown (g := gb586) (o := .cells #[.int .i64 0, .slice none 0 0] 32 (0, 0)) (by (with_reducible repeat (first | refine blk_drewN ?_ _ | refine blk_drew ?_ | refine blk_alloc ?_ _)); exact BK586.out) hg (Kd.R_ne HO_596001.out BK586.out (by decide)))
             have n2_ := Aside0.mk (blk_grown (g := gb595) (o := .cells #[.int .i64 t587, u596001] 32 (0, 0)) (by (with_reducible repeat (first | refine blk_drewN ?_ _ | refine blk_drew ?_ | refine blk_alloc ?_ _)); exact BK595.out) hg (Kd.R_ne HO_596001.out BK595.out (by decide)))
             have n3_ := Aside0.mk (hb)
             have n4_ := Aside0.mk (ho)
             clear HO_7
             clear BK586
             clear BK595
             clear HB
             clear HO_596001
             have HO_7 := n0_
             have BK586 := n1_
             have BK595 := n2_
             have HB := n3_
             have HO600 := n4_
             clear n0_ n1_ n2_ n3_ n4_
             clear ho hb hg hat
             obtain ⟨Ao25, co25, eo25⟩ := Kd.R_slice HO600.out
             (first | subst eo25 | (injection eo25 with f1_ f2_ f3_; have f4_ := f1_.symm; have f5_ := f3_.symm; clear f1_ f2_ f3_; subst f4_; subst f5_))
             refine hK.out _ _ ?_
             clear hK K
             refine norm_ (a' := ?_) ?_ ?_
             rotate_left
             ·show Act.put _ (some 65) _ = _
              simp only [Act.put, Sa, Sz, Ss, i64_w, i32_w]
              rfl
             refine pu 14 66 (v := ?_) (a' := ?_) HT_ rfl rfl (by kernel_rfl) (fun _ _ _ h => h) (Or.inl ⟨by rfl, ?_⟩) ?_ ?_
             rotate_left; (intro w'; go_simp; with_reducible rfl); rotate_left; (simp only [Act.put, Sa, Sz, Ss, i64_w, i32_w]; rfl)
             refine last_ (i := 15) (N := none) #[true, true, true, true, true, true, true, true, true, true, true, true, true, true, true, true] rfl rfl (one_of HT_.out (by kernel_rfl)) (by decide) (fun K hK => ?_)
             have hs26 : w24.cell? ⟨gb595, 1, none⟩ = some (u596001) := (blk_cell BK595.out 1).trans rfl
             have hfs26 := blk_frozen BK595.out 1
             have hns26_0 := NB586_595.out
             have hms26_0 := NB595_586.out
             refine skip_ (w1 := ?_) (by rfl) rfl ?_ ?_
             rotate_left
             ·go_simp
              rfl
             refine hK.out _ _ ?_
             clear hK K
             refine done_ (done_of HT_.out (by kernel_rfl)) ?_
             try go_wp2
             go_roundg k2
             case measure => have := HJ5.out; have := HK2.out; omega
             case rel => exact ⟨(wrap64 (x10_2 + 2)), (y598), (.slice Ao25 y598.length co25), (by first | rfl | (simp; done) | (simp [*]; done)), H', ⟨by have := HJ5.out; have := HK2.out; omega⟩, ⟨by (with_reducible repeat (first | apply Kd.R_alloc | apply Kd.R_drewN | apply Kd.R_drew)); exact Kd.R_mono (Kd.R_far (p := ⟨gb595, 1, none⟩) (Kd.R_types HO_7.out BK595.out (by decide)) (fun _ hk => hk.2) (.slice Ao25 y598.length co25)) (fun _ hk => trivial)⟩, ⟨by (with_reducible repeat (first | apply Kd.R_alloc | apply Kd.R_drewN | apply Kd.R_drew)); exact Kd.R_mono (Kd.R_far (p := ⟨gb595, 1, none⟩) (Kd.R_types HO600.out BK595.out (by decide)) (fun _ hk => hk.2) (.slice Ao25 y598.length co25)) (fun _ hk => trivial)⟩, ⟨by (with_reducible repeat (first | refine blk_drewN ?_ _ | refine blk_drew ?_ | refine blk_alloc ?_ _)); refine blk_far ?_ NB586_595.out _; (with_reducible repeat (first | refine blk_drewN ?_ _ | refine blk_drew ?_ | refine blk_alloc ?_ _)); exact BK586.out⟩, ⟨by (with_reducible repeat (first | refine blk_drewN ?_ _ | refine blk_drew ?_ | refine blk_alloc ?_ _)); refine blk_put (cs := #[.int .i64 t587, u596001]) ?_ 1 _ rfl; (with_reducible repeat (first | refine blk_drewN ?_ _ | refine blk_drew ?_ | refine blk_alloc ?_ _)); exact BK595.out⟩, ⟨by repeat (first | (with_reducible first | exact HB.out | apply below_alloc | apply pw_below_drewN | apply below_drew1 | refine below_set ?_ GE586.out | refine below_set ?_ GE595.out) | exact HB.out)⟩⟩
            ·rw [if_neg c21] at H
             exact absurd H (by simp)
           ·rw [if_neg c20] at H
            exact absurd H (by simp)
          ·rw [if_neg c19] at H
           exact absurd H (by simp)
         ·rw [if_neg c17] at H
          exact absurd H (by simp)
        ·rw [if_neg c16] at H
         have c16b0 : decide (x10_2 < (t590.length : Int)) = false := decide_eq_false c16
         clear c16
         replace H := Option.bind_eq_some_iff.mp H
         obtain ⟨t601, A270, H⟩ := H
         replace H : (if t601 = 0 then (some (t587, x596001_2, 0)) else (some (0, ([] : List (S78)), t601))) = some (r1, r2, r3) := H
         have A27 := Aside0.mk A270
         clear A270
         by_cases c28 : t601 = 0
         ·rw [if_pos c28] at H
          have c28b0 : (t601 == 0) = true := beq_iff_eq.mpr c28
          have c28b1 : (t601 != 0) = false := bne_eq_false_iff_eq.mpr c28
          clear c28
          simp only [Option.some.injEq, Prod.mk.injEq] at H
          obtain ⟨rfl, rfl, rfl⟩ := H
          obtain ⟨Ao29, co29, eo29⟩ := Kd.R_slice HO_7.out
          subst eo29
          have hnb30 := NB595_586.out
          have hnc30 := NB586_595.out
          have hcz31_0 : wr.cell? ⟨gb595, 0, none⟩ = some (.int .i64 t587) := (blk_cell BK595.out 0).trans rfl
          have hcz31_1 : wr.cell? ⟨gb595, 1, none⟩ = some (u596001) := (blk_cell BK595.out 1).trans rfl
          have hfz31_0 := blk_frozen BK595.out 0
          have hfz31_1 := blk_frozen BK595.out 1
          obtain ⟨Ao32, co32, eo32⟩ := Kd.R_slice HO_596001.out
          subst eo32
          go_wp2_with (first | ((with_reducible refine gate_callee (f := 57) rfl ?_); refine goesL_ (some 68) rfl rfl Try.func57 (by kernel_rfl) rfl #[.agg #[.int .i64 t587, .slice Ao32 x596001_2.length co32]] rfl (by (try simp only [List.map_toArray, List.map_cons, List.map_nil]); first | done | rfl | (simp only [List.length_drop, List.length_take]; rfl)) ?_; (with_reducible refine (storagebarterref08_Check.calls k2 t587 _ _ x596001_2 t601 _ ?side1 ?side2 A27.out).mono ?_); (case side1 => repeat (first | exact (Kd.R_reads' HO_596001.out).2.2 | (with_reducible refine Kd.C_alloc ?_ _) | (with_reducible refine Kd.C_drewN ?_ _) | (with_reducible refine Kd.C_drew ?_))); (case side2 => exact (Kd.R_reads' HO_596001.out).2.1); rintro e w33 ⟨rfl, hb⟩; refine ⟨_, rfl, ?_⟩; have n0_ := Aside0.mk (Kd.R_below (by (with_reducible repeat (first | apply Kd.R_alloc | apply Kd.R_drewN | apply Kd.R_drew)); exact HO_7.out) hb); have n1_ := Aside0.mk (Kd.R_below (by (with_reducible repeat (first | apply Kd.R_alloc | apply Kd.R_drewN | apply Kd.R_drew)); exact HO_596001.out) hb); have n2_ := Aside0.mk (blk_below (g := gb586) (o := .cells #[.int .i64 0, .slice none 0 0] 32 (0, 0)) (by (with_reducible repeat (first | refine blk_drewN ?_ _ | refine blk_drew ?_ | refine blk_alloc ?_ _)); exact BK586.out) hb); have n3_ := Aside0.mk (blk_below (g := gb595) (o := .cells #[.int .i64 t587, .slice Ao32 x596001_2.length co32] 32 (0, 0)) (by (with_reducible repeat (first | refine blk_drewN ?_ _ | refine blk_drew ?_ | refine blk_alloc ?_ _)); exact BK595.out) hb); have n4_ := Aside0.mk (below_step (by repeat (first | (with_reducible first | exact HB.out | apply below_alloc | apply pw_below_drewN | apply below_drew1 | refine below_set ?_ GE586.out | refine below_set ?_ GE595.out) | exact HB.out)) hb); clear HO_7; clear HO_596001; clear BK586; clear BK595; clear HB; have HO_7 := n0_; have HO_596001 := n1_; have BK586 := n2_; have BK595 := n3_; have HB := n4_; clear n0_ n1_ n2_ n3_ n4_; (try clear hb); (try clear hb2); (try clear hk); (try clear hi); have hcz34_0 : w33.cell? ⟨gb595, 0, none⟩ = some (.int .i64 t587) := (blk_cell BK595.out 0).trans rfl; have hcz34_1 : w33.cell? ⟨gb595, 1, none⟩ = some (.slice Ao32 x596001_2.length co32) := (blk_cell BK595.out 1).trans rfl; have hfz34_0 := blk_frozen BK595.out 0; have hfz34_1 := blk_frozen BK595.out 1; have hcz35_0 : w33.cell? ⟨gb586, 0, none⟩ = some (.int .i64 0) := (blk_cell BK586.out 0).trans rfl; have hcz35_1 : w33.cell? ⟨gb586, 1, none⟩ = some (.slice none 0 0) := (blk_cell BK586.out 1).trans rfl; have hfz35_0 := blk_frozen BK586.out 0; have hfz35_1 := blk_frozen BK586.out 1))
          refine bodyPost_ret (results_ct rfl _ _ gb586 32 #[.int .i64 t587, .slice Ao32 x596001_2.length co32] (0, 0) _ rfl (by (with_reducible repeat (first | refine blk_drewN ?_ _ | refine blk_drew ?_ | refine blk_alloc ?_ _)); refine blk_put (cs := #[.int .i64 t587, .slice none 0 0]) ?_ 1 _ rfl; (with_reducible repeat (first | refine blk_drewN ?_ _ | refine blk_drew ?_ | refine blk_alloc ?_ _)); refine blk_put (cs := #[.int .i64 0, .slice none 0 0]) ?_ 0 _ rfl; (with_reducible repeat (first | refine blk_drewN ?_ _ | refine blk_drew ?_ | refine blk_alloc ?_ _)); exact BK586.out) Try.underlying32 rfl (by kernel_rfl)) rfl ?_
          exact ⟨_, by first | rfl | (simp [errW_none, errW_some] <;> rfl) | (simp [*, errW_none, errW_some] <;> rfl), by (with_reducible repeat (first | apply Kd.R_alloc | apply Kd.R_drewN | apply Kd.R_drew)); exact Kd.R_mono (Kd.R_far (p := ⟨gb586, 1, none⟩) (Kd.R_far (p := ⟨gb586, 0, none⟩) (Kd.R_types HO_596001.out BK586.out (by decide)) (fun _ hk => hk.2) (.int .i64 t587)) (fun _ hk => hk.2) (.slice Ao32 x596001_2.length co32)) (fun _ hk => trivial), by repeat (first | (with_reducible first | exact HB.out | apply below_alloc | apply pw_below_drewN | apply below_drew1 | refine below_set ?_ GE586.out | refine below_set ?_ GE595.out) | exact HB.out)⟩
         ·rw [if_neg c28] at H
          have c28b0 : (t601 == 0) = false := beq_eq_false_iff_ne.mpr c28
          have c28b1 : (t601 != 0) = true := bne_iff_ne.mpr c28
          simp only [Option.some.injEq, Prod.mk.injEq] at H
          obtain ⟨rfl, rfl, rfl⟩ := H
          obtain ⟨Ao36, co36, eo36⟩ := Kd.R_slice HO_7.out
          subst eo36
          have hnb37 := NB595_586.out
          have hnc37 := NB586_595.out
          have hcz38_0 : wr.cell? ⟨gb595, 0, none⟩ = some (.int .i64 t587) := (blk_cell BK595.out 0).trans rfl
          have hcz38_1 : wr.cell? ⟨gb595, 1, none⟩ = some (u596001) := (blk_cell BK595.out 1).trans rfl
          have hfz38_0 := blk_frozen BK595.out 0
          have hfz38_1 := blk_frozen BK595.out 1
          obtain ⟨Ao39, co39, eo39⟩ := Kd.R_slice HO_596001.out
          subst eo39
          go_wp2_with (first | ((with_reducible refine gate_callee (f := 57) rfl ?_); refine goesL_ (some 68) rfl rfl Try.func57 (by kernel_rfl) rfl #[.agg #[.int .i64 t587, .slice Ao39 x596001_2.length co39]] rfl (by (try simp only [List.map_toArray, List.map_cons, List.map_nil]); first | done | rfl | (simp only [List.length_drop, List.length_take]; rfl)) ?_; (with_reducible refine (storagebarterref08_Check.calls k2 t587 _ _ x596001_2 t601 _ ?side1 ?side2 A27.out).mono ?_); (case side1 => repeat (first | exact (Kd.R_reads' HO_596001.out).2.2 | (with_reducible refine Kd.C_alloc ?_ _) | (with_reducible refine Kd.C_drewN ?_ _) | (with_reducible refine Kd.C_drew ?_))); (case side2 => exact (Kd.R_reads' HO_596001.out).2.1); rintro e w40 ⟨rfl, hb⟩; refine ⟨_, rfl, ?_⟩; have n0_ := Aside0.mk (Kd.R_below (by (with_reducible repeat (first | apply Kd.R_alloc | apply Kd.R_drewN | apply Kd.R_drew)); exact HO_7.out) hb); have n1_ := Aside0.mk (Kd.R_below (by (with_reducible repeat (first | apply Kd.R_alloc | apply Kd.R_drewN | apply Kd.R_drew)); exact HO_596001.out) hb); have n2_ := Aside0.mk (blk_below (g := gb586) (o := .cells #[.int .i64 0, .slice none 0 0] 32 (0, 0)) (by (with_reducible repeat (first | refine blk_drewN ?_ _ | refine blk_drew ?_ | refine blk_alloc ?_ _)); exact BK586.out) hb); have n3_ := Aside0.mk (blk_below (g := gb595) (o := .cells #[.int .i64 t587, .slice Ao39 x596001_2.length co39] 32 (0, 0)) (by (with_reducible repeat (first | refine blk_drewN ?_ _ | refine blk_drew ?_ | refine blk_alloc ?_ _)); exact BK595.out) hb); have n4_ := Aside0.mk (below_step (by repeat (first | (with_reducible first | exact HB.out | apply below_alloc | apply pw_below_drewN | apply below_drew1 | refine below_set ?_ GE586.out | refine below_set ?_ GE595.out) | exact HB.out)) hb); clear HO_7; clear HO_596001; clear BK586; clear BK595; clear HB; have HO_7 := n0_; have HO_596001 := n1_; have BK586 := n2_; have BK595 := n3_; have HB := n4_; clear n0_ n1_ n2_ n3_ n4_; (try clear hb); (try clear hb2); (try clear hk); (try clear hi); have hcz41_0 : w40.cell? ⟨gb586, 0, none⟩ = some (.int .i64 0) := (blk_cell BK586.out 0).trans rfl; have hcz41_1 : w40.cell? ⟨gb586, 1, none⟩ = some (.slice none 0 0) := (blk_cell BK586.out 1).trans rfl; have hfz41_0 := blk_frozen BK586.out 0; have hfz41_1 := blk_frozen BK586.out 1))
          refine bodyPost_ret (results_ct rfl _ _ gb586 32 #[.int .i64 0, .slice none 0 0] (0, 0) _ rfl (by (with_reducible repeat (first | refine blk_drewN ?_ _ | refine blk_drew ?_ | refine blk_alloc ?_ _)); refine blk_put (cs := #[.int .i64 0, .slice none 0 0]) ?_ 1 _ rfl; (with_reducible repeat (first | refine blk_drewN ?_ _ | refine blk_drew ?_ | refine blk_alloc ?_ _)); refine blk_put (cs := #[.int .i64 0, .slice none 0 0]) ?_ 0 _ rfl; (with_reducible repeat (first | refine blk_drewN ?_ _ | refine blk_drew ?_ | refine blk_alloc ?_ _)); exact BK586.out) Try.underlying32 rfl (by kernel_rfl)) rfl ?_
          exact ⟨_, by first | rfl | (simp [errW_none, errW_some] <;> rfl) | (simp [*, errW_none, errW_some] <;> rfl), by first | exact Kd.R_nil _ _ _ _ _ | exact Kd.N_nil _ _ _ _ _ | exact Kd.V_nil _ _ _ _ _ | exact Kd.Q_nil _ _ _ _ _ | exact Kd.S_nil _ _ _ _ _, by repeat (first | (with_reducible first | exact HB.out | apply below_alloc | apply pw_below_drewN | apply below_drew1 | refine below_set ?_ GE586.out | refine below_set ?_ GE595.out) | exact HB.out)⟩
  ·rw [if_neg c5] at H
   have c5b0 : (t592 == 0) = false := beq_eq_false_iff_ne.mpr c5
   have c5b1 : (t592 != 0) = true := bne_iff_ne.mpr c5
   simp only [Option.some.injEq, Prod.mk.injEq] at H
   obtain ⟨rfl, rfl, rfl⟩ := H
   go_enter Try.func36, Try.ntmps36
   go_wp2_with (first | ((with_reducible refine gate_dst (N := 2) rfl ?_); (try (refine gate_guard (by rfl) ?_; dsimp only)); refine box_event ?hg (N := 2) ?hd (cs := #[.int .i64 0, .slice none 0 0]) (t := 32) ?hr ?_; (case hd => rfl); (case hg => rfl); (case hr => first | (go_simp; done) | (go_simp; rfl)); intro gb586 hg w42 hbox hb; have n0_ := Aside0.mk (below_step (by repeat (first | (with_reducible first | exact HB.out | apply below_alloc | apply pw_below_drewN | apply below_drew1) | exact HB.out)) hb); have n1_ := Aside0.mk (hbox); have n2_ := Aside0.mk ((by rw [hg]; exact (below_size (by repeat (first | (with_reducible first | exact HB.out | apply below_alloc | apply pw_below_drewN | apply below_drew1) | exact HB.out))) : w.heap.size ≤ gb586)); have n3_ := Aside0.mk ((by rw [hg]; exact (below_size (by repeat (first | (with_reducible first | exact HB.out | apply below_alloc | apply pw_below_drewN | apply below_drew1) | exact HB.out))) : w.heap.size ≤ gb586)); clear HB; have HB := n0_; have BK586 := n1_; have GW586 := n2_; have GE586 := n3_; clear n0_ n1_ n2_ n3_; clear hb hbox hg) | ((with_reducible refine gate_callee (f := 78) rfl ?_); refine goesL_ (some 14) rfl rfl Try.func78 (by kernel_rfl) rfl #[.string a0, .int .i64 0] rfl (by (try simp only [List.map_toArray, List.map_cons, List.map_nil]); first | done | rfl | (simp only [List.length_drop, List.length_take]; rfl)) ?_; (with_reducible refine (storagebarterref01_Int.calls k a0 0 t587 t588 t589 _ A2.out).mono ?_); rintro e w' ⟨rfl, ⟨nd, rfl⟩⟩; refine ⟨_, rfl, ?_⟩; (try (rw [drewN_self w42]; generalize hq_ : World.drewN w42 _ = w42; have n0_ : Aside0 (w42.heap[gb586]? = some (.cells #[.int .i64 0, .slice none 0 0] 32 (0, 0))) := ⟨by rw [← hq_]; exact (by (with_reducible repeat (first | refine blk_drewN ?_ _ | refine blk_drew ?_ | refine blk_alloc ?_ _)); exact BK586.out)⟩; have n1_ : Aside0 (Below w.heap.size w w42) := ⟨by rw [← hq_]; exact (by repeat (first | (with_reducible first | exact HB.out | apply below_alloc | apply pw_below_drewN | apply below_drew1 | refine below_set ?_ GE586.out) | exact HB.out))⟩; clear BK586 HB hq_; have BK586 := n0_; have HB := n1_; clear n0_ n1_))) | ((with_reducible refine gate_callee (f := 79) rfl ?_); refine goesL_ (some 25) rfl rfl Try.func79 (by kernel_rfl) rfl #[.string a0, .int .i64 t588, .int .i64 512] rfl (by (try simp only [List.map_toArray, List.map_cons, List.map_nil]); first | done | rfl | (simp only [List.length_drop, List.length_take]; rfl)) ?_; (with_reducible refine (storagebarterref01_List.calls k a0 t588 512 t590 t591 t592 _ A4.out).mono ?_); rintro e w43 ⟨v593, rfl, ho0, hb⟩; refine ⟨_, rfl, ?_⟩; have n0_ := Aside0.mk (Kd.R_lower ho0 (below_size (by repeat (first | (with_reducible first | exact HB.out | apply below_alloc | apply pw_below_drewN | apply below_drew1 | refine below_set ?_ GE586.out) | exact HB.out)))); have n1_ := Aside0.mk (blk_below (g := gb586) (o := .cells #[.int .i64 0, .slice none 0 0] 32 (0, 0)) (by (with_reducible repeat (first | refine blk_drewN ?_ _ | refine blk_drew ?_ | refine blk_alloc ?_ _)); exact BK586.out) hb); have n2_ := Aside0.mk (below_step (by repeat (first | (with_reducible first | exact HB.out | apply below_alloc | apply pw_below_drewN | apply below_drew1 | refine below_set ?_ GE586.out) | exact HB.out)) hb); clear BK586; clear HB; have HO594 := n0_; have BK586 := n1_; have HB := n2_; clear n0_ n1_ n2_; (try clear hb); (try clear hb2); (try clear hk); (try clear hi); (try clear ho0); have hcz44_0 : w43.cell? ⟨gb586, 0, none⟩ = some (.int .i64 0) := (blk_cell BK586.out 0).trans rfl; have hcz44_1 : w43.cell? ⟨gb586, 1, none⟩ = some (.slice none 0 0) := (blk_cell BK586.out 1).trans rfl; have hfz44_0 := blk_frozen BK586.out 0; have hfz44_1 := blk_frozen BK586.out 1))
   refine bodyPost_ret (results_ct rfl _ _ gb586 32 #[.int .i64 0, .slice none 0 0] (0, 0) _ rfl (by (with_reducible repeat (first | refine blk_drewN ?_ _ | refine blk_drew ?_ | refine blk_alloc ?_ _)); refine blk_put (cs := #[.int .i64 0, .slice none 0 0]) ?_ 1 _ rfl; (with_reducible repeat (first | refine blk_drewN ?_ _ | refine blk_drew ?_ | refine blk_alloc ?_ _)); refine blk_put (cs := #[.int .i64 0, .slice none 0 0]) ?_ 0 _ rfl; (with_reducible repeat (first | refine blk_drewN ?_ _ | refine blk_drew ?_ | refine blk_alloc ?_ _)); exact BK586.out) Try.underlying32 rfl (by kernel_rfl)) rfl ?_
   exact ⟨_, by first | rfl | (simp [errW_none, errW_some] <;> rfl) | (simp [*, errW_none, errW_some] <;> rfl), by first | exact Kd.R_nil _ _ _ _ _ | exact Kd.N_nil _ _ _ _ _ | exact Kd.V_nil _ _ _ _ _ | exact Kd.Q_nil _ _ _ _ _ | exact Kd.S_nil _ _ _ _ _, by repeat (first | (with_reducible first | exact HB.out | apply below_alloc | apply pw_below_drewN | apply below_drew1 | refine below_set ?_ GE586.out) | exact HB.out)⟩
 ·rw [if_neg c3] at H
  have c3b0 : (t589 == 0) = false := beq_eq_false_iff_ne.mpr c3
  have c3b1 : (t589 != 0) = true := bne_iff_ne.mpr c3
  simp only [Option.some.injEq, Prod.mk.injEq] at H
  obtain ⟨rfl, rfl, rfl⟩ := H
  go_enter Try.func36, Try.ntmps36
  go_wp2_with (first | ((with_reducible refine gate_dst (N := 2) rfl ?_); (try (refine gate_guard (by rfl) ?_; dsimp only)); refine box_event ?hg (N := 2) ?hd (cs := #[.int .i64 0, .slice none 0 0]) (t := 32) ?hr ?_; (case hd => rfl); (case hg => rfl); (case hr => first | (go_simp; done) | (go_simp; rfl)); intro gb586 hg w45 hbox hb; have n0_ := Aside0.mk (below_step (by repeat (first | (with_reducible first | exact HB.out | apply below_alloc | apply pw_below_drewN | apply below_drew1) | exact HB.out)) hb); have n1_ := Aside0.mk (hbox); have n2_ := Aside0.mk ((by rw [hg]; exact (below_size (by repeat (first | (with_reducible first | exact HB.out | apply below_alloc | apply pw_below_drewN | apply below_drew1) | exact HB.out))) : w.heap.size ≤ gb586)); have n3_ := Aside0.mk ((by rw [hg]; exact (below_size (by repeat (first | (with_reducible first | exact HB.out | apply below_alloc | apply pw_below_drewN | apply below_drew1) | exact HB.out))) : w.heap.size ≤ gb586)); clear HB; have HB := n0_; have BK586 := n1_; have GW586 := n2_; have GE586 := n3_; clear n0_ n1_ n2_ n3_; clear hb hbox hg) | ((with_reducible refine gate_callee (f := 78) rfl ?_); refine goesL_ (some 14) rfl rfl Try.func78 (by kernel_rfl) rfl #[.string a0, .int .i64 0] rfl (by (try simp only [List.map_toArray, List.map_cons, List.map_nil]); first | done | rfl | (simp only [List.length_drop, List.length_take]; rfl)) ?_; (with_reducible refine (storagebarterref01_Int.calls k a0 0 t587 t588 t589 _ A2.out).mono ?_); rintro e w' ⟨rfl, ⟨nd, rfl⟩⟩; refine ⟨_, rfl, ?_⟩; (try (rw [drewN_self w45]; generalize hq_ : World.drewN w45 _ = w45; have n0_ : Aside0 (w45.heap[gb586]? = some (.cells #[.int .i64 0, .slice none 0 0] 32 (0, 0))) := ⟨by rw [← hq_]; exact (by (with_reducible repeat (first | refine blk_drewN ?_ _ | refine blk_drew ?_ | refine blk_alloc ?_ _)); exact BK586.out)⟩; have n1_ : Aside0 (Below w.heap.size w w45) := ⟨by rw [← hq_]; exact (by repeat (first | (with_reducible first | exact HB.out | apply below_alloc | apply pw_below_drewN | apply below_drew1 | refine below_set ?_ GE586.out) | exact HB.out))⟩; clear BK586 HB hq_; have BK586 := n0_; have HB := n1_; clear n0_ n1_)); have hcz46_0 : w45.cell? ⟨gb586, 0, none⟩ = some (.int .i64 0) := (blk_cell BK586.out 0).trans rfl; have hcz46_1 : w45.cell? ⟨gb586, 1, none⟩ = some (.slice none 0 0) := (blk_cell BK586.out 1).trans rfl; have hfz46_0 := blk_frozen BK586.out 0; have hfz46_1 := blk_frozen BK586.out 1))
  refine bodyPost_ret (results_ct rfl _ _ gb586 32 #[.int .i64 0, .slice none 0 0] (0, 0) _ rfl (by (with_reducible repeat (first | refine blk_drewN ?_ _ | refine blk_drew ?_ | refine blk_alloc ?_ _)); refine blk_put (cs := #[.int .i64 0, .slice none 0 0]) ?_ 1 _ rfl; (with_reducible repeat (first | refine blk_drewN ?_ _ | refine blk_drew ?_ | refine blk_alloc ?_ _)); refine blk_put (cs := #[.int .i64 0, .slice none 0 0]) ?_ 0 _ rfl; (with_reducible repeat (first | refine blk_drewN ?_ _ | refine blk_drew ?_ | refine blk_alloc ?_ _)); exact BK586.out) Try.underlying32 rfl (by kernel_rfl)) rfl ?_
  exact ⟨_, by first | rfl | (simp [errW_none, errW_some] <;> rfl) | (simp [*, errW_none, errW_some] <;> rfl), by first | exact Kd.R_nil _ _ _ _ _ | exact Kd.N_nil _ _ _ _ _ | exact Kd.V_nil _ _ _ _ _ | exact Kd.Q_nil _ _ _ _ _ | exact Kd.S_nil _ _ _ _ _, by repeat (first | (with_reducible first | exact HB.out | apply below_alloc | apply pw_below_drewN | apply below_drew1 | refine below_set ?_ GE586.out) | exact HB.out)⟩
end Go.Proofs.Ytodhkbahjomfhaa.Q

namespace Go.Proofs.Ytodhkbahjomfhaa.Q
open Go.RowKit Go.Proofs.YtodhkbahjomfhaaW.PrintWords Go.Proofs.YtodhkbahjomfhaaW.PrintLast Go.Proofs.YtodhkbahjomfhaaW.PrintMore Go.Proofs.Ytodhkbahjomfhaa.Gput Go.Proofs.Ytodhkbahjomfhaa.Gputl
attribute [local go_sem] max2_int min2_int max_two min_two max_three min_three max_four min_four   -- for this text's walks alone
set_option linter.unusedVariables false
set_option linter.unusedSimpArgs false
noncomputable def storagebarterref08_Encode.l0 : Nat → List Int → List (S78) → Int → Int → Int → List (S78) → Option (ByteArray × Int)
 | 0, _, _, _, _, _, _ => none
 | k + 1, x5, x14, x15, x16, x550000, x550001 => if x16 < x15 then (if 0 ≤ x16 then (if x16 < (x14.length : Int) then ((some (([(rd_T78 x14 x16).f0, (rd_T78 x14 x16).f1] : List Int) : List Int)).bind fun y553 => (if x5.length + y553.length < 17592186044416 then (storagebarterref08_Encode.l0 k (x5 ++ y553) x14 x15 (wrap64 (x16 + 1)) x550000 x550001) else (none))) else (none)) else (none)) else ((storagebarterref01_PutInt.f k (⟨#[]⟩ : ByteArray) x550000).bind fun t559 => ((storagebarterref01_PutList.f k t559 x5).bind fun t560 => (some (t560, 0))))
noncomputable def storagebarterref08_Encode.f (k : Nat) (a0_0 : Int) (l0_1 : List (S78)) : Option (ByteArray × Int) := (storagebarterref08_Check.f k a0_0 l0_1).bind fun t550 => (if t550 = 0 then (storagebarterref08_Encode.l0 k ([] : List Int) l0_1 (l0_1.length : Int) 0 a0_0 l0_1) else (some ((⟨#[]⟩ : ByteArray), t550)))
set_option maxHeartbeats 8000000 in
set_option maxRecDepth 100000 in
theorem storagebarterref08_Encode.calls (k : Nat) (a0_0 : Int) (A0_1 : Option Addr) (c0_1 : Nat) (l0_1 : List (S78)) (r1 : ByteArray) (r2 : Int) (w : World) (hr0_1 : Kd.C k78 w A0_1 l0_1.length l0_1) (hc0_1 : l0_1.length ≤ c0_1) (h : storagebarterref08_Encode.f k a0_0 l0_1 = some (r1, r2)) :
 Calls Try.prog 34 #[.agg #[.int .i64 a0_0, .slice A0_1 l0_1.length c0_1]] w fun e w' => e = .returned (.tuple #[.string r1, .int .i64 r2]) ∧ Below w.heap.size w w' := by
 have hu32 := Try.underlying32
 have hu78 := Try.underlying78
 have HR0_1 := Aside0.mk hr0_1
 have HC0_1 := Aside0.mk hc0_1
 clear hr0_1 hc0_1
 have HB := Aside0.mk (Below.refl w.heap.size w)
 have H : ((storagebarterref08_Check.f k a0_0 l0_1).bind fun t550 => (if t550 = 0 then (storagebarterref08_Encode.l0 k ([] : List Int) l0_1 (l0_1.length : Int) 0 a0_0 l0_1) else (some ((⟨#[]⟩ : ByteArray), t550)))) = some (r1, r2) := h
 clear h
 replace H := Option.bind_eq_some_iff.mp H
 obtain ⟨t550, A20, H⟩ := H
 replace H : (if t550 = 0 then (storagebarterref08_Encode.l0 k ([] : List Int) l0_1 (l0_1.length : Int) 0 a0_0 l0_1) else (some ((⟨#[]⟩ : ByteArray), t550))) = some (r1, r2) := H
 have A2 := Aside0.mk A20
 clear A20
 by_cases c3 : t550 = 0
 ·rw [if_pos c3] at H
  have c3b0 : (t550 == 0) = true := beq_iff_eq.mpr c3
  have c3b1 : (t550 != 0) = false := bne_eq_false_iff_eq.mpr c3
  clear c3
  have H' := Aside0.mk H
  clear H
  go_enter Try.func34, Try.ntmps34
  go_wp2_with (first | ((with_reducible refine gate_dst (N := 1) rfl ?_); refine box_event ?hg (N := 1) ?hd (cs := #[.int .i64 a0_0, .slice A0_1 l0_1.length c0_1]) (t := 32) ?hr ?_; (case hd => rfl); (case hg => rfl); (case hr => first | (go_simp; done) | (go_simp; rfl)); intro gb549 hg w4 hbox hb; have n0_ := Aside0.mk (below_step (by repeat (first | (with_reducible first | exact HB.out | apply below_alloc | apply pw_below_drewN | apply below_drew1) | exact HB.out)) hb); have n1_ := Aside0.mk (hbox); have n2_ := Aside0.mk ((by rw [hg]; exact (below_size (by repeat (first | (with_reducible first | exact HB.out | apply below_alloc | apply pw_below_drewN | apply below_drew1) | exact HB.out))) : w.heap.size ≤ gb549)); have n3_ := Aside0.mk ((by rw [hg]; exact (below_size (by repeat (first | (with_reducible first | exact HB.out | apply below_alloc | apply pw_below_drewN | apply below_drew1) | exact HB.out))) : w.heap.size ≤ gb549)); clear HB; have HB := n0_; have BK549 := n1_; have GW549 := n2_; have GE549 := n3_; clear n0_ n1_ n2_ n3_; clear hb hbox hg; have hcz5_0 : w4.cell? ⟨gb549, 0, none⟩ = some (.int .i64 a0_0) := (blk_cell BK549.out 0).trans rfl; have hcz5_1 : w4.cell? ⟨gb549, 1, none⟩ = some (.slice A0_1 l0_1.length c0_1) := (blk_cell BK549.out 1).trans rfl; have hfz5_0 := blk_frozen BK549.out 0; have hfz5_1 := blk_frozen BK549.out 1) | ((with_reducible refine gate_callee (f := 57) rfl ?_); refine goesL_ (some 9) rfl rfl Try.func57 (by kernel_rfl) rfl #[.agg #[.int .i64 a0_0, .slice A0_1 l0_1.length c0_1]] rfl (by (try simp only [List.map_toArray, List.map_cons, List.map_nil]); first | done | rfl | (simp only [List.length_drop, List.length_take]; rfl)) ?_; (with_reducible refine (storagebarterref08_Check.calls k a0_0 _ _ l0_1 t550 _ ?side1 ?side2 A2.out).mono ?_); (case side1 => repeat (first | exact (Kd.C_below HR0_1.out HB.out) | (with_reducible refine Kd.C_alloc ?_ _) | (with_reducible refine Kd.C_drewN ?_ _) | (with_reducible refine Kd.C_drew ?_))); (case side2 => exact HC0_1.out); rintro e w6 ⟨rfl, hb⟩; refine ⟨_, rfl, ?_⟩; have n0_ := Aside0.mk (blk_below (g := gb549) (o := .cells #[.int .i64 a0_0, .slice A0_1 l0_1.length c0_1] 32 (0, 0)) (by (with_reducible repeat (first | refine blk_drewN ?_ _ | refine blk_drew ?_ | refine blk_alloc ?_ _)); exact BK549.out) hb); have n1_ := Aside0.mk (below_step (by repeat (first | (with_reducible first | exact HB.out | apply below_alloc | apply pw_below_drewN | apply below_drew1 | refine below_set ?_ GE549.out) | exact HB.out)) hb); clear BK549; clear HB; have BK549 := n0_; have HB := n1_; clear n0_ n1_; (try clear hb); (try clear hb2); (try clear hk); (try clear hi); have hcz7_0 : w6.cell? ⟨gb549, 0, none⟩ = some (.int .i64 a0_0) := (blk_cell BK549.out 0).trans rfl; have hcz7_1 : w6.cell? ⟨gb549, 1, none⟩ = some (.slice A0_1 l0_1.length c0_1) := (blk_cell BK549.out 1).trans rfl; have hfz7_0 := blk_frozen BK549.out 0; have hfz7_1 := blk_frozen BK549.out 1))
  go_loopg [5, 16] k (fun kq v5 v16 w' => ∃ (x5_1 : List Int) (x16_1 : Int), v16 = .int .i64 x16_1 ∧ Aside0 (storagebarterref08_Encode.l0 kq x5_1 l0_1 (l0_1.length : Int) x16_1 a0_0 l0_1 = some (r1, r2)) ∧ Aside0 (kq ≤ k) ∧ Aside0 (Kd.R (Kd.int .i64) 3 w' w.heap.size (fun _ => True) v5 x5_1) ∧ Aside0 (w'.heap[gb549]? = some (.cells #[.int .i64 a0_0, (.slice A0_1 l0_1.length c0_1)] 32 (0, 0))) ∧ Aside0 (Below w.heap.size w w'))
  case atStart => exact ⟨(([] : List Int)), (0), (by first | rfl | (simp; done) | (simp [*]; done)), H', ⟨Nat.le_refl _⟩, ⟨by first | exact Kd.R_nil _ _ _ _ _ | exact Kd.N_nil _ _ _ _ _ | exact Kd.V_nil _ _ _ _ _ | exact Kd.Q_nil _ _ _ _ _ | exact Kd.S_nil _ _ _ _ _⟩, ⟨by (with_reducible repeat (first | refine blk_drewN ?_ _ | refine blk_drew ?_ | refine blk_alloc ?_ _)); exact BK549.out⟩, ⟨by repeat (first | (with_reducible first | exact HB.out | apply below_alloc | apply pw_below_drewN | apply below_drew1 | refine below_set ?_ GE549.out) | exact HB.out)⟩⟩
  case round =>
   clear H'
   try clear p2
   try clear c3
   try clear c3b0
   try clear c3b1
   try clear c5
   try clear hcz5_0
   try clear hcz5_1
   try clear hcz7_0
   try clear hcz7_1
   try clear hfz5_0
   try clear hfz5_1
   try clear hfz7_0
   try clear hfz7_1
   obtain ⟨x5_1, x16_1, rfl, HA, HK1, HO_5, BK549, HB⟩ := hrel
   cases gk with
   | zero => exact absurd HA.out (by simp [storagebarterref08_Encode.l0])
   | succ k1 =>
    have H := HA.out
    clear HA
    simp only [storagebarterref08_Encode.l0] at H
    by_cases c8 : x16_1 < (l0_1.length : Int)
    ·rw [if_pos c8] at H
     have c8b0 : decide (x16_1 < (l0_1.length : Int)) = true := decide_eq_true c8
     clear c8
     by_cases c9 : 0 ≤ x16_1
     ·rw [if_pos c9] at H
      have c9b0 : decide (0 ≤ x16_1) = true := decide_eq_true c9
      clear c9
      by_cases c10 : x16_1 < (l0_1.length : Int)
      ·rw [if_pos c10] at H
       have c10b0 : decide (x16_1 < (l0_1.length : Int)) = true := decide_eq_true c10
       clear c10
       obtain ⟨y553, hy553⟩ : ∃ y_ : List Int, y_ = (([(rd_T78 l0_1 x16_1).f0, (rd_T78 l0_1 x16_1).f1] : List Int)) := ⟨_, rfl⟩
       replace H : (if x5_1.length + y553.length < 17592186044416 then (storagebarterref08_Encode.l0 k1 (x5_1 ++ y553) l0_1 (l0_1.length : Int) (wrap64 (x16_1 + 1)) a0_0 l0_1) else (none)) = some (r1, r2) := by first | (rw [hy553]; with_reducible exact H) | (have H2_ := (Option.bind_some _ _).symm.trans H; rw [hy553]; with_reducible exact H2_) | (have H2_ := (Option.bind_some _ _).symm.trans H; with_reducible exact H2_) | with_reducible exact H | (rw [hy553]; exact H) | exact H
       have Ny553 := Aside0.mk hy553
       clear hy553
       by_cases c11 : x5_1.length + y553.length < 17592186044416
       ·rw [if_pos c11] at H
        have LMc11 := Aside0.mk c11
        clear c11
        obtain ⟨y556, hy556⟩ : ∃ y_ : List Int, y_ = (x5_1 ++ y553) := ⟨_, rfl⟩
        replace H : (storagebarterref08_Encode.l0 k1 y556 l0_1 (l0_1.length : Int) (wrap64 (x16_1 + 1)) a0_0 l0_1) = some (r1, r2) := by first | (rw [hy556]; with_reducible exact H) | (have H2_ := (Option.bind_some _ _).symm.trans H; rw [hy556]; with_reducible exact H2_) | (have H2_ := (Option.bind_some _ _).symm.trans H; with_reducible exact H2_) | with_reducible exact H | (rw [hy556]; exact H) | exact H
        have Ny556 := Aside0.mk hy556
        clear hy556
        have H' := Aside0.mk H
        clear H
        have p551 : 0 ≤ (x16_1 : Int) := of_decide_eq_true (by first | (with_reducible assumption) | assumption)
        have q551 : x16_1 < (l0_1.length : Int) := of_decide_eq_true (by first | (with_reducible assumption) | assumption)
        obtain ⟨ad551, e551, hx551_0, hx551_1⟩ := at_T78 HR0_1.out x16_1 p551 q551
        cases e551
        replace hx551_0 := (HB.out.cell (World.block_lt_of_cell? w _ hx551_0)).trans hx551_0
        replace hx551_1 := (HB.out.cell (World.block_lt_of_cell? w _ hx551_1)).trans hx551_1
        replace p551 := eq_true p551
        replace q551 := eq_true q551
        go_wp2_with (first | ((with_reducible refine gate_dst (N := 7) rfl ?_); refine box_event ?hg (N := 7) ?hd (cs := #[.int .i64 0, .int .i64 0]) (t := 78) ?hr ?_; (case hd => rfl); (case hg => rfl); (case hr => first | (go_simp; done) | (go_simp; rfl)); intro gb552 hg w12 hbox hb; have n0_ := Aside0.mk (Kd.R_below (by (with_reducible repeat (first | apply Kd.R_alloc | apply Kd.R_drewN | apply Kd.R_drew)); exact HO_5.out) hb); have n1_ := Aside0.mk (blk_below (g := gb549) (o := .cells #[.int .i64 a0_0, .slice (some ad551) l0_1.length c0_1] 32 (0, 0)) (by (with_reducible repeat (first | refine blk_drewN ?_ _ | refine blk_drew ?_ | refine blk_alloc ?_ _)); exact BK549.out) hb); have n2_ := Aside0.mk (below_step (by repeat (first | (with_reducible first | exact HB.out | apply below_alloc | apply pw_below_drewN | apply below_drew1 | refine below_set ?_ GE549.out) | exact HB.out)) hb); have n3_ := Aside0.mk (hbox); have n4_ := Aside0.mk ((by rw [hg]; exact (below_size (by repeat (first | (with_reducible first | exact HB.out | apply below_alloc | apply pw_below_drewN | apply below_drew1 | refine below_set ?_ GE549.out) | exact HB.out))) : w.heap.size ≤ gb552)); have n5_ := Aside0.mk ((by rw [hg]; exact (below_size (by repeat (first | (with_reducible first | exact HB.out | apply below_alloc | apply pw_below_drewN | apply below_drew1 | refine below_set ?_ GE549.out) | exact HB.out))) : w.heap.size ≤ gb552)); have n6_ := Aside0.mk ((by rw [hg]; exact Nat.ne_of_lt (blk_lt (g := gb549) (o := .cells #[.int .i64 a0_0, .slice (some ad551) l0_1.length c0_1] 32 (0, 0)) (by (with_reducible repeat (first | refine blk_drewN ?_ _ | refine blk_drew ?_ | refine blk_alloc ?_ _)); exact BK549.out)) : gb549 ≠ gb552)); have n7_ := Aside0.mk ((by rw [hg]; exact Nat.ne_of_gt (blk_lt (g := gb549) (o := .cells #[.int .i64 a0_0, .slice (some ad551) l0_1.length c0_1] 32 (0, 0)) (by (with_reducible repeat (first | refine blk_drewN ?_ _ | refine blk_drew ?_ | refine blk_alloc ?_ _)); exact BK549.out)) : gb552 ≠ gb549)); clear HO_5; clear BK549; clear HB; have HO_5 := n0_; have BK549 := n1_; have HB := n2_; have BK552 := n3_; have GW552 := n4_; have GE552 := n5_; have NB549_552 := n6_; have NB552_549 := n7_; clear n0_ n1_ n2_ n3_ n4_ n5_ n6_ n7_; clear hb hbox hg; have hnb13 := NB552_549.out; have hnc13 := NB549_552.out; have hcz14_0 : w12.cell? ⟨gb552, 0, none⟩ = some (.int .i64 0) := (blk_cell BK552.out 0).trans rfl; have hcz14_1 : w12.cell? ⟨gb552, 1, none⟩ = some (.int .i64 0) := (blk_cell BK552.out 1).trans rfl; have hfz14_0 := blk_frozen BK552.out 0; have hfz14_1 := blk_frozen BK552.out 1) | ((with_reducible refine gate_dst (N := 25) rfl ?_); refine Kd.R_lit (Kd.int .i64) _ 3 ?hg (N := 25) ?hd (xs := ([(rd_T78 l0_1 x16_1).f0, (rd_T78 l0_1 x16_1).f1] : List Int)) (inner := [.int .i64 ((rd_T78 l0_1 x16_1).f0), .int .i64 ((rd_T78 l0_1 x16_1).f1)]) (ok := fun _ => True) (okp := fun _ => True) ?hr ?hp (fun _ hk => hk) trivial (Below.refl _ _) (Nat.le_refl _) (by simp) ?_; (case hd => rfl); (case hg => rfl); (case hr => first | (go_simp; done) | (go_simp; rfl)); (case hp => exact (Reps.one (show Kd.M (Kd.int .i64) _ _ _ ((rd_T78 l0_1 x16_1).f0) [.int .i64 ((rd_T78 l0_1 x16_1).f0)] from rfl) (Reps.one (show Kd.M (Kd.int .i64) _ _ _ ((rd_T78 l0_1 x16_1).f1) [.int .i64 ((rd_T78 l0_1 x16_1).f1)] from rfl) (Reps.none _ _)))); intro v554 w15 ho16 hb hg_ hnew_; clear hg_ hnew_; (first | rw [← Ny553.out] at ho16 | (simp only [Int.reduceToNat] at ho16; rw [← Ny553.out] at ho16)); have n0_ := Aside0.mk (Kd.R_elder' (by (with_reducible repeat (first | apply Kd.R_alloc | apply Kd.R_drewN | apply Kd.R_drew)); exact (Kd.R_mono (Kd.R_far (p := ⟨gb552, 1, none⟩) (Kd.R_far (p := ⟨gb552, 0, none⟩) (Kd.R_types HO_5.out BK552.out (by decide)) (fun _ hk => hk.2) (.int .i64 ((rd_T78 l0_1 x16_1).f0))) (fun _ hk => hk.2) (.int .i64 ((rd_T78 l0_1 x16_1).f1))) (fun _ h_ => h_.1))) (Kd.R_base ho16) hb); have n1_ := Aside0.mk (Kd.R_lower (Kd.R_new' ho16 (Kd.R_lt (by (with_reducible repeat (first | apply Kd.R_alloc | apply Kd.R_drewN | apply Kd.R_drew)); exact (Kd.R_mono (Kd.R_far (p := ⟨gb552, 1, none⟩) (Kd.R_far (p := ⟨gb552, 0, none⟩) (Kd.R_types HO_5.out BK552.out (by decide)) (fun _ hk => hk.2) (.int .i64 ((rd_T78 l0_1 x16_1).f0))) (fun _ hk => hk.2) (.int .i64 ((rd_T78 l0_1 x16_1).f1))) (fun _ h_ => h_.1))))) (below_size (by repeat (first | (with_reducible first | exact HB.out | apply below_alloc | apply pw_below_drewN | apply below_drew1 | refine below_set ?_ GE549.out | refine below_set ?_ GE552.out) | exact HB.out)))); have n2_ := Aside0.mk (blk_below (g := gb549) (o := .cells #[.int .i64 a0_0, .slice (some ad551) l0_1.length c0_1] 32 (0, 0)) (by (with_reducible repeat (first | refine blk_drewN ?_ _ | refine blk_drew ?_ | refine blk_alloc ?_ _)); refine blk_far ?_ NB549_552.out _; (with_reducible repeat (first | refine blk_drewN ?_ _ | refine blk_drew ?_ | refine blk_alloc ?_ _)); refine blk_far ?_ NB549_552.out _; (with_reducible repeat (first | refine blk_drewN ?_ _ | refine blk_drew ?_ | refine blk_alloc ?_ _)); exact BK549.out) hb); have n3_ := Aside0.mk (blk_below (g := gb552) (o := .cells #[.int .i64 ((rd_T78 l0_1 x16_1).f0), .int .i64 ((rd_T78 l0_1 x16_1).f1)] 78 (0, 0)) (by (with_reducible repeat (first | refine blk_drewN ?_ _ | refine blk_drew ?_ | refine blk_alloc ?_ _)); refine blk_put (cs := #[.int .i64 ((rd_T78 l0_1 x16_1).f0), .int .i64 0]) ?_ 1 _ rfl; (with_reducible repeat (first | refine blk_drewN ?_ _ | refine blk_drew ?_ | refine blk_alloc ?_ _)); refine blk_put (cs := #[.int .i64 0, .int .i64 0]) ?_ 0 _ rfl; (with_reducible repeat (first | refine blk_drewN ?_ _ | refine blk_drew ?_ | refine blk_alloc ?_ _)); exact BK552.out) hb); have n4_ := Aside0.mk (below_step (by repeat (first | (with_reducible first | exact HB.out | apply below_alloc | apply pw_below_drewN | apply below_drew1 | refine below_set ?_ GE549.out | refine below_set ?_ GE552.out) | exact HB.out)) hb); clear HO_5; clear BK549; clear BK552; clear HB; have HO_5 := n0_; have HO555 := n1_; have BK549 := n2_; have BK552 := n3_; have HB := n4_; clear n0_ n1_ n2_ n3_ n4_; clear hb ho16; obtain ⟨Ao18, co18, eo18⟩ := Kd.R_slice HO555.out; subst eo18) | ((with_reducible refine gate_builtin (b := .append) (xs := #[.tmp 20, .tmp 25]) rfl ?_); at_builtin; refine Kd.R_append_rows (Kd.int .i64) (w0 := w) w.heap.size rfl (.tmp 20) (.tmp 25) 22 3 (.int .i64 0) 8 rfl Try.underlying22 info3 rfl (by decide) (by omega) u5 x5_1 y553 _ _ _ (fun k_ => some k_ ≠ (.slice Ao18 y553.length co18 : Value).ownBlock) (fun _ => False) rfl rfl ?aO ?aR (fun _ _ h => h) (fun _ h => h.elim) ?aF ?aB ?aS ?aL ?_; (case aR => repeat (first | exact (Kd.R_reads' HO555.out).2.2 | (with_reducible refine Kd.C_alloc ?_ _) | (with_reducible refine Kd.C_drewN ?_ _) | (with_reducible refine Kd.C_drew ?_))); (case aB => exact (by repeat (first | (with_reducible first | exact HB.out | apply below_alloc | apply pw_below_drewN | apply below_drew1 | refine below_set ?_ GE549.out | refine below_set ?_ GE552.out) | exact HB.out))); (case aF => exact (fun k_ hk => Kd.fresh' (Kd.R_lt (by (with_reducible repeat (first | apply Kd.R_alloc | apply Kd.R_drewN | apply Kd.R_drew)); exact HO555.out)) k_ hk)); (case aO => exact (by (with_reducible repeat (first | apply Kd.R_alloc | apply Kd.R_drewN | apply Kd.R_drew)); exact Kd.R_mono HO_5.out (fun _ hk => hk.2))); (case aS => exact (below_size (by repeat (first | (with_reducible first | exact HB.out | apply below_alloc | apply pw_below_drewN | apply below_drew1 | refine below_set ?_ GE549.out | refine below_set ?_ GE552.out) | exact HB.out)))); (case aL => have := LMc11.out; omega); intro v557 w17 ho hb hg hat; rw [← Ny556.out] at ho; have n0_ := Aside0.mk (blk_grown (g := gb549) (o := .cells #[.int .i64 a0_0, .slice (some ad551) l0_1.length c0_1] 32 (0, 0)) (by (with_reducible repeat (first | refine blk_drewN ?_ _ | refine blk_drew ?_ | refine blk_alloc ?_ _)); exact BK549.out) hg (Kd.R_ne HO_5.out BK549.out (by decide))); have n1_ := Aside0.mk (blk_grown (g := gb552) (o := .cells #[.int .i64 ((rd_T78 l0_1 x16_1).f0), .int .i64 ((rd_T78 l0_1 x16_1).f1)] 78 (0, 0)) (by (with_reducible repeat (first | refine blk_drewN ?_ _ | refine blk_drew ?_ | refine blk_alloc ?_ _)); exact BK552.out) hg (Kd.R_ne HO_5.out BK552.out (by decide))); have n2_ := Aside0.mk (Kd.R_after (ok := (fun _ => True)) (by (with_reducible repeat (first | apply Kd.R_alloc | apply Kd.R_drewN | apply Kd.R_drew)); exact HO555.out) hg hat); have n3_ := Aside0.mk (hb); have n4_ := Aside0.mk (ho); clear BK549; clear BK552; clear HO555; clear HB; clear HO_5; have BK549 := n0_; have BK552 := n1_; have HO555 := n2_; have HB := n3_; have HO558 := n4_; clear n0_ n1_ n2_ n3_ n4_; clear ho hb hg hat))
        go_roundg k1
        case measure => have := HK1.out; omega
        case rel => exact ⟨(y556), (wrap64 (x16_1 + 1)), (by first | rfl | (simp; done) | (simp [*]; done)), H', ⟨by have := HK1.out; omega⟩, ⟨by (with_reducible repeat (first | apply Kd.R_alloc | apply Kd.R_drewN | apply Kd.R_drew)); exact Kd.R_mono HO558.out (fun _ hk => trivial)⟩, ⟨by (with_reducible repeat (first | refine blk_drewN ?_ _ | refine blk_drew ?_ | refine blk_alloc ?_ _)); exact BK549.out⟩, ⟨by repeat (first | (with_reducible first | exact HB.out | apply below_alloc | apply pw_below_drewN | apply below_drew1 | refine below_set ?_ GE549.out | refine below_set ?_ GE552.out) | exact HB.out)⟩⟩
       ·rw [if_neg c11] at H
        exact absurd H (by simp)
      ·rw [if_neg c10] at H
       exact absurd H (by simp)
     ·rw [if_neg c9] at H
      exact absurd H (by simp)
    ·rw [if_neg c8] at H
     have c8b0 : decide (x16_1 < (l0_1.length : Int)) = false := decide_eq_false c8
     clear c8
     replace H := Option.bind_eq_some_iff.mp H
     obtain ⟨t559, A190, H⟩ := H
     replace H : ((storagebarterref01_PutList.f k1 t559 x5_1).bind fun t560 => (some (t560, 0))) = some (r1, r2) := H
     have A19 := Aside0.mk A190
     clear A190
     replace H := Option.bind_eq_some_iff.mp H
     obtain ⟨t560, A200, H⟩ := H
     replace H : (some (t560, 0)) = some (r1, r2) := H
     have A20 := Aside0.mk A200
     clear A200
     simp only [Option.some.injEq, Prod.mk.injEq] at H
     obtain ⟨rfl, rfl⟩ := H
     have hcz21_0 : wr.cell? ⟨gb549, 0, none⟩ = some (.int .i64 a0_0) := (blk_cell BK549.out 0).trans rfl
     have hcz21_1 : wr.cell? ⟨gb549, 1, none⟩ = some (.slice A0_1 l0_1.length c0_1) := (blk_cell BK549.out 1).trans rfl
     have hfz21_0 := blk_frozen BK549.out 0
     have hfz21_1 := blk_frozen BK549.out 1
     go_wp2_with (first | ((with_reducible refine gate_callee (f := 66) rfl ?_); refine goesL_ (some 30) rfl rfl Try.func66 (by kernel_rfl) rfl #[.string (⟨#[]⟩ : ByteArray), .int .i64 a0_0] rfl (by (try simp only [List.map_toArray, List.map_cons, List.map_nil]); first | done | rfl | (simp only [List.length_drop, List.length_take]; rfl)) ?_; (with_reducible refine (storagebarterref01_PutInt.calls k1 (⟨#[]⟩ : ByteArray) a0_0 t559 _ A19.out).mono ?_); rintro e w22 ⟨rfl, hb⟩; refine ⟨_, rfl, ?_⟩; have n0_ := Aside0.mk (Kd.R_below (by (with_reducible repeat (first | apply Kd.R_alloc | apply Kd.R_drewN | apply Kd.R_drew)); exact HO_5.out) hb); have n1_ := Aside0.mk (blk_below (g := gb549) (o := .cells #[.int .i64 a0_0, .slice A0_1 l0_1.length c0_1] 32 (0, 0)) (by (with_reducible repeat (first | refine blk_drewN ?_ _ | refine blk_drew ?_ | refine blk_alloc ?_ _)); exact BK549.out) hb); have n2_ := Aside0.mk (below_step (by repeat (first | (with_reducible first | exact HB.out | apply below_alloc | apply pw_below_drewN | apply below_drew1 | refine below_set ?_ GE549.out) | exact HB.out)) hb); clear HO_5; clear BK549; clear HB; have HO_5 := n0_; have BK549 := n1_; have HB := n2_; clear n0_ n1_ n2_; (try clear hb); (try clear hb2); (try clear hk); (try clear hi); obtain ⟨Ao23, co23, eo23⟩ := Kd.R_slice HO_5.out; subst eo23) | ((with_reducible refine gate_callee (f := 75) rfl ?_); refine goesL_ (some 32) rfl rfl Try.func75 (by kernel_rfl) rfl #[.string t559, .slice Ao23 x5_1.length co23] rfl (by (try simp only [List.map_toArray, List.map_cons, List.map_nil]); first | done | rfl | (simp only [List.length_drop, List.length_take]; rfl)) ?_; (with_reducible refine (storagebarterref01_PutList.calls k1 t559 _ _ x5_1 t560 _ ?side1 ?side2 A20.out).mono ?_); (case side1 => repeat (first | exact (Kd.R_reads' HO_5.out).2.2 | (with_reducible refine Kd.C_alloc ?_ _) | (with_reducible refine Kd.C_drewN ?_ _) | (with_reducible refine Kd.C_drew ?_))); (case side2 => exact (Kd.R_reads' HO_5.out).2.1); rintro e w24 ⟨rfl, hb⟩; refine ⟨_, rfl, ?_⟩; have n0_ := Aside0.mk (Kd.R_below (by (with_reducible repeat (first | apply Kd.R_alloc | apply Kd.R_drewN | apply Kd.R_drew)); exact HO_5.out) hb); have n1_ := Aside0.mk (blk_below (g := gb549) (o := .cells #[.int .i64 a0_0, .slice A0_1 l0_1.length c0_1] 32 (0, 0)) (by (with_reducible repeat (first | refine blk_drewN ?_ _ | refine blk_drew ?_ | refine blk_alloc ?_ _)); exact BK549.out) hb); have n2_ := Aside0.mk (below_step (by repeat (first | (with_reducible first | exact HB.out | apply below_alloc | apply pw_below_drewN | apply below_drew1 | refine below_set ?_ GE549.out) | exact HB.out)) hb); clear HO_5; clear BK549; clear HB; have HO_5 := n0_; have BK549 := n1_; have HB := n2_; clear n0_ n1_ n2_; (try clear hb); (try clear hb2); (try clear hk); (try clear hi)))
     go_ret2
     exact ⟨by first | rfl | (simp [errW_none, errW_some] <;> rfl) | (simp [*, errW_none, errW_some] <;> rfl), by repeat (first | (with_reducible first | exact HB.out | apply below_alloc | apply pw_below_drewN | apply below_drew1 | refine below_set ?_ GE549.out) | exact HB.out)⟩
 ·rw [if_neg c3] at H
  have c3b0 : (t550 == 0) = false := beq_eq_false_iff_ne.mpr c3
  have c3b1 : (t550 != 0) = true := bne_iff_ne.mpr c3
  simp only [Option.some.injEq, Prod.mk.injEq] at H
  obtain ⟨rfl, rfl⟩ := H
  go_enter Try.func34, Try.ntmps34
  go_wp2_with (first | ((with_reducible refine gate_dst (N := 1) rfl ?_); refine box_event ?hg (N := 1) ?hd (cs := #[.int .i64 a0_0, .slice A0_1 l0_1.length c0_1]) (t := 32) ?hr ?_; (case hd => rfl); (case hg => rfl); (case hr => first | (go_simp; done) | (go_simp; rfl)); intro gb549 hg w25 hbox hb; have n0_ := Aside0.mk (below_step (by repeat (first | (with_reducible first | exact HB.out | apply below_alloc | apply pw_below_drewN | apply below_drew1) | exact HB.out)) hb); have n1_ := Aside0.mk (hbox); have n2_ := Aside0.mk ((by rw [hg]; exact (below_size (by repeat (first | (with_reducible first | exact HB.out | apply below_alloc | apply pw_below_drewN | apply below_drew1) | exact HB.out))) : w.heap.size ≤ gb549)); have n3_ := Aside0.mk ((by rw [hg]; exact (below_size (by repeat (first | (with_reducible first | exact HB.out | apply below_alloc | apply pw_below_drewN | apply below_drew1) | exact HB.out))) : w.heap.size ≤ gb549)); clear HB; have HB := n0_; have BK549 := n1_; have GW549 := n2_; have GE549 := n3_; clear n0_ n1_ n2_ n3_; clear hb hbox hg; have hcz26_0 : w25.cell? ⟨gb549, 0, none⟩ = some (.int .i64 a0_0) := (blk_cell BK549.out 0).trans rfl; have hcz26_1 : w25.cell? ⟨gb549, 1, none⟩ = some (.slice A0_1 l0_1.length c0_1) := (blk_cell BK549.out 1).trans rfl; have hfz26_0 := blk_frozen BK549.out 0; have hfz26_1 := blk_frozen BK549.out 1) | ((with_reducible refine gate_callee (f := 57) rfl ?_); refine goesL_ (some 9) rfl rfl Try.func57 (by kernel_rfl) rfl #[.agg #[.int .i64 a0_0, .slice A0_1 l0_1.length c0_1]] rfl (by (try simp only [List.map_toArray, List.map_cons, List.map_nil]); first | done | rfl | (simp only [List.length_drop, List.length_take]; rfl)) ?_; (with_reducible refine (storagebarterref08_Check.calls k a0_0 _ _ l0_1 t550 _ ?side1 ?side2 A2.out).mono ?_); (case side1 => repeat (first | exact (Kd.C_below HR0_1.out HB.out) | (with_reducible refine Kd.C_alloc ?_ _) | (with_reducible refine Kd.C_drewN ?_ _) | (with_reducible refine Kd.C_drew ?_))); (case side2 => exact HC0_1.out); rintro e w27 ⟨rfl, hb⟩; refine ⟨_, rfl, ?_⟩; have n0_ := Aside0.mk (blk_below (g := gb549) (o := .cells #[.int .i64 a0_0, .slice A0_1 l0_1.length c0_1] 32 (0, 0)) (by (with_reducible repeat (first | refine blk_drewN ?_ _ | refine blk_drew ?_ | refine blk_alloc ?_ _)); exact BK549.out) hb); have n1_ := Aside0.mk (below_step (by repeat (first | (with_reducible first | exact HB.out | apply below_alloc | apply pw_below_drewN | apply below_drew1 | refine below_set ?_ GE549.out) | exact HB.out)) hb); clear BK549; clear HB; have BK549 := n0_; have HB := n1_; clear n0_ n1_; (try clear hb); (try clear hb2); (try clear hk); (try clear hi)))
  go_ret2
  exact ⟨by first | rfl | (simp [errW_none, errW_some] <;> rfl) | (simp [*, errW_none, errW_some] <;> rfl), by repeat (first | (with_reducible first | exact HB.out | apply below_alloc | apply pw_below_drewN | apply below_drew1 | refine below_set ?_ GE549.out) | exact HB.out)⟩
end Go.Proofs.Ytodhkbahjomfhaa.Q

namespace Go.Proofs.Ytodhkbahjomfhaa.Gcd
open Go Go.RowKit Go.Proofs.Ytodhkbahjomfhaa.Gm Go.Proofs.Ytodhkbahjomfhaa.Gdm Go.Proofs.Ytodhkbahjomfhaa.Gch Go.Proofs.Ytodhkbahjomfhaa.Q Go.Proofs.Ytodhkbahjomfhaa.Gput Go.Proofs.Ytodhkbahjomfhaa.Gputl Go.Proofs.YtodhkbahjomfhaaW.PrintWords Go.Proofs.YtodhkbahjomfhaaW.PrintLast Go.Proofs.YtodhkbahjomfhaaW.PrintMore
open Go.Proofs.Ytodhkbahjomfhaa.Gwa (intAt wire_Int_eq)
open Go.Proofs.Ytodhkbahjomfhaa.Gwb (ref_Int_eq intAt_ok intAt_err intAt_put ref_PutInt_eq countAt countAt_ok)
open Go.Proofs.Ytodhkbahjomfhaa.Gwd (listAt wire_List_eq ref_List_eq wire_PutList_eq ref_PutList_eq listAt_put)
set_option linter.unusedVariables false
instance (n : S78) : Decidable (Proper n) := by unfold Proper; exact inferInstance
def chk (a : Int) (l : List S78) : Int := if 1 ≤ a ∧ a < 2147483647 then (if (l.length : Int) > 256 then 4 else if l.all (fun n => decide (Proper n)) then 0 else 2) else 1
theorem proper_eq (n : S78) : manifest_proper.f n.f0 n.f1 = some (decide (Proper n)) := by
 unfold manifest_proper.f
 by_cases h1 : n.f0 ≥ 0
 ·rw [if_pos h1]
  by_cases h2 : n.f0 < 2147483647
  ·rw [if_pos h2]
   by_cases h3 : n.f1 ≥ 1
   ·rw [if_pos h3]
    congr 1
    exact decide_eq_decide.2 ⟨fun z => ⟨h1, h2, h3, z⟩, fun z => by obtain ⟨_, _, _, q⟩ := z; exact q⟩
   ·rw [if_neg h3, decide_eq_false (p := Proper n) (fun z => by obtain ⟨_, _, q, _⟩ := z; exact h3 q)]
  ·rw [if_neg h2, decide_eq_false (p := Proper n) (fun z => by obtain ⟨_, q, _, _⟩ := z; exact h2 q)]
 ·rw [if_neg h1, decide_eq_false (p := Proper n) (fun z => by obtain ⟨q, _, _, _⟩ := z; exact h1 q)]
theorem Check_l0' (l : List S78) (hl : l.length ≤ 256) : ∀ (d i k : Nat), l.length - i = d → i ≤ l.length → d < k → manifest_Check.l0 k l (l.length : Int) (i : Int) = some (if (l.drop i).all (fun n => decide (Proper n)) then 0 else 2) := by
 intro d
 induction d with
 | zero =>
  intro i k hd hi hk
  obtain ⟨k, rfl⟩ := nat_pred hk
  rw [manifest_Check.l0, if_neg (by omega), List.drop_of_length_le (by omega)]
  rfl
 | succ d ih =>
  intro i k hd hi hk
  obtain ⟨k, rfl⟩ := nat_pred hk
  have hil : i < l.length := by omega
  rw [manifest_Check.l0, if_pos (by omega), if_pos (by omega), if_pos (by omega), rdN l i hil, proper_eq, Option.bind_some, List.drop_eq_getElem_cons hil, List.all_cons]
  by_cases h : Proper l[i]
  ·rw [decide_eq_true h, if_pos rfl, w64 (x := (i : Int) + 1) (by omega), show ((i : Int) + 1) = ((i + 1 : Nat) : Int) by omega, Bool.true_and]
   exact ih (i + 1) k (by omega) (by omega) (by omega)
  ·rw [decide_eq_false h, if_neg (by simp), Bool.false_and, if_neg (by simp)]
theorem Check_eq (a : Int) (l : List S78) (k : Nat) (hk : 300 ≤ k) : manifest_Check.f k a l = some (chk a l) := by
 unfold manifest_Check.f chk
 rw [numbered_eq, Option.bind_some]
 by_cases h : 1 ≤ a ∧ a < 2147483647
 ·rw [decide_eq_true h, if_pos rfl, if_pos h]
  by_cases h2 : (l.length : Int) > 256
  ·rw [if_pos h2, if_pos h2]
  ·rw [if_neg h2, if_neg h2]
   have := Check_l0' l (by omega) l.length 0 k (by omega) (by omega) (by omega)
   rw [List.drop_zero] at this
   exact this
 ·rw [decide_eq_false h, if_neg (by simp), if_neg h]
theorem refCheck_l0 (l : List S78) (hl : l.length ≤ 256) : ∀ (d i k : Nat), l.length - i = d → i ≤ l.length → d < k → storagebarterref08_Check.l0 k l (l.length : Int) (i : Int) = some (if (l.drop i).all (fun n => decide (Proper n)) then 0 else 2) := by
 intro d
 induction d with
 | zero =>
  intro i k hd hi hk
  obtain ⟨k, rfl⟩ := nat_pred hk
  rw [storagebarterref08_Check.l0, if_neg (by omega), List.drop_of_length_le (by omega)]
  rfl
 | succ d ih =>
  intro i k hd hi hk
  obtain ⟨k, rfl⟩ := nat_pred hk
  have hil : i < l.length := by omega
  have h0 := ih (i + 1) k (by omega) (by omega) (by omega)
  rw [storagebarterref08_Check.l0, if_pos (by omega), if_pos (by omega), if_pos (by omega), rdN l i hil, List.drop_eq_getElem_cons hil, List.all_cons]
  by_cases h : Proper l[i]
  ·obtain ⟨h1, h2, h3, h4⟩ := id h
   rw [if_neg (by omega), if_neg (by omega), if_neg (by omega), if_neg (by omega), decide_eq_true h, w64 (x := (i : Int) + 1) (by omega), show ((i : Int) + 1) = ((i + 1 : Nat) : Int) by omega, Bool.true_and]
   exact h0
  ·rw [decide_eq_false h, Bool.false_and]
   show _ = some 2
   unfold Proper at h
   by_cases h1 : l[i].f0 < 0
   ·rw [if_pos h1]
   ·rw [if_neg h1]
    by_cases h2 : l[i].f0 ≥ 2147483647
    ·rw [if_pos h2]
    ·rw [if_neg h2]
     by_cases h3 : l[i].f1 < 1
     ·rw [if_pos h3]
     ·rw [if_neg h3, if_pos (by omega)]
theorem refCheck_eq (a : Int) (l : List S78) (k : Nat) (hk : 301 ≤ k) : storagebarterref08_Check.f k a l = some (chk a l) := by
 have hj : ∀ b, storagebarterref08_Check.j0 k b a l = some (if b = true then 1 else if (l.length : Int) > 256 then 4 else if l.all (fun n => decide (Proper n)) then 0 else 2) := by
  intro b
  obtain ⟨k, rfl⟩ := nat_pred (show 300 < k by omega)
  rw [storagebarterref08_Check.j0]
  cases b
  ·rw [if_neg (show ¬ (false = true) by decide), if_neg (show ¬ (false = true) by decide)]
   by_cases h2 : (l.length : Int) > 256
   ·rw [if_pos h2, if_pos h2]
   ·rw [if_neg h2, if_neg h2]
    have := refCheck_l0 l (by omega) l.length 0 k (by omega) (by omega) (by omega)
    rw [List.drop_zero] at this
    exact this
  ·rfl
 unfold storagebarterref08_Check.f chk
 rw [hj, hj]
 by_cases h : a < 1
 ·rw [if_pos h, if_pos rfl, if_neg (by omega)]
 ·rw [if_neg h]
  by_cases h2 : a ≥ 2147483647
  ·rw [decide_eq_true h2, if_pos rfl, if_neg (by omega)]
  ·rw [decide_eq_false h2, if_neg (show ¬ (false = true) by decide), if_pos (show 1 ≤ a ∧ a < 2147483647 by omega)]
theorem chk_zero {a : Int} {l : List S78} (h : chk a l = 0) : (1 ≤ a ∧ a < 2147483647) ∧ l.length ≤ 256 ∧ ∀ n ∈ l, Proper n := by
 unfold chk at h
 by_cases h1 : 1 ≤ a ∧ a < 2147483647
 ·rw [if_pos h1] at h
  by_cases h2 : (l.length : Int) > 256
  ·rw [if_pos h2] at h; omega
  ·rw [if_neg h2] at h
   by_cases h3 : l.all (fun n => decide (Proper n)) = true
   ·exact ⟨h1, by omega, fun n hn => by simpa using List.all_eq_true.1 h3 n hn⟩
   ·rw [if_neg h3] at h; omega
 ·rw [if_neg h1] at h; omega
def flat (l : List S78) : List Int := l.flatMap (fun n => [n.f0, n.f1])
theorem flat_len (l : List S78) : (flat l).length = 2 * l.length := by
 induction l with
 | nil => rfl
 | cons x l ih => unfold flat at ih ⊢; rw [List.flatMap_cons, List.length_append, ih, List.length_cons]; simp; omega
def enc (a : Int) (l : List S78) : ByteArray × Int := if chk a l = 0 then (B (putI a ++ putL (flat l)), 0) else (⟨#[]⟩, chk a l)
theorem names_l0 (x y : List S78) (hl : x.length = y.length) (hx : x.length ≤ 1000000) : ∀ (d i k : Nat), x.length - i = d → i ≤ x.length → d < k → storagebarterref08_SameNames.l0 k x y (x.length : Int) (i : Int) = some (decide (x.drop i = y.drop i)) := by
 intro d
 induction d with
 | zero =>
  intro i k hd hi hk
  obtain ⟨k, rfl⟩ := nat_pred hk
  rw [storagebarterref08_SameNames.l0, if_neg (by omega), List.drop_of_length_le (by omega), List.drop_of_length_le (by omega)]
  simp
 | succ d ih =>
  intro i k hd hi hk
  obtain ⟨k, rfl⟩ := nat_pred hk
  have h1 : i < x.length := by omega
  have h2 : i < y.length := by omega
  rw [storagebarterref08_SameNames.l0, if_pos (by omega), if_pos (by omega), if_pos (by omega), if_pos (by omega), rdN x i h1, rdN y i h2, List.drop_eq_getElem_cons h1, List.drop_eq_getElem_cons h2]
  by_cases he : x[i] = y[i]
  ·rw [if_neg (by rw [he]; simp), w64 (x := (i : Int) + 1) (by omega), show ((i : Int) + 1) = ((i + 1 : Nat) : Int) by omega, ih (i + 1) k (by omega) (by omega) (by omega)]
   simp only [List.cons.injEq, he, true_and]
  ·rw [if_pos]
   ·simp only [List.cons.injEq, he, false_and, decide_false]
   ·by_cases h0 : x[i].f0 = y[i].f0
    ·by_cases h3 : x[i].f1 = y[i].f1
     ·exact absurd (by cases hxx : x[i]; cases hyy : y[i]; rw [hxx, hyy] at h0 h3; simp only at h0 h3; rw [h0, h3]) he
     ·simp [h3]
    ·simp [h0]
theorem SameNames_eq (x y : List S78) (k : Nat) (hx : x.length ≤ 1000000) (hk : x.length < k) : storagebarterref08_SameNames.f k x y = some (decide (x = y)) := by
 unfold storagebarterref08_SameNames.f
 by_cases h : (x.length : Int) = (y.length : Int)
 ·rw [if_pos h]
  have := names_l0 x y (by omega) hx x.length 0 k (by omega) (by omega) hk
  rw [List.drop_zero, List.drop_zero] at this
  exact this
 ·rw [if_neg h, decide_eq_false (fun e => h (by rw [e]))]
theorem refSame_eq (a b : Int) (x y : List S78) (k : Nat) (hx : x.length ≤ 1000000) (hk : x.length < k) : storagebarterref08_Same.f k a x b y = some (decide (a = b ∧ x = y)) := by
 unfold storagebarterref08_Same.f
 by_cases h : a = b
 ·rw [if_pos h, SameNames_eq x y k hx hk, Option.bind_some]
  congr 1
  exact decide_eq_decide.2 ⟨fun z => ⟨h, z⟩, fun z => z.2⟩
 ·rw [if_neg h, decide_eq_false (fun z => h z.1)]
theorem refSum_l0 (s : ByteArray) (hs : s.size ≤ 9223372036854775807) : ∀ (n i k : Nat) (d : Int), s.size - i = n → i ≤ s.size → 0 ≤ d ∧ d < 2147483647 → n < k → storagebarterref02_Sum.l0 k s d i = some (dg d (s.data.toList.drop i)) := by
 intro n
 induction n with
 | zero =>
  intro i k d hn hi hd hk
  obtain ⟨k, rfl⟩ := nat_pred hk
  rw [storagebarterref02_Sum.l0, if_neg (by omega), List.drop_of_length_le (by rw [data_length]; omega)]
  rfl
 | succ n ih =>
  intro i k d hn hi hd hk
  obtain ⟨k, rfl⟩ := nat_pred hk
  have hlt : i < s.size := by omega
  rw [storagebarterref02_Sum.l0, if_pos (by omega), if_pos (by omega), sum_step s d i hd hlt, w64 (by omega), show ((i : Int) + 1) = ((i + 1 : Nat) : Int) by omega, ih (i + 1) k _ (by omega) (by omega) (by omega) (by omega), List.drop_eq_getElem_cons (show i < s.data.toList.length by rw [data_length]; exact hlt)]
  rfl
theorem refName_eq (s : ByteArray) (hs : s.size ≤ 9223372036854775807) (k : Nat) (hk : s.size < k) : storagebarterref08_Name.f k s = some (dg 1 s.data.toList, (s.size : Int)) := by
 unfold storagebarterref08_Name.f storagebarterref02_Sum.f
 have := refSum_l0 s hs s.size 0 k 1 (by omega) (by omega) (by omega) hk
 rw [show ((0 : Nat) : Int) = 0 from rfl, List.drop_zero] at this
 rw [this]
 rfl
end Go.Proofs.Ytodhkbahjomfhaa.Gcd

namespace Go.Proofs.Ytodhkbahjomfhaa.Gcv
open Go Go.RowKit Go.Proofs.Ytodhkbahjomfhaa.Gm Go.Proofs.Ytodhkbahjomfhaa.Gdm Go.Proofs.Ytodhkbahjomfhaa.Gch Go.Proofs.Ytodhkbahjomfhaa.Gcd Go.Proofs.Ytodhkbahjomfhaa.Q Go.Proofs.YtodhkbahjomfhaaW.PrintWords Go.Proofs.YtodhkbahjomfhaaW.PrintLast Go.Proofs.YtodhkbahjomfhaaW.PrintMore
set_option linter.unusedVariables false
theorem rdS (l : List ByteArray) (i : Nat) (h : i < l.length) : rdOf ByteArray.empty l (i : Int) = l[i] := by simp [rdOf, List.getD, h]
end Go.Proofs.Ytodhkbahjomfhaa.Gcv

namespace Go.Proofs.Ytodhkbahjomfhaa.Gdv
open Go Go.RowKit Go.Proofs.Ytodhkbahjomfhaa.Gm Go.Proofs.Ytodhkbahjomfhaa.Gdm Go.Proofs.Ytodhkbahjomfhaa.Gch Go.Proofs.Ytodhkbahjomfhaa.Gcr Go.Proofs.Ytodhkbahjomfhaa.Gcd Go.Proofs.Ytodhkbahjomfhaa.Gcv Go.Proofs.Ytodhkbahjomfhaa.Gwn Go.Proofs.Ytodhkbahjomfhaa.Gdp Go.Proofs.Ytodhkbahjomfhaa.Q Go.Proofs.YtodhkbahjomfhaaW.PrintWords Go.Proofs.YtodhkbahjomfhaaW.PrintLast Go.Proofs.YtodhkbahjomfhaaW.PrintMore
set_option linter.unusedVariables false
theorem equal_l0 (x y : List S78) (hl : x.length = y.length) (hx : x.length ≤ 1000000) : ∀ (d i k : Nat), x.length - i = d → i ≤ x.length → d < k → api_Name_83.l0 k x y (x.length : Int) (i : Int) = some (decide (x.drop i = y.drop i)) := by
 intro d
 induction d with
 | zero =>
  intro i k hd hi hk
  obtain ⟨k, rfl⟩ := nat_pred hk
  rw [api_Name_83.l0, if_neg (by omega), List.drop_of_length_le (by omega), List.drop_of_length_le (by omega)]
  simp
 | succ d ih =>
  intro i k hd hi hk
  obtain ⟨k, rfl⟩ := nat_pred hk
  have h1 : i < x.length := by omega
  have h2 : i < y.length := by omega
  rw [api_Name_83.l0, if_pos (by omega), if_pos (by omega), if_pos (by omega), if_pos (by omega), rdN x i h1, rdN y i h2, List.drop_eq_getElem_cons h1, List.drop_eq_getElem_cons h2]
  by_cases he : x[i] = y[i]
  ·rw [if_neg (by rw [he]; simp), w64 (x := (i : Int) + 1) (by omega), show ((i : Int) + 1) = ((i + 1 : Nat) : Int) by omega, ih (i + 1) k (by omega) (by omega) (by omega)]
   simp only [List.cons.injEq, he, true_and]
  ·rw [if_pos]
   ·simp only [List.cons.injEq, he, false_and, decide_false]
   ·by_cases h0 : x[i].f0 = y[i].f0
    ·by_cases h3 : x[i].f1 = y[i].f1
     ·exact absurd (by cases hxx : x[i]; cases hyy : y[i]; rw [hxx, hyy] at h0 h3; simp only at h0 h3; rw [h0, h3]) he
     ·simp [h3]
    ·simp [h0]
theorem Same_eq (a b : Int) (x y : List S78) (k : Nat) (hx : x.length ≤ 1000000) (hk : x.length < k) : manifest_Same.f k a x b y = some (decide (a = b ∧ x = y)) := by
 unfold manifest_Same.f
 by_cases h : a = b
 ·have he : api_Name_83.f k x y = some (decide (x = y)) := by
   unfold api_Name_83.f
   by_cases h2 : (x.length : Int) = (y.length : Int)
   ·rw [if_pos h2]
    have := equal_l0 x y (by omega) hx x.length 0 k (by omega) (by omega) hk
    rw [List.drop_zero, List.drop_zero] at this
    exact this
   ·rw [if_neg h2, decide_eq_false (fun e => h2 (by rw [e]))]
  rw [if_pos h, he, Option.bind_some]
  congr 1
  exact decide_eq_decide.2 ⟨fun z => ⟨h, z⟩, fun z => z.2⟩
 ·rw [if_neg h, decide_eq_false (fun z => h z.1)]
theorem nm_pair {s t : ByteArray} : nm s = nm t ↔ (nameS s).f0 = (nameS t).f0 ∧ (nameS s).f1 = (nameS t).f1 := by
 unfold nameS
 constructor
 ·intro h
  rw [h]
  exact ⟨rfl, rfl⟩
 ·rintro ⟨h1, h2⟩
  exact Prod.ext h1 h2
open Classical in
noncomputable def ofAns (a : Int) (q : List ByteArray) : Int × List S78 × Int :=
 if 1 ≤ a ∧ a < 2147483647 then (if (q.length : Int) > 256 then (0, [], 4) else if ∃ s ∈ q, badS s then (0, [], 2) else if Clash q then (0, [], 8) else (a, q.map nameS, 0)) else (0, [], 1)
theorem Of_all (a : Int) (q : List ByteArray) (hq : ∀ s ∈ q, s.size ≤ 9223372036854775807) : manifest_Of.f a q = some (ofAns a q) := by
 unfold manifest_Of.f ofAns
 by_cases h1 : 1 ≤ a ∧ a < 2147483647
 ·rw [if_pos h1, if_pos h1]
  by_cases h2 : (q.length : Int) > 256
  ·rw [if_pos h2, if_pos h2]
  ·rw [if_neg h2, if_neg h2]
   by_cases h3 : ∃ s ∈ q, badS s
   ·rw [if_pos h3, if_pos h3]
   ·rw [if_neg h3, if_neg h3]
    unfold ofEnd
    rw [if_pos (fun s hs => named s (hq s hs))]
    by_cases h4 : Clash q
    ·have : ofGo [] q = true := by
      cases h : ofGo [] q with
      | true => rfl
      | false => exact absurd h4 ((ofGo_clash q).1 h)
     rw [if_pos this, if_pos h4]
    ·rw [(ofGo_clash q).2 h4, if_neg (by simp), if_neg h4]
 ·rw [if_neg h1, if_neg h1]
section
variable (cs : List ByteArray) (a : Int)
theorem refOf_l2_step (hl : cs.length ≤ 256) (i j k : Nat) (hi : i < cs.length) (hj : j < i) :
 storagebarterref08_Of.l2 (k + 1) cs (i : Int) (cs.length : Int) (i : Int) (i : Int) (j : Int) a (cs.map nameS) = open Classical in if nm cs[i] = nm cs[j] ∧ cs[i] ≠ cs[j] then some (0, [], 8) else storagebarterref08_Of.l2 k cs (i : Int) (cs.length : Int) (i : Int) (i : Int) ((j + 1 : Nat) : Int) a (cs.map nameS) := by
 have hml : (cs.map nameS).length = cs.length := List.length_map _
 have hjl : j < cs.length := by omega
 rw [storagebarterref08_Of.l2, if_pos (by omega), if_pos (by omega), if_pos (by omega), if_pos (by omega), if_pos (by omega), w64 (x := (j : Int) + 1) (by omega), show ((j : Int) + 1) = ((j + 1 : Nat) : Int) by omega, if_pos (show (i : Int) < (cs.length : Int) by omega), if_pos (show (j : Int) < (cs.length : Int) by omega), rdS cs i hi, rdS cs j hjl, rdN _ i (by omega), rdN _ j (by omega), List.getElem_map, List.getElem_map]
 by_cases hn : nm cs[i] = nm cs[j]
 ·obtain ⟨h1, h2⟩ := nm_pair.1 hn
  rw [if_pos (by rw [h1, h2]; simp)]
  by_cases he : cs[i] = cs[j]
  ·rw [if_pos (by rw [he]), if_neg (fun z => z.2 he)]
  ·rw [if_neg (fun z => he (toL_inj z)), if_pos ⟨hn, he⟩]
 ·rw [if_neg (fun z => hn (nm_pair.2 (by simpa using z))), if_neg (fun z => hn z.1)]
theorem refOf_l2_end (hl : cs.length ≤ 256) (i k : Nat) (hi : i < cs.length) :
 storagebarterref08_Of.l2 (k + 1) cs (i : Int) (cs.length : Int) (i : Int) (i : Int) (i : Int) a (cs.map nameS) = storagebarterref08_Of.l1 k cs (cs.length : Int) ((i + 1 : Nat) : Int) a (cs.map nameS) := by
 rw [storagebarterref08_Of.l2, if_neg (by omega), w64 (x := (i : Int) + 1) (by omega), show ((i : Int) + 1) = ((i + 1 : Nat) : Int) by omega]
theorem refOf_l2P (hl : cs.length ≤ 256) (i : Nat) (hi : i < cs.length) (K : Nat) (P : Option (Int × List S78 × Int) → Prop) (h8 : Clash cs → P (some (0, [], 8)))
 (hn : ∀ k, K ≤ k → P (storagebarterref08_Of.l1 k cs (cs.length : Int) ((i + 1 : Nat) : Int) a (cs.map nameS))) :
 ∀ (d j k : Nat), i - j = d → j ≤ i → K + d < k → P (storagebarterref08_Of.l2 k cs (i : Int) (cs.length : Int) (i : Int) (i : Int) (j : Int) a (cs.map nameS)) := by
 intro d
 induction d with
 | zero =>
  intro j k hd hj hk
  obtain ⟨k, rfl⟩ := nat_pred (show 0 < k by omega)
  obtain rfl : j = i := by omega
  rw [refOf_l2_end cs a hl j k hi]
  exact hn k (by omega)
 | succ d ih =>
  intro j k hd hj hk
  obtain ⟨k, rfl⟩ := nat_pred (show 0 < k by omega)
  rw [refOf_l2_step cs a hl i j k hi (by omega)]
  split
  ·rename_i h
   exact h8 ⟨i, j, hi, by omega, by omega, h.1, h.2⟩
  ·exact ih (j + 1) k (by omega) (by omega) (by omega)
theorem refOf_l2C (hl : cs.length ≤ 256) (i j0 : Nat) (hi : i < cs.length) (hj0 : j0 < i) (hn : nm cs[i] = nm cs[j0]) (hne : cs[i] ≠ cs[j0]) :
 ∀ (d j k : Nat), j0 - j = d → j ≤ j0 → d < k → storagebarterref08_Of.l2 k cs (i : Int) (cs.length : Int) (i : Int) (i : Int) (j : Int) a (cs.map nameS) = some (0, [], 8) := by
 intro d
 induction d with
 | zero =>
  intro j k hd hj hk
  obtain ⟨k, rfl⟩ := nat_pred (show 0 < k by omega)
  obtain rfl : j = j0 := by omega
  rw [refOf_l2_step cs a hl i j k hi hj0, if_pos ⟨hn, hne⟩]
 | succ d ih =>
  intro j k hd hj hk
  obtain ⟨k, rfl⟩ := nat_pred (show 0 < k by omega)
  rw [refOf_l2_step cs a hl i j k hi (by omega)]
  split
  ·rfl
  ·exact ih (j + 1) k (by omega) (by omega) (by omega)
theorem refOf_l1_step (hl : cs.length ≤ 256) (i k : Nat) (hi : i < cs.length) :
 storagebarterref08_Of.l1 (k + 1) cs (cs.length : Int) (i : Int) a (cs.map nameS) = storagebarterref08_Of.l2 k cs (i : Int) (cs.length : Int) (i : Int) (i : Int) ((0 : Nat) : Int) a (cs.map nameS) := by
 rw [storagebarterref08_Of.l1, if_pos (by omega), if_pos (by omega), if_pos (by omega), Int.toNat_natCast, List.length_take, Nat.min_eq_left (by omega)]
 rfl
theorem refOf_l1N (hl : cs.length ≤ 256) (hc : ¬ Clash cs) : ∀ (d i k : Nat), cs.length - i = d → i ≤ cs.length → 300 * d < k → storagebarterref08_Of.l1 k cs (cs.length : Int) (i : Int) a (cs.map nameS) = some (a, cs.map nameS, 0) := by
 intro d
 induction d with
 | zero =>
  intro i k hd hi hk
  obtain ⟨k, rfl⟩ := nat_pred (show 0 < k by omega)
  rw [storagebarterref08_Of.l1, if_neg (by omega)]
 | succ d ih =>
  intro i k hd hi hk
  obtain ⟨k, rfl⟩ := nat_pred (show 0 < k by omega)
  have hil : i < cs.length := by omega
  rw [refOf_l1_step cs a hl i k hil]
  exact refOf_l2P cs a hl i hil (300 * d + 1) (fun r => r = some (a, cs.map nameS, 0)) (fun z => absurd z hc) (fun k' hk' => ih (i + 1) k' (by omega) (by omega) (by omega)) i 0 k (by omega) (by omega) (by omega)
theorem refOf_l1C (hl : cs.length ≤ 256) (i0 j0 : Nat) (hi0 : i0 < cs.length) (hj0 : j0 < i0) (hn : nm cs[i0] = nm cs[j0]) (hne : cs[i0] ≠ cs[j0]) :
 ∀ (d i k : Nat), i0 - i = d → i ≤ i0 → 300 * (d + 1) < k → storagebarterref08_Of.l1 k cs (cs.length : Int) (i : Int) a (cs.map nameS) = some (0, [], 8) := by
 intro d
 induction d with
 | zero =>
  intro i k hd hi hk
  obtain ⟨k, rfl⟩ := nat_pred (show 0 < k by omega)
  obtain rfl : i = i0 := by omega
  rw [refOf_l1_step cs a hl i k hi0]
  exact refOf_l2C cs a hl i j0 hi0 hj0 hn hne j0 0 k (by omega) (by omega) (by omega)
 | succ d ih =>
  intro i k hd hi hk
  obtain ⟨k, rfl⟩ := nat_pred (show 0 < k by omega)
  have hil : i < cs.length := by omega
  rw [refOf_l1_step cs a hl i k hil]
  exact refOf_l2P cs a hl i hil (300 * (d + 1) + 1) (fun r => r = some (0, [], 8)) (fun _ => rfl) (fun k' hk' => ih (i + 1) k' (by omega) (by omega) (by omega)) i 0 k (by omega) (by omega) (by omega)
theorem refOf_l1_all (hl : cs.length ≤ 256) (k : Nat) (hk : 80000 ≤ k) : storagebarterref08_Of.l1 k cs (cs.length : Int) 0 a (cs.map nameS) = some (open Classical in if Clash cs then (0, [], 8) else (a, cs.map nameS, 0)) := by
 by_cases hc : Clash cs
 ·rw [if_pos hc]
  obtain ⟨i, j, hi, hj, hji, hn, hne⟩ := hc
  exact refOf_l1C cs a hl i j hi hji hn hne i 0 k (by omega) (by omega) (by omega)
 ·rw [if_neg hc]
  exact refOf_l1N cs a hl hc cs.length 0 k (by omega) (by omega) (by omega)
theorem refOf_l0_all (hl : cs.length ≤ 256) : ∀ (d i k : Nat), cs.length - i = d → i ≤ cs.length → 90000 + d < k →
 storagebarterref08_Of.l0 k cs cs (cs.length : Int) (i : Int) a ((cs.take i).map nameS) = some (open Classical in if ∃ s ∈ cs.drop i, badS s then (0, [], 2) else if Clash cs then (0, [], 8) else (a, cs.map nameS, 0)) := by
 intro d
 induction d with
 | zero =>
  intro i k hd hi hk
  obtain ⟨k, rfl⟩ := nat_pred (show 0 < k by omega)
  rw [storagebarterref08_Of.l0, if_neg (by omega), List.take_of_length_le (by omega), refOf_l1_all cs a hl k (by omega), if_neg (show ¬ ∃ s ∈ cs.drop i, badS s from by rw [List.drop_of_length_le (by omega)]; simp)]
 | succ d ih =>
  intro i k hd hi hk
  obtain ⟨k, rfl⟩ := nat_pred (show 0 < k by omega)
  have hil : i < cs.length := by omega
  have h0 := ih (i + 1) k (by omega) (by omega) (by omega)
  have hml : ((cs.take i).map nameS).length = i := by rw [List.length_map, List.length_take]; omega
  rw [storagebarterref08_Of.l0, if_pos (by omega), if_pos (by omega), if_pos (by omega), rdS cs i hil]
  by_cases hb : badS cs[i]
  ·rw [if_pos (show ∃ s ∈ cs.drop i, badS s from ⟨cs[i], by rw [List.drop_eq_getElem_cons hil]; exact List.mem_cons_self, hb⟩)]
   unfold badS at hb
   by_cases h1 : (cs[i].size : Int) < 1
   ·rw [if_pos h1]
   ·rw [if_neg h1, if_pos (show (cs[i].size : Int) > 256 by omega)]
  ·have e : (∃ s ∈ cs.drop i, badS s) ↔ ∃ s ∈ cs.drop (i + 1), badS s := by
    rw [List.drop_eq_getElem_cons hil]
    constructor
    ·rintro ⟨s, hs, h⟩
     rcases List.mem_cons.1 hs with rfl | hs
     ·exact absurd h hb
     ·exact ⟨s, hs, h⟩
    ·rintro ⟨s, hs, h⟩
     exact ⟨s, List.mem_cons_of_mem _ hs, h⟩
   have hb' := hb
   unfold badS at hb'
   rw [List.take_succ_eq_append_getElem hil, List.map_append, List.map_singleton, nameS_eq _ (by omega)] at h0
   rw [if_neg (by omega), if_neg (by omega), refName_eq _ (by omega) k (by omega), Option.bind_some, if_pos (by omega), w64 (x := (i : Int) + 1) (by omega), show ((i : Int) + 1) = ((i + 1 : Nat) : Int) by omega]
   rw [h0]
   congr 1
   by_cases z : ∃ s ∈ cs.drop i, badS s
   ·rw [if_pos z, if_pos (e.1 z)]
   ·rw [if_neg z, if_neg (fun y => z (e.2 y))]
theorem refOf_all (k : Nat) (hk : 91000 ≤ k) : storagebarterref08_Of.f k a cs = some (ofAns a cs) := by
 have hj : ∀ b, storagebarterref08_Of.j0 k a cs b = some (open Classical in if b = true then (0, [], 1) else if (cs.length : Int) > 256 then (0, [], 4) else if ∃ s ∈ cs, badS s then (0, [], 2) else if Clash cs then (0, [], 8) else (a, cs.map nameS, 0)) := by
  intro b
  obtain ⟨k, rfl⟩ := nat_pred (show 90999 < k by omega)
  rw [storagebarterref08_Of.j0]
  cases b
  ·rw [if_neg (show ¬ (false = true) by decide), if_neg (show ¬ (false = true) by decide)]
   by_cases h2 : (cs.length : Int) > 256
   ·rw [if_pos h2, if_pos h2]
   ·rw [if_neg h2, if_neg h2]
    have := refOf_l0_all cs a (by omega) cs.length 0 k (by omega) (by omega) (by omega)
    rw [List.take_zero, List.drop_zero] at this
    exact this
  ·rw [if_pos rfl, if_pos rfl]
 unfold storagebarterref08_Of.f ofAns
 rw [hj, hj]
 by_cases h : a < 1
 ·rw [if_pos h, if_pos rfl, if_neg (by omega)]
 ·rw [if_neg h]
  by_cases h2 : a ≥ 2147483647
  ·rw [decide_eq_true h2, if_pos rfl, if_neg (by omega)]
  ·rw [decide_eq_false h2, if_neg (show ¬ (false = true) by decide), if_pos (show 1 ≤ a ∧ a < 2147483647 by omega)]
end
theorem ofAns_len (a : Int) (q : List ByteArray) : (ofAns a q).2.1.length ≤ 256 := by
 unfold ofAns
 split
 ·split
  ·simp
  ·split
   ·simp
   ·split
    ·simp
    ·simp only [List.length_map]; omega
 ·simp
noncomputable def goF (d z : Int) : Option ByteArray → List ByteArray → Option (Option ByteArray)
 | st, [] => some st
 | st, x :: r => if nm x = (d, z) then (match st with | none => goF d z (some x) r | some t => if x.toList = t.toList then goF d z (some x) r else none) else goF d z st r
theorem goF_nil (d z : Int) (st : Option ByteArray) : goF d z st [] = some st := by
 cases st <;> rfl
theorem goF_cons (d z : Int) (st : Option ByteArray) (x : ByteArray) (r : List ByteArray) : goF d z st (x :: r) = if nm x = (d, z) then (match st with | none => goF d z (some x) r | some t => if x.toList = t.toList then goF d z (some x) r else none) else goF d z st r := by
 cases st <;> rfl
theorem goF_spec (d z : Int) : ∀ (r seen : List ByteArray), (∀ s ∈ seen, nm s = (d, z) → lookS seen d z = some s) →
 goF d z (lookS seen d z) r = open Classical in if ∀ s ∈ seen ++ r, nm s = (d, z) → lookS (seen ++ r) d z = some s then some (lookS (seen ++ r) d z) else none
 | [], seen, h => by
  rw [goF_nil, List.append_nil, if_pos h]
 | x :: r, seen, h => by
  have e : seen ++ x :: r = (seen ++ [x]) ++ r := by simp
  have good : (nm x = (d, z) → ∀ t, lookS seen d z = some t → t = x) → ∀ y ∈ seen ++ [x], nm y = (d, z) → lookS (seen ++ [x]) d z = some y := by
   intro hg y hy hny
   rw [lookS_snoc]
   by_cases hn : nm x = (d, z)
   ·rw [if_pos hn]
    rcases List.mem_append.1 hy with q | q
    ·rw [hg hn y (h y q hny)]
    ·rw [List.mem_singleton.1 q]
   ·rw [if_neg hn]
    rcases List.mem_append.1 hy with q | q
    ·exact h y q hny
    ·rw [List.mem_singleton.1 q] at hny
     exact absurd hny hn
  rw [goF_cons, e]
  by_cases hn : nm x = (d, z)
  ·rw [if_pos hn]
   have hs : some x = lookS (seen ++ [x]) d z := by rw [lookS_snoc, if_pos hn]
   cases hl : lookS seen d z with
   | none =>
    simp only
    rw [hs]
    exact goF_spec d z r (seen ++ [x]) (good (fun _ t ht => by rw [hl] at ht; cases ht))
   | some t =>
    simp only
    by_cases ht : x.toList = t.toList
    ·rw [if_pos ht, hs]
     exact goF_spec d z r (seen ++ [x]) (good (fun _ t' ht' => by rw [hl] at ht'; obtain rfl := Option.some.inj ht'; exact (toL_inj ht).symm))
    ·rw [if_neg ht, if_neg]
     intro q
     have hts : t ∈ seen := List.mem_reverse.1 (List.mem_of_find?_eq_some (by unfold lookS at hl; exact hl))
     have h1 := q t (List.mem_append_left _ (List.mem_append_left _ hts)) (lookS_of_nm hl)
     have h2 := q x (List.mem_append_left _ (List.mem_append_right _ (List.mem_singleton.2 rfl))) hn
     rw [h1] at h2
     exact ht (by rw [Option.some.inj h2])
  ·rw [if_neg hn]
   have hs : lookS seen d z = lookS (seen ++ [x]) d z := by rw [lookS_snoc, if_neg hn]
   rw [hs]
   exact goF_spec d z r (seen ++ [x]) (good (fun q => absurd q hn))
theorem goF_all (d z : Int) (q : List ByteArray) : goF d z none q = open Classical in if (d, z) ∈ reC [] q [] then none else some (lookS q d z) := by
 have h := goF_spec d z q [] (fun s hs => by cases hs)
 have h2 := reC_iff (d := d) (z := z) q [] [] (by simp) (fun s hs => by cases hs)
 rw [List.nil_append] at h h2
 rw [lookS_nil] at h
 rw [h]
 by_cases hc : (d, z) ∈ reC [] q []
 ·rw [if_pos hc, if_neg (fun y => (h2.2 y) hc)]
 ·rw [if_neg hc, if_pos (h2.1 hc)]
section
variable (q : List ByteArray) (hql : q.length ≤ 9000000000000000) (hq : ∀ s ∈ q, s.size ≤ 9223372036854775807)
include hql hq
theorem reL1 (vs : List S78) (x7 : ByteArray) (vi : Int) (d z : Int) (hz : z ≤ 256) : ∀ (n j k : Nat) (st : Option ByteArray) (found : Bool) (text : ByteArray), q.length - j = n → j ≤ q.length → 300 ≤ k → (found = false ↔ st = none) → (∀ t, st = some t → text = t) →
 storagebarterref08_Restore.l1 (k + 2 * n + 1) q x7 found text vs (vs.length : Int) vi q (q.length : Int) (j : Int) d z =
  match goF d z st (q.drop j) with
  | none => some (⟨#[]⟩, 8)
  | some none => some (⟨#[]⟩, 6)
  | some (some t) => if x7.size + t.size ≤ 9223372036854775807 then storagebarterref08_Restore.l0 k q (x7 ++ t) vs (vs.length : Int) (wrap64 (vi + 1)) else none := by
 intro n
 induction n with
 | zero =>
  intro j k st found text hn hj hk h1 h2
  rw [storagebarterref08_Restore.l1, if_neg (by omega), List.drop_of_length_le (by omega), goF_nil]
  cases st with
  | none =>
   rw [h1.2 rfl, if_neg (by simp)]
  | some t =>
   have hf : found = true := by
    cases found
    ·exact absurd (h1.1 rfl) (by simp)
    ·rfl
   rw [hf, if_pos rfl, h2 t rfl]
 | succ n ih =>
  intro j k st found text hn hj hk h1 h2
  have hjl : j < q.length := by omega
  have hsz := hq _ (List.getElem_mem hjl)
  have hfst : ∀ t, st = some t → found = true := by
   intro t ht
   cases found
   ·rw [h1.1 rfl] at ht; cases ht
   ·rfl
  have hj2 : ∀ b, b = !decide (nm q[j] = (d, z)) → storagebarterref08_Restore.j2 (k + 2 * n + 1 + 1) q x7 found text q[j] vs (vs.length : Int) vi q (q.length : Int) (j : Int) b d z =
   match goF d z st (q.drop j) with
   | none => some (⟨#[]⟩, 8)
   | some none => some (⟨#[]⟩, 6)
   | some (some t) => if x7.size + t.size ≤ 9223372036854775807 then storagebarterref08_Restore.l0 k q (x7 ++ t) vs (vs.length : Int) (wrap64 (vi + 1)) else none := by
   intro b hb
   rw [storagebarterref08_Restore.j2, w64 (x := (j : Int) + 1) (by omega), show ((j : Int) + 1) = ((j + 1 : Nat) : Int) by omega, List.drop_eq_getElem_cons hjl, goF_cons]
   by_cases hnm : nm q[j] = (d, z)
   ·rw [hb, decide_eq_true hnm, if_neg (by simp), if_pos hnm]
    cases st with
    | none =>
     rw [h1.2 rfl, if_neg (by simp)]
     exact ih (j + 1) k (some q[j]) true q[j] (by omega) (by omega) hk (by simp) (fun t ht => Option.some.inj ht)
    | some t =>
     rw [hfst t rfl, if_pos rfl, h2 t rfl]
     simp only
     by_cases ht : q[j].toList = t.toList
     ·rw [if_pos ht, if_pos ht]
      exact ih (j + 1) k (some q[j]) true q[j] (by omega) (by omega) hk (by simp) (fun t ht => Option.some.inj ht)
     ·rw [if_neg ht, if_neg ht]
   ·rw [hb, decide_eq_false hnm, if_pos (by simp), if_neg hnm]
    exact ih (j + 1) k st found text (by omega) (by omega) hk h1 h2
  rw [show k + 2 * (n + 1) + 1 = (k + 2 * n + 1 + 1) + 1 by omega, storagebarterref08_Restore.l1, if_pos (by omega), if_pos (by omega), if_pos (by omega), rdS q j hjl]
  by_cases hs : (q[j].size : Int) = z
  ·rw [if_pos hs, refName_eq _ hsz _ (by omega), Option.bind_some]
   refine hj2 _ ?_
   rw [nm_eq _ hsz]
   by_cases hd : dg 1 q[j].data.toList = d
   ·rw [decide_eq_true (by rw [hd, hs])]
    simp [hd, hs]
   ·rw [decide_eq_false (fun y => hd (Prod.mk.inj y).1)]
    simp [hd]
  ·rw [if_neg hs]
   refine hj2 true ?_
   rw [nm_eq _ hsz, decide_eq_false (fun y => hs (Prod.mk.inj y).2)]
   rfl
theorem reL0 (vs : List S78) (hv : vs.length ≤ 256) (hp : ∀ n ∈ vs, Proper n) : ∀ (n i : Nat) (acc : List UInt8) (k : Nat), vs.length - i = n → i ≤ vs.length → acc.length ≤ 256 * i → 300 + (2 * q.length + 2) * n < k →
 storagebarterref08_Restore.l0 k q (B acc) vs (vs.length : Int) (i : Int) = some (reGo q (reC [] q []) acc (vs.drop i)) := by
 intro n
 induction n with
 | zero =>
  intro i acc k hn hi ha hk
  obtain ⟨k, rfl⟩ := nat_pred (show 0 < k by omega)
  rw [storagebarterref08_Restore.l0, if_neg (by omega), List.drop_of_length_le (by omega), reGo]
  rfl
 | succ n ih =>
  intro i acc k hn hi ha hk
  have hil : i < vs.length := by omega
  obtain ⟨h1, h2, h3, h4⟩ := hp _ (List.getElem_mem hil)
  have hmul : (2 * q.length + 2) * (n + 1) = (2 * q.length + 2) * n + 2 * q.length + 2 := by rw [Nat.mul_succ]; omega
  obtain ⟨k, rfl⟩ : ∃ m, k = (m + 2 * q.length + 1) + 1 := ⟨k - 2 * q.length - 2, by omega⟩
  have hstep := reL1 q hql hq vs (B acc) (i : Int) vs[i].f0 vs[i].f1 h4 q.length 0 k none false ⟨#[]⟩ (by omega) (by omega) (by omega) (by simp) (fun t ht => by cases ht)
  rw [List.drop_zero, goF_all] at hstep
  rw [storagebarterref08_Restore.l0, if_pos (by omega), if_pos (by omega), if_pos (by omega), rdN vs i hil]
  refine hstep.trans ?_
  rw [List.drop_eq_getElem_cons hil, reGo]
  cases hl : lookS q vs[i].f0 vs[i].f1 with
  | none =>
   have hc : (vs[i].f0, vs[i].f1) ∉ reC [] q [] := by
    rw [reC_one]
    intro s hs t ht hns hnt
    obtain ⟨t', ht'⟩ := lookS_mem hns hs
    rw [hl] at ht'
    cases ht'
   rw [if_neg hc]
  | some t =>
   simp only
   by_cases hc : (vs[i].f0, vs[i].f1) ∈ reC [] q []
   ·rw [if_pos hc, if_pos hc]
   ·rw [if_neg hc, if_neg hc]
    simp only
    have hts : t ∈ q := List.mem_reverse.1 (List.mem_of_find?_eq_some (by unfold lookS at hl; exact hl))
    have hnt := lookS_of_nm hl
    rw [nm_eq t (hq t hts)] at hnt
    have hsz : (t.size : Int) = vs[i].f1 := (Prod.mk.inj hnt).2
    have htl := data_length t
    have e : B acc ++ t = B (acc ++ t.data.toList) := by
     rw [← B_append]
     rfl
    rw [if_pos (by rw [B_size]; omega), w64 (x := (i : Int) + 1) (by omega), show ((i : Int) + 1) = ((i + 1 : Nat) : Int) by omega, e]
    exact ih (i + 1) _ k (by omega) (by omega) (by rw [List.length_append, htl]; omega) (by omega)
theorem Re_all (v : Int) (vs : List S78) (k : Nat) (hk : 1000 + (2 * q.length + 2) * 256 < k) : ∃ (s : ByteArray) (e : Int), manifest_Restore.f v vs q = some (s, e) ∧ storagebarterref08_Restore.f k v vs q = some (s, e) := by
 by_cases hc : chk v vs = 0
 ·obtain ⟨h1, h2, h3⟩ := chk_zero hc
  refine ⟨(reGo q (reC [] q []) [] vs).1, (reGo q (reC [] q []) [] vs).2, Restore_ok v h1 vs h2 h3 q (by omega) hq, ?_⟩
  have hmul : (2 * q.length + 2) * vs.length ≤ (2 * q.length + 2) * 256 := Nat.mul_le_mul_left _ h2
  have h := reL0 q hql hq vs h2 h3 vs.length 0 [] k (by omega) (by omega) (by simp) (by omega)
  rw [List.drop_zero] at h
  unfold storagebarterref08_Restore.f
  rw [refCheck_eq _ _ k (by omega), Option.bind_some, if_pos hc]
  exact h
 ·refine ⟨⟨#[]⟩, chk v vs, ?_, ?_⟩
  ·unfold manifest_Restore.f
   rw [Check_eq _ _ 1000 (by omega), Option.bind_some, if_neg hc]
  ·unfold storagebarterref08_Restore.f
   rw [refCheck_eq _ _ k (by omega), Option.bind_some, if_neg hc]
end
theorem refSize_l0 (l : List S78) (hl : l.length ≤ 256) (hp : ∀ n ∈ l, Proper n) : ∀ (d i k : Nat), l.length - i = d → i ≤ l.length → d < k → storagebarterref08_Size.l0 k (sumN (l.take i)) l (l.length : Int) (i : Int) = some (sumN l, 0) := by
 intro d
 induction d with
 | zero =>
  intro i k hd hi hk
  obtain ⟨k, rfl⟩ := nat_pred hk
  rw [storagebarterref08_Size.l0, if_neg (by omega), List.take_of_length_le (by omega)]
 | succ d ih =>
  intro i k hd hi hk
  obtain ⟨k, rfl⟩ := nat_pred hk
  have hil : i < l.length := by omega
  obtain ⟨b1, b2⟩ := sumN_bound (l.take i) (fun n hn => hp n (List.mem_of_mem_take hn))
  rw [List.length_take] at b2
  obtain ⟨-, -, h3, h4⟩ := hp _ (List.getElem_mem hil)
  have e : sumN (l.take (i + 1)) = sumN (l.take i) + l[i].f1 := by
   unfold sumN
   rw [List.take_succ_eq_append_getElem hil, List.map_append, List.sum_append]
   simp
  have h1 := ih (i + 1) k (by omega) (by omega) (by omega)
  rw [storagebarterref08_Size.l0, if_pos (by omega), if_pos (by omega), if_pos (by omega), rdN l i hil, w64 (x := sumN (l.take i) + l[i].f1) (by omega), w64 (x := (i : Int) + 1) (by omega), show ((i : Int) + 1) = ((i + 1 : Nat) : Int) by omega, ← e]
  exact h1
theorem Size_all (a : Int) (l : List S78) (k : Nat) (hk : 301 ≤ k) : ∃ m e, manifest_Size.f k a l = some (m, e) ∧ storagebarterref08_Size.f k a l = some (m, e) := by
 by_cases hc : chk a l = 0
 ·obtain ⟨h1, h2, h3⟩ := chk_zero hc
  refine ⟨sumN l, 0, Size_ok a h1 l h2 h3 k (by omega), ?_⟩
  unfold storagebarterref08_Size.f
  rw [refCheck_eq _ _ k hk, Option.bind_some, if_pos hc]
  exact refSize_l0 l h2 h3 l.length 0 k (by omega) (by omega) (by omega)
 ·refine ⟨0, chk a l, ?_, ?_⟩
  ·unfold manifest_Size.f
   rw [Check_eq _ _ k (by omega), Option.bind_some, if_neg hc]
  ·unfold storagebarterref08_Size.f
   rw [refCheck_eq _ _ k hk, Option.bind_some, if_neg hc]
theorem Change_all (a b : Int) (l m : List S78) (k : Nat) (hk : 301 ≤ k) : ∃ p q g, manifest_Change.f k a l b m = some (p, q, g) ∧ storagebarterref08_Change.f k a l b m = some (p, q, g) ∧ p.length ≤ 256 ∧ q.length ≤ 256 := by
 by_cases hc : chk a l = 0
 ·by_cases hd : chk b m = 0
  ·obtain ⟨h1, h2, h3⟩ := chk_zero hc
   obtain ⟨g1, g2, g3⟩ := chk_zero hd
   have n1 := woN_length m l
   have n2 := woN_length l m
   refine ⟨woN m l, woN l m, 0, Change_ok a b h1 g1 l m h2 g2 h3 g3 k (by omega), ?_, by omega, by omega⟩
   unfold storagebarterref08_Change.f
   rw [refCheck_eq _ _ k hk, Option.bind_some, if_pos hc, refCheck_eq _ _ k hk, Option.bind_some, if_pos hd]
   unfold storagebarterref08_without.f
   rw [if_pos ⟨by omega, by omega⟩, Option.bind_some, if_pos ⟨by omega, by omega⟩, Option.bind_some, rwGo_woN, rwGo_woN]
  ·refine ⟨[], [], chk b m, ?_, ?_, by simp, by simp⟩
   ·unfold manifest_Change.f
    rw [Check_eq _ _ k (by omega), Option.bind_some, if_pos hc, Check_eq _ _ k (by omega), Option.bind_some, if_neg hd]
   ·unfold storagebarterref08_Change.f
    rw [refCheck_eq _ _ k hk, Option.bind_some, if_pos hc, refCheck_eq _ _ k hk, Option.bind_some, if_neg hd]
 ·refine ⟨[], [], chk a l, ?_, ?_, by simp, by simp⟩
  ·unfold manifest_Change.f
   rw [Check_eq _ _ k (by omega), Option.bind_some, if_neg hc]
  ·unfold storagebarterref08_Change.f
   rw [refCheck_eq _ _ k hk, Option.bind_some, if_neg hc]
end Go.Proofs.Ytodhkbahjomfhaa.Gdv

namespace Go.Proofs.Ytodhkbahjomfhaa.Pure
open Go Go.RowKit Go.Proofs.Ytodhkbahjomfhaa.Gm Go.Proofs.Ytodhkbahjomfhaa.Gdm Go.Proofs.Ytodhkbahjomfhaa.Gch Go.Proofs.Ytodhkbahjomfhaa.Gcr Go.Proofs.Ytodhkbahjomfhaa.Gcd Go.Proofs.Ytodhkbahjomfhaa.Gcv Go.Proofs.Ytodhkbahjomfhaa.Gdv Go.Proofs.Ytodhkbahjomfhaa.Gdo Go.Proofs.Ytodhkbahjomfhaa.Q Go.Proofs.YtodhkbahjomfhaaW.PrintWords Go.Proofs.YtodhkbahjomfhaaW.PrintLast Go.Proofs.YtodhkbahjomfhaaW.PrintMore
set_option linter.unusedVariables false
theorem small_l0 (l : List ByteArray) (hl : l.length ≤ 9000000000000) : ∀ (d i : Nat) (x : Int) (k : Nat), l.length - i = d → i ≤ l.length → d < k → ∃ b, storagebarterlaw08_small.l0 k x l (l.length : Int) (i : Int) = some b := by
 intro d
 induction d with
 | zero =>
  intro i x k hd hi hk
  obtain ⟨k, rfl⟩ := nat_pred hk
  rw [storagebarterlaw08_small.l0, if_neg (by omega)]
  exact ⟨_, rfl⟩
 | succ d ih =>
  intro i x k hd hi hk
  obtain ⟨k, rfl⟩ := nat_pred hk
  rw [storagebarterlaw08_small.l0, if_pos (by omega), if_pos (by omega), if_pos (by omega), w64 (x := (i : Int) + 1) (by omega), show ((i : Int) + 1) = ((i + 1 : Nat) : Int) by omega]
  exact ih (i + 1) _ k (by omega) (by omega) (by omega)
theorem Version_all (L : List Int) (hL : L.length ≤ 1000000) (at_ : Int) (h0 : 0 ≤ at_) (k : Nat) (hk : 91000 ≤ k) : ∃ a ns at', storagebartermake_Version.f k L at_ = some (a, ns, at') ∧ 0 ≤ at' ∧ ns.length ≤ 256 := by
 unfold storagebartermake_Version.f
 obtain ⟨t, a1, e1, p1, q1, h1⟩ := next_ok L at_ 9 (by omega) (by omega) h0 hL
 rw [e1, Option.bind_some]
 obtain ⟨cs, a2, e2, h2, hc1, hc2⟩ := Chunks_ok L hL a1 h1 k (by omega)
 rw [e2, Option.bind_some]
 dsimp only
 rw [refOf_all _ _ k hk, Option.bind_some]
 exact ⟨_, _, _, rfl, h2, ofAns_len _ _⟩
theorem of_ok (KK : Nat) (hk : 91000 ≤ KK) (q : List ByteArray) (hq : ∀ s ∈ q, s.size ≤ 9223372036854775807) (n : Int) : OfOk KK q n := by
 have h := ofAns_len n q
 refine ⟨(ofAns n q).1, (ofAns n q).2.1, (ofAns n q).2.2, Of_all n q hq, refOf_all q n KK hk, ?_⟩
 rw [refSame_eq _ _ _ _ KK (by omega) (by omega), decide_eq_true ⟨rfl, rfl⟩]
theorem last_ok (KK : Nat) (hk : 91000 ≤ KK) (vb : Int) (nb : List S78) (v : Int) (vs : List S78) (hv : vs.length ≤ 400) : LastOk KK vb nb v vs := by
 obtain ⟨m, e, h1, h2⟩ := Size_all v vs KK (by omega)
 obtain ⟨p, q, g, h3, h4, h5, h6⟩ := Change_all v vb vs nb KK (by omega)
 refine ⟨m, e, p, q, g, chk v vs, decide (v = vb ∧ vs = nb), h1, h2, h3, h4, Check_eq _ _ _ (by omega), refCheck_eq _ _ _ (by omega), ?_, ?_, Same_eq _ _ _ _ _ (by omega) (by omega), refSame_eq _ _ _ _ _ (by omega) (by omega)⟩
 ·rw [SameNames_eq _ _ _ (by omega) (by omega), decide_eq_true rfl]
 ·rw [SameNames_eq _ _ _ (by omega) (by omega), decide_eq_true rfl]
theorem ManifestDoes (L : List Int) (a : Int) (ns : List S78) (ts : List ByteArray) (num : Int) (h0 : L.length * 8 ≤ 140737488351232) (h1 : ts.length * 16 ≤ 140737488351232) (hs : ∀ s ∈ ts, s.size ≤ maxLen) :
 ∃ (KK : Nat) (b3 : Bool) (m9 : Int) (cs : List ByteArray) (at1 va : Int) (na : List S78) (at2 vb : Int) (nb : List S78) (at3 vo : Int) (no : List S78) (eo : Int),
  storagebarterlaw08_sane.f KK = some true ∧ storagebarterlaw08_small.f KK ts = some b3 ∧ ((L.length : Int) ≤ 500 → (ns.length : Int) ≤ 400 → b3 = true → Does KK L a ns ts num m9 cs at1 va na at2 vb nb at3 vo no eo) := by
 obtain ⟨KK, hK⟩ : ∃ KK, KK = 200000 + 600 * ts.length := ⟨_, rfl⟩
 have hsan := sane_ok KK (by omega)
 obtain ⟨b3, hb3⟩ := small_l0 ts (by omega) ts.length 0 0 KK (by omega) (by omega) (by omega)
 by_cases hL : (L.length : Int) ≤ 500
 case neg => exact ⟨KK, b3, 0, [], 0, 0, [], 0, 0, [], 0, 0, [], 0, hsan, hb3, fun z => absurd z hL⟩
 case pos =>
 have hq : ∀ s ∈ ts, s.size ≤ 9223372036854775807 := fun s h => by have := hs s h; unfold maxLen at this; omega
 obtain ⟨cs, at1, e4, p1, c1, c2⟩ := Chunks_ok L (by omega) 0 (by omega) KK (by omega)
 have hqc : ∀ s ∈ cs, s.size ≤ 9223372036854775807 := fun s h => by have := c2 s h; omega
 obtain ⟨va, na, at2, e5, p2, l1⟩ := Version_all L (by omega) at1 p1 KK (by omega)
 obtain ⟨vb, nb, at3, e6, p3, l2⟩ := Version_all L (by omega) at2 p2 KK (by omega)
 have k9 : 91000 ≤ KK := by omega
 have e7 : storagebarterref08_Of.f KK 3 cs = some ((ofAns 3 cs).1, (ofAns 3 cs).2.1, (ofAns 3 cs).2.2) := refOf_all cs 3 KK k9
 have r1 : 1000 + (2 * ts.length + 2) * 256 < KK := by omega
 have r2 : 1000 + (2 * cs.length + 2) * 256 < KK := Nat.lt_of_le_of_lt (Nat.add_le_add_left (Nat.mul_le_mul_right 256 (Nat.add_le_add_right (Nat.mul_le_mul_left 2 c1) 2)) 1000) (Nat.lt_of_lt_of_le (by decide) k9)
 have l3 : cs.length ≤ 9000000000000000 := by omega
 have l4 : ts.length ≤ 9000000000000000 := by omega
 have l5 : na.length ≤ 400 := by omega
 have e8 : storagebartermake_Mod.f num 9 = some (Int.tmod (wrap64 (Int.tmod num 9 + 9)) 9) := if_neg (by decide)
 refine ⟨KK, b3, Int.tmod (wrap64 (Int.tmod num 9 + 9)) 9, cs, at1, va, na, at2, vb, nb, at3, (ofAns 3 cs).1, (ofAns 3 cs).2.1, (ofAns 3 cs).2.2, hsan, hb3, fun _ hn _ => ?_⟩
 have l6 : ns.length ≤ 400 := Int.ofNat_le.1 hn
 exact ⟨e4, e5, e6, e7, e8,
  ⟨of_ok KK k9 ts hq _, of_ok KK k9 ts hq _, of_ok KK k9 cs hqc _, of_ok KK k9 cs hqc _⟩,
  ⟨Re_all ts l4 hq _ _ KK r1, Re_all ts l4 hq _ _ KK r1, Re_all ts l4 hq _ _ KK r1⟩,
  ⟨Re_all cs l3 hqc _ _ KK r2, Re_all cs l3 hqc _ _ KK r2, Re_all cs l3 hqc _ _ KK r2⟩,
  ⟨last_ok KK k9 _ _ _ _ l6, last_ok KK k9 _ _ _ _ l5⟩⟩
end Go.Proofs.Ytodhkbahjomfhaa.Pure

namespace Go.Proofs.Ytodhkbahjomfhaa.Grd
open Go Go.ChangeShapes Go.WideShapes Go.ChangeAt Go.RowKit
set_option linter.unusedVariables false
theorem rd_names {H : Type} {enc : TypeId × Value → H} {W : World} {fuel : Nat} {cs : List Value} {x : DataW H × List MemPlace} (hf : DataW.trod enc Try.prog W 0 (fun _ => true) true fuel 30 cs = some x) :
 ∃ A len cap, ∃ xs : List Q.S78, cs = [.slice A len cap] ∧ xs.length = len ∧ Go.Proofs.YtodhkbahjomfhaaW.PrintWords.Kd.C Q.k78 W A xs.length xs ∧ xs.length ≤ cap ∧ ∀ p ∈ xs, (Lit.int .i64 p.f0).wf = true ∧ (Lit.int .i64 p.f1).wf = true := by
 rcases Go.Deep.open_slice_pairs Try.underlying30 Try.underlying78 (by kernel_rfl) rfl rfl (by kernel_rfl) (by kernel_rfl) hf with ⟨hcs, -⟩ | ⟨a, len, cap, m, n, V0, V1, D0, D1, P0, P1, hcs, hb, hl, hm, hmm, -, hi⟩
 ·exact ⟨none, 0, 0, [], hcs, rfl, Go.Proofs.YtodhkbahjomfhaaW.PrintWords.Kd.C_nil _ _, Nat.le_refl _, fun p hp => by cases hp⟩
 ·have hlm : len ≤ m := by rw [hmm]; simp; exact hl
  have each : ∀ i, i < len → ∃ q : Int × Int, W.cell? (a.add (i * 2)) = some (.int .i64 q.1) ∧ W.cell? (a.add (i * 2 + 1)) = some (.int .i64 q.2) ∧ (Lit.int .i64 q.1).wf = true ∧ (Lit.int .i64 q.2).wf = true := by
   intro i hil
   obtain ⟨e0, e1, t0, t1⟩ := hi i (by omega)
   obtain ⟨b0, hb0, -, wf0⟩ := DataW.trod_int Try.underlying3 t0
   obtain ⟨b1, hb1, -, wf1⟩ := DataW.trod_int Try.underlying3 t1
   have g0 : V0 i = .int .i64 b0 := by simpa using hb0
   have g1 : V1 i = .int .i64 b1 := by simpa using hb1
   rw [g0] at e0
   rw [g1] at e1
   exact ⟨(b0, b1), e0, e1, wf0, wf1⟩
  obtain ⟨q, hq⟩ := Go.Deep.choose_lt each
  refine ⟨some a, len, cap, (List.range len).map (fun i => ⟨(q i).1, (q i).2⟩), hcs, by simp, ⟨rfl, by simp; unfold maxLen at hm; omega, fun _ => ⟨a, rfl, fun j p hj => ?_⟩⟩, by simpa using hl, fun p hp => ?_⟩
  ·have hjl : j < len := by
    have := (List.getElem?_eq_some_iff.1 hj).1
    simpa using this
   simp [hjl] at hj
   obtain ⟨h1, h2, -, -⟩ := hq j hjl
   subst hj
   refine ⟨[.int .i64 (q j).1, .int .i64 (q j).2], rfl, Q.k78_mk _ ⟨(q j).1, (q j).2⟩, fun i u hu => ?_⟩
   match i, hu with
   | 0, hu => simp at hu; subst hu; exact h1
   | 1, hu => simp at hu; subst hu; exact h2
  ·obtain ⟨i, hi2, rfl⟩ := List.mem_map.1 hp
   obtain ⟨-, -, h3, h4⟩ := hq i (List.mem_range.1 hi2)
   exact ⟨h3, h4⟩
end Go.Proofs.Ytodhkbahjomfhaa.Grd

namespace Go.Proofs.Ytodhkbahjomfhaa.manifestDoes
open Go.ChangeShapes Go.WideShapes Go.ChangeAt Go.RowKit
open Go.ChangeMaps (open_string shut_string)
set_option linter.unusedVariables false
theorem own : ownKnob Try.prog.godebug = none := by kernel_rfl
theorem laidOut : laidOutB Try.prog = true := by kernel_rfl
def IsRow (k : IntKind) (w : World) (a : Option Addr) (len cap : Nat) (zs : List Int) : Prop :=
 (a = none ∧ len = 0 ∧ cap = 0 ∧ zs = []) ∨
 ∃ x, a = some x ∧ len ≤ cap ∧ cap ≤ maxLen ∧ zs.length = cap ∧ (∀ i, i < zs.length → w.cell? (x.add i) = some (.int k (zs.getD i 0))) ∧ ∀ n ∈ zs, (Lit.int k n).wf = true
theorem C_strs {H : Type} {enc : TypeId × Value → H} {W : World} {fuel : Nat} {a1 : Option Addr} {len cap : Nat} {x : DataW H × List MemPlace} (hf : DataW.trod enc Try.prog W 0 (fun _ => true) true fuel 23 [.slice a1 len cap] = some x) :
 ∃ xs : List ByteArray, xs.length = len ∧ Go.Proofs.YtodhkbahjomfhaaW.PrintWords.Kd.C Go.Proofs.YtodhkbahjomfhaaW.PrintWords.Kd.string W a1 xs.length xs ∧ xs.length ≤ cap ∧ ∀ s ∈ xs, s.size ≤ maxLen := by
 rcases open_strings Try.underlying23 Try.underlying9 (by kernel_rfl) hf with ⟨hcs, -⟩ | ⟨a, l, c, ss, hcs, hb, hl, hm, hz, hx, hcell, hs⟩
 ·simp at hcs
  obtain ⟨rfl, rfl, rfl⟩ := hcs
  exact ⟨[], rfl, Go.Proofs.YtodhkbahjomfhaaW.PrintWords.Kd.C_nil _ _, Nat.le_refl _, fun p hp => by cases hp⟩
 ·simp at hcs
  obtain ⟨rfl, rfl, rfl⟩ := hcs
  simp only [if_true] at hz
  have hll : (ss.take len).length = len := by rw [List.length_take]; omega
  refine ⟨ss.take len, hll, ⟨rfl, by rw [hll]; unfold maxLen at hm; omega, fun _ => ⟨a, rfl, fun j p hj => ?_⟩⟩, by omega, fun p hp => hs p (List.mem_of_mem_take hp)⟩
  have hjl : j < len := by
   have := (List.getElem?_eq_some_iff.1 hj).1
   omega
  rw [List.getElem?_take, if_pos hjl] at hj
  obtain ⟨hj1, hj2⟩ := List.getElem?_eq_some_iff.1 hj
  refine ⟨[.string p], rfl, rfl, fun i u hu => ?_⟩
  match i, hu with
  | 0, hu =>
   simp at hu
   subst hu
   have h1 := hcell j hj1
   rw [List.getD_eq_getElem?_getD, List.getElem?_eq_getElem hj1, Option.getD_some, hj2] at h1
   simpa [Go.Proofs.YtodhkbahjomfhaaW.PrintWords.Kd.string, Go.Proofs.YtodhkbahjomfhaaW.PrintWords.Kd.scalar] using h1
theorem sized_strs {H : Type} {enc : TypeId × Value → H} {W : World} {base : Nat} {spare : Nat → Bool} {held : Bool} {a : Option Addr} {len cap : Nat} {d : DataW H} {ps : List MemPlace} {ts : List TypeId} {ds : List (DataW H)} {j : Nat}
 (hsz : (DataW.weightsEach Try.prog ts ds).all (· ≤ reachBytes) = true) (ht : ts[j]? = some 23) (hd : ds[j]? = some d) (h : DataW.Trod enc Try.prog W base spare held 23 (.slice a len cap) d ps) : len * 16 ≤ 140737488351232 := by
 obtain ⟨fuel, hf⟩ := h
 rcases open_strings Try.underlying23 Try.underlying9 (by kernel_rfl) hf with ⟨hcs, _⟩ | ⟨x, l, c, ss, hcs, _, hl, _, hz, hx, _, _⟩
 ·simp [Value.cells] at hcs
  obtain ⟨rfl, rfl, rfl⟩ := hcs
  simp
 ·simp [Value.cells] at hcs
  obtain ⟨rfl, rfl, rfl⟩ := hcs
  obtain ⟨hx, _⟩ := Prod.mk.inj hx
  subst hx
  have z := sized_slice hsz ht hd Try.underlying23
  rw [show Try.prog.bytesOf 9 = 16 by kernel_rfl] at z
  have hl2 : len ≤ ss.length := by
   rw [hz]
   split
   ·exact hl
   ·exact Nat.le_refl _
  have h1 : (strs (H := H) (ss.take len)).length + (strs (H := H) (ss.drop len)).length = ss.length := by
   simp [strs]
   omega
  rw [h1] at z
  exact Nat.le_trans (Nat.mul_le_mul_right _ hl2) z
set_option maxRecDepth 100000 in
theorem lifted (os : Os) (started : os.Started) (H : Type) (enc : TypeId × Value → H) :
 ReturnsInHanded {} Try.checked os 12 .any (Rows.manifestDoesSpec.pre6 enc Try.prog Try.f12 Rows.manifestDoesRow.domain false) (Rows.manifestDoesSpec.post enc Try.prog Try.f12 false true false false) := by
 refine returnsInHanded_of_change_sized (C := Try.checked) own started (by kernel_rfl) Try.func12
  (ChangeSpec.witness6 (enc := enc) (C := Try.checked) false ⟨#[], #[.slice none 0 0, .agg #[.int .i64 0, .slice none 0 0], .slice none 0 0, .int .i64 0], []⟩ 8 (by kernel_rfl) (by kernel_rfl) (by kernel_rfl) (by kernel_rfl)) ?_
 intro W base args ds gs before hval0 hW hcnd hsz0 _
 have hsz : (DataW.weightsEach Try.prog (Try.f12.params.toList ++ Rows.manifestDoesSpec.plain.varTypes Try.prog) (ds ++ gs)).all (· ≤ reachBytes) = true := hsz0
 have hval : ∀ (j : Nat) t v, Try.f12.params[j]? = some t → args[j]? = some v → Value.okWide Try.prog W .any base t v := hval0
 have hW' := hW
 obtain ⟨p, q, hA0, hV, rfl, hfz, hnd⟩ := hW
 have hA : DataW.TrodAll enc Try.prog W 0 (fun _ => true) true Try.f12.params.toList args.toList ds p := hA0
 rw [Try.params12] at hA hval hsz
 obtain ⟨v0, vs0, d0, ds0, p0, q0, hargs, rfl, rfl, h0, r0⟩ := trodAll_cons hA
 obtain ⟨v1, vs1, d1, ds1, p1, q1, rfl, rfl, rfl, h1, r1⟩ := trodAll_cons r0
 obtain ⟨v2, vs2, d2, ds2, p2, q2, rfl, rfl, rfl, h2, r2⟩ := trodAll_cons r1
 obtain ⟨v3, vs3, d3, ds3, p3, q3, rfl, rfl, rfl, h3, r3⟩ := trodAll_cons r2
 obtain ⟨rfl, rfl, rfl⟩ := trodAll_nil r3
 obtain rfl : args = #[v0, v1, v2, v3] := by cases args; simp_all
 obtain ⟨rfl, rfl⟩ := trodVars_none hV
 obtain ⟨A0, len0, cap0, rfl⟩ := okWide_slice Try.underlying22 (hval 0 22 v0 rfl rfl)
 have k0 := h0
 have lt0 : ∀ x ∈ p0, x.block < W.heap.size := by obtain ⟨m, hm⟩ := k0; exact DataW.trod_lt m _ _ _ hm
 have y0 : len0 * 8 ≤ 140737488351232 := Go.Proofs.YtodhkbahjomfhaaW.PrintWords.sized_ints hsz (j := 0) (t := 22) rfl rfl Try.underlying22 Try.underlying3 (by kernel_rfl) (by kernel_rfl) h0
 obtain ⟨z0, w0⟩ : ∃ zs, IsRow .i64 W A0 len0 cap0 zs := by
  obtain ⟨fuel, hf⟩ := h0
  rcases open_ints Try.underlying22 Try.underlying3 (by kernel_rfl) hf with ⟨hcs, _⟩ | ⟨x, l, c, zs, hcs, _, hl, hm, hz, _, hcell, hwz⟩
  ·simp [Value.cells] at hcs
   obtain ⟨rfl, rfl, rfl⟩ := hcs
   exact ⟨[], .inl ⟨rfl, rfl, rfl, rfl⟩⟩
  ·simp [Value.cells] at hcs
   obtain ⟨rfl, rfl, rfl⟩ := hcs
   exact ⟨zs, .inr ⟨_, rfl, hl, hm, by simpa using hz, hcell, hwz⟩⟩
 have k1 := h1
 have lt1 : ∀ x ∈ p1, x.block < W.heap.size := by obtain ⟨m, hm⟩ := k1; exact DataW.trod_lt m _ _ _ hm
 obtain ⟨c0_, c1_, z0_, z1_, n1_, rfl, rfl, rfl, t0_, t1_⟩ := Go.Joins.open_agg2 Try.underlying32 (by kernel_rfl) (by kernel_rfl) (hval 1 32 v1 rfl rfl) h1
 obtain ⟨b1, hb1, -, wb1⟩ := DataW.trod_int Try.underlying3 t0_
 obtain ⟨A1, len1, cap1, l1, hcs1, hz1, w1, hc1, hw1⟩ := Grd.rd_names t1_
 obtain rfl : c0_ = .int .i64 b1 := by simpa using hb1
 obtain rfl : c1_ = .slice A1 len1 cap1 := by simpa using hcs1
 subst hz1
 obtain ⟨A2, len2, cap2, rfl⟩ := okWide_slice Try.underlying23 (hval 2 23 v2 rfl rfl)
 have k2 := h2
 have lt2 : ∀ x ∈ p2, x.block < W.heap.size := by obtain ⟨m, hm⟩ := k2; exact DataW.trod_lt m _ _ _ hm
 have y2 : len2 * 16 ≤ 140737488351232 := sized_strs hsz (j := 2) rfl rfl h2
 obtain ⟨l2, hz2, w2, hc2, hw2⟩ : ∃ xs : List ByteArray, xs.length = len2 ∧ Go.Proofs.YtodhkbahjomfhaaW.PrintWords.Kd.C Go.Proofs.YtodhkbahjomfhaaW.PrintWords.Kd.string W A2 xs.length xs ∧ xs.length ≤ cap2 ∧ ∀ s ∈ xs, s.size ≤ maxLen := by
  obtain ⟨fuel, hf⟩ := h2
  exact C_strs (by simpa [Value.cells] using hf)
 obtain ⟨a3, rfl, rfl, rfl, w3⟩ := open_int Try.underlying3 (hval 3 3 v3 rfl rfl) h3
 clear hA0 hval0 hsz0 hsz
 obtain ⟨l0, rfl, hr0, hm0, hw0, hc0⟩ := Go.Proofs.YtodhkbahjomfhaaW.PrintWords.ReadsInt.ofRowC w0
 subst hz2
 obtain ⟨KK, b3_, m9, cs_, at1, va, na, at2, vb, nb, at3, vo, no, eo, g1, g2, g3⟩ := Pure.ManifestDoes l0 b1 l1 l2 a3 y0 y2 hw2
 refine (Gdo.calls KK A0 cap0 l0 b1 A1 cap1 l1 A2 cap2 l2 a3 b3_ m9 cs_ at1 va na at2 vb nb at3 vo no eo W (Go.Proofs.YtodhkbahjomfhaaW.PrintWords.Kd.C_of_reads (d := (0 : Int)) (h1 := fun _ => rfl) hr0) hc0 w1 hc1 w2 hc2 g1 g2 g3).mono fun e W' ⟨he, bel⟩ => ?_
 subst he
 exact ⟨_, rfl, _, _, _, [], _, [], hW', trodAll_mk1 (shut_bool Try.underlying4 _), (trodAll_cons_mk (Below.trod laidOut (by kernel_rfl) (of_decide_eq_true (by kernel_rfl)) k0 bel lt0) (trodAll_cons_mk (Below.trod laidOut (by kernel_rfl) (of_decide_eq_true (by kernel_rfl)) k1 bel lt1) (trodAll_cons_mk (Below.trod laidOut (by kernel_rfl) (of_decide_eq_true (by kernel_rfl)) k2 bel lt2) (trodAll_cons_mk (shut_int Try.underlying3 w3) trodAll_mk0)))), rfl, bel.frame _, fun h => by cases h⟩
theorem over : Rows.manifestDoesRow.holds Try.pinned (OpenSpec.ofChange Rows.manifestDoesSpec) :=
 OpenClaim.holds_of_wide 12 Try.f12 rfl rfl rfl rfl rfl rfl rfl ⟨rfl, rfl, rfl, rfl, rfl⟩ rfl rfl rfl rfl rfl (by kernel_rfl) Try.func12 (by kernel_rfl)
  (of_decide_eq_true (by kernel_rfl)) (by unfold Func.isWrapper; first | (rw [if_pos (by decide +kernel)]; kernel_rfl) | (rw [if_neg (by decide +kernel)]; exact ⟨rfl, rfl⟩))
  (fun os started H enc _ => lifted os started H enc)
theorem proved : Rows.ManifestDoesSaid := over
#print axioms proved
end Go.Proofs.Ytodhkbahjomfhaa.manifestDoes
namespace Go.Proofs.Ytodhkbahjomfhaa
theorem manifestDoes_holds : Rows.ManifestDoesSaid := manifestDoes.proved
end Go.Proofs.Ytodhkbahjomfhaa
