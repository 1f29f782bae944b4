/- Dropping again drops nothing, and keeping fewer drops at least as much. -/
import Derived.Test.YtlkgmfhgnfgmiaaCPruneTwice1
import Derived.Test.YtlkgmfhgnfgmiaaCPruneTwice2
import Derived.OpenShut
import Derived.Test.YtlkgmfhgnfgmiaaRows
import Derived.WalkKit
import Derived.ProofKit
import Derived.ShutString
import Derived.ChangeOld
import Derived.Below
import Derived.SizedLaws
import Derived.Test.YtlkgmfhgnfgmiaaWSized
namespace Go.Proofs.Ytlkgmfhgnfgmiaa.Q
open Go.RowKit Go.Proofs.YtlkgmfhgnfgmiaaW.PrintWords Go.Proofs.YtlkgmfhgnfgmiaaW.PrintLast Go.Proofs.YtlkgmfhgnfgmiaaW.PrintMore
attribute [local go_sem] max2_int min2_int max_two min_two max_three min_three max_four min_four   -- for this text's walks alone
set_option linter.unusedVariables false
set_option linter.unusedSimpArgs false

/-! ### storagebarterref28_SameInts: function 27 -/
def storagebarterref28_SameInts.l0 : Nat → List Int → List Int → Int → Option (Bool)
  | 0, _, _, _ => none
  | k + 1, x0, x1, x5 => if x5 < (x0.length : Int) then (if 0 ≤ x5 then (if x5 < (x1.length : Int) then (if (rd x0 x5) = (rd x1 x5) then (storagebarterref28_SameInts.l0 k x0 x1 (wrap64 (x5 + 1))) else (some false)) else (none)) else (none)) else (some true)
def storagebarterref28_SameInts.f (k : Nat) (l0 : List Int) (l1 : List Int) : Option (Bool) := if (l0.length : Int) = (l1.length : Int) then (storagebarterref28_SameInts.l0 k l0 l1 0) else (some false)
theorem storagebarterref28_SameInts.mono_l : ∀ k, (∀ y0 y1 y2, LeO (storagebarterref28_SameInts.l0 k y0 y1 y2) (storagebarterref28_SameInts.l0 (k + 1) y0 y1 y2))
  | 0 => fun _ _ _ r h => by simp [storagebarterref28_SameInts.l0] at h
  | k + 1 => by
    have ih0 := storagebarterref28_SameInts.mono_l k
    · intro y0 y1 y2
      unfold storagebarterref28_SameInts.l0
      repeat' first
      | (with_reducible exact ih0 _ _ _)
      | (with_reducible exact LeO.refl _)
      | (with_reducible exact LeO.none _)
      | (with_reducible refine LeO.ite ?_ ?_)
      | (with_reducible refine LeO.bind ?_ (fun _ => ?_))
      | exact ih0 _ _ _
      | exact LeO.none _
      | refine LeO.ite ?_ ?_
      | refine LeO.bind ?_ (fun _ => ?_)
theorem storagebarterref28_SameInts.mono : ∀ a0 a1 k, LeO (storagebarterref28_SameInts.f k a0 a1) (storagebarterref28_SameInts.f (k + 1) a0 a1) := by
  intro a0 a1 k
  have ih0 := storagebarterref28_SameInts.mono_l k
  unfold storagebarterref28_SameInts.f
  repeat' first
      | (with_reducible exact ih0 _ _ _)
      | (with_reducible exact LeO.refl _)
      | (with_reducible exact LeO.none _)
      | (with_reducible refine LeO.ite ?_ ?_)
      | (with_reducible refine LeO.bind ?_ (fun _ => ?_))
      | exact ih0 _ _ _
      | exact LeO.none _
      | refine LeO.ite ?_ ?_
      | refine LeO.bind ?_ (fun _ => ?_)
set_option maxHeartbeats 8000000 in
set_option maxRecDepth 100000 in
theorem storagebarterref28_SameInts.calls (k : Nat) (A0 : Option Addr) (c0 : Nat) (l0 : List Int) (A1 : Option Addr) (c1 : Nat) (l1 : List Int) (r : Bool) (w : World) (hr0 : Kd.C (Kd.int .i64) w A0 l0.length l0) (hc0 : l0.length ≤ c0) (hr1 : Kd.C (Kd.int .i64) w A1 l1.length l1) (hc1 : l1.length ≤ c1) (h : storagebarterref28_SameInts.f k l0 l1 = some r) :
    Calls Try.prog 27 #[.slice A0 l0.length c0, .slice A1 l1.length c1] w fun e w' => e = .returned (.bool r) ∧ Drawn0 w w' := by
  have HR0 := Aside0.mk hr0
  have HC0 := Aside0.mk hc0
  clear hr0 hc0
  have HR1 := Aside0.mk hr1
  have HC1 := Aside0.mk hc1
  clear hr1 hc1
  have H : (if (l0.length : Int) = (l1.length : Int) then (storagebarterref28_SameInts.l0 k l0 l1 0) else (some false)) = some r := h
  clear h
  by_cases c3 : (l0.length : Int) = (l1.length : Int)
  · rw [if_pos c3] at H
    have c3b0 : ((l0.length : Int) == (l1.length : Int)) = true := beq_iff_eq.mpr c3
    have c3b1 : ((l0.length : Int) != (l1.length : Int)) = false := bne_eq_false_iff_eq.mpr c3
    have c3b2 : (l0.length == l1.length) = true := by first | simpa using c3 | (simp at c3 ⊢; omega)
    clear c3
    have H' := Aside0.mk H
    clear H
    go_enter Try.func27, Try.ntmps27
    go_wp2
    repeat (go_quiet (fail); try go_wp2)
    go_loopg [5] k (fun kq v5 w' => ∃ (x5_1 : Int), v5 = .int .i64 x5_1 ∧ Aside0 (storagebarterref28_SameInts.l0 kq l0 l1 x5_1 = some r) ∧ Aside0 (kq ≤ k) ∧ Drawn0 w w')
    case atStart => exact ⟨(0), (by first | rfl | (simp; done) | (simp [*]; done)), H', ⟨Nat.le_refl _⟩, by repeat (first | exact Drawn0.refl _ | apply Drawn0.step)⟩
    case round =>
      clear H'
      try clear c1
      try clear c2
      try clear p2
      try clear c3
      try clear c3b0
      try clear c3b1
      try clear c3b2
      obtain ⟨x5_1, rfl, HA, HK1, ⟨m1, rfl⟩⟩ := hrel
      cases gk with
      | zero => exact absurd HA.out (by simp [storagebarterref28_SameInts.l0])
      | succ k1 =>
        have H := HA.out
        clear HA
        simp only [storagebarterref28_SameInts.l0] at H
        by_cases c4 : x5_1 < (l0.length : Int)
        · rw [if_pos c4] at H
          have c4b0 : decide (x5_1 < (l0.length : Int)) = true := decide_eq_true c4
          clear c4
          by_cases c5 : 0 ≤ x5_1
          · rw [if_pos c5] at H
            have c5b0 : decide (0 ≤ x5_1) = true := decide_eq_true c5
            clear c5
            by_cases c6 : x5_1 < (l1.length : Int)
            · rw [if_pos c6] at H
              have c6b0 : decide (x5_1 < (l1.length : Int)) = true := decide_eq_true c6
              clear c6
              by_cases c7 : (rd l0 x5_1) = (rd l1 x5_1)
              · rw [if_pos c7] at H
                have c7b0 : ((rd l0 x5_1) == (rd l1 x5_1)) = true := beq_iff_eq.mpr c7
                have c7b1 : ((rd l0 x5_1) != (rd l1 x5_1)) = false := bne_eq_false_iff_eq.mpr c7
                clear c7
                have H' := Aside0.mk H
                clear H
                have p702 : 0 ≤ (x5_1 : Int) := of_decide_eq_true (by first | (with_reducible assumption) | assumption)
                have q702 : x5_1 < (l0.length : Int) := of_decide_eq_true (by first | (with_reducible assumption) | assumption)
                obtain ⟨ad702, e702, hx702_0⟩ := Kd.at_int HR0.out x5_1 p702 q702
                cases e702
                replace p702 := eq_true p702
                replace q702 := eq_true q702
                have p703 : 0 ≤ (x5_1 : Int) := of_decide_eq_true (by first | (with_reducible assumption) | assumption)
                have q703 : x5_1 < (l1.length : Int) := of_decide_eq_true (by first | (with_reducible assumption) | assumption)
                obtain ⟨ad703, e703, hx703_0⟩ := Kd.at_int HR1.out x5_1 p703 q703
                cases e703
                replace p703 := eq_true p703
                replace q703 := eq_true q703
                go_wp2
                repeat (go_quiet (fail); try go_wp2)
                go_roundg k1
                case measure => have := HK1.out; omega
                case rel => exact ⟨(wrap64 (x5_1 + 1)), (by first | rfl | (simp; done) | (simp [*]; done)), H', ⟨by have := HK1.out; omega⟩, by repeat (first | exact Drawn0.refl _ | apply Drawn0.step)⟩
              · rw [if_neg c7] at H
                have c7b0 : ((rd l0 x5_1) == (rd l1 x5_1)) = false := beq_eq_false_iff_ne.mpr c7
                have c7b1 : ((rd l0 x5_1) != (rd l1 x5_1)) = true := bne_iff_ne.mpr c7
                obtain rfl := Option.some.inj H
                have p702 : 0 ≤ (x5_1 : Int) := of_decide_eq_true (by first | (with_reducible assumption) | assumption)
                have q702 : x5_1 < (l0.length : Int) := of_decide_eq_true (by first | (with_reducible assumption) | assumption)
                obtain ⟨ad702, e702, hx702_0⟩ := Kd.at_int HR0.out x5_1 p702 q702
                cases e702
                replace p702 := eq_true p702
                replace q702 := eq_true q702
                have p703 : 0 ≤ (x5_1 : Int) := of_decide_eq_true (by first | (with_reducible assumption) | assumption)
                have q703 : x5_1 < (l1.length : Int) := of_decide_eq_true (by first | (with_reducible assumption) | assumption)
                obtain ⟨ad703, e703, hx703_0⟩ := Kd.at_int HR1.out x5_1 p703 q703
                cases e703
                replace p703 := eq_true p703
                replace q703 := eq_true q703
                go_wp2
                repeat (go_quiet (fail); try go_wp2)
                go_ret
                exact ⟨by first | rfl | (simp; done) | (simp [*]; done), by repeat (first | exact Drawn0.refl _ | apply Drawn0.step)⟩
            · rw [if_neg c6] at H
              exact absurd H (by simp)
          · rw [if_neg c5] at H
            exact absurd H (by simp)
        · rw [if_neg c4] at H
          have c4b0 : decide (x5_1 < (l0.length : Int)) = false := decide_eq_false c4
          clear c4
          obtain rfl := Option.some.inj H
          go_wp2
          repeat (go_quiet (fail); try go_wp2)
          go_ret
          exact ⟨by first | rfl | (simp; done) | (simp [*]; done), by repeat (first | exact Drawn0.refl _ | apply Drawn0.step)⟩
  · rw [if_neg c3] at H
    have c3b0 : ((l0.length : Int) == (l1.length : Int)) = false := beq_eq_false_iff_ne.mpr c3
    have c3b1 : ((l0.length : Int) != (l1.length : Int)) = true := bne_iff_ne.mpr c3
    have c3b2 : (l0.length == l1.length) = false := by first | simpa using c3 | (simp at c3 ⊢; omega)
    obtain rfl := Option.some.inj H
    go_enter Try.func27, Try.ntmps27
    go_wp2
    repeat (go_quiet (fail); try go_wp2)
    go_ret
    exact ⟨by first | rfl | (simp; done) | (simp [*]; done), by repeat (first | exact Drawn0.refl _ | apply Drawn0.step)⟩

end Go.Proofs.Ytlkgmfhgnfgmiaa.Q

/- The printed functions of 'prune' in plain words: numbers, what is kept, what stays and what goes; the dice and what they make. -/
namespace Go.Proofs.Ytlkgmfhgnfgmiaa.Gpr
open Go Go.RowKit Go.Proofs.Ytlkgmfhgnfgmiaa.Gnum Go.Proofs.Ytlkgmfhgnfgmiaa.Q Go.Proofs.YtlkgmfhgnfgmiaaW.PrintWords Go.Proofs.YtlkgmfhgnfgmiaaW.PrintLast Go.Proofs.YtlkgmfhgnfgmiaaW.PrintMore
set_option linter.unusedVariables false

theorem w64 {x : Int} (h : -9223372036854775808 ≤ x ∧ x ≤ 9223372036854775807) : wrap64 x = x := by unfold wrap64; omega

theorem rd_get (l : List S29) (i : Nat) (h : i < l.length) : rd_T29 l (i : Int) = l[i] := by simp [rd_T29, List.getD, h]
theorem rdI_get (l : List Int) (i : Nat) (h : i < l.length) : rd l (i : Int) = l[i] := by simp [rd, List.getD, h]

section
variable (l : List S29) (o : Int)

def ofOwner : List Int := (l.filter (fun b => decide (b.f0 = o))).map (·.f1)
def numbersOf : List Int := nums (ofOwner l o)
def stays (keep : List Int) (b : S29) : Bool := decide (b.f0 ≠ o ∨ b.f1 ∈ keep)
def stayOf (keep : List Int) : List S29 := l.filter (stays o keep)
def goneOf (keep : List Int) : List S29 := l.filter (fun b => !stays o keep b)

theorem mem_numbers (x : Int) : x ∈ numbersOf l o ↔ ∃ b ∈ l, b.f0 = o ∧ b.f1 = x := by
  unfold numbersOf ofOwner
  rw [nums_mem, List.mem_map]
  constructor
  · rintro ⟨b, hb, rfl⟩
    obtain ⟨h1, h2⟩ := List.mem_filter.1 hb
    exact ⟨b, h1, by simpa using h2, rfl⟩
  · rintro ⟨b, hb, h, rfl⟩
    exact ⟨b, List.mem_filter.2 ⟨hb, by simpa using h⟩, rfl⟩

theorem part_len (keep : List Int) : (stayOf l o keep).length + (goneOf l o keep).length = l.length := by
  unfold stayOf goneOf
  generalize stays o keep = p
  induction l with
  | nil => rfl
  | cons x l ih =>
    cases h : p x
    · simp [List.filter_cons, h]
      omega
    · simp [List.filter_cons, h]
      omega

theorem gone_owner {keep : List Int} {x : S29} (h : x ∈ goneOf l o keep) : x ∈ l ∧ x.f0 = o ∧ x.f1 ∉ keep := by
  obtain ⟨h1, h2⟩ := List.mem_filter.1 h
  have h3 : ¬ (x.f0 ≠ o ∨ x.f1 ∈ keep) := by simpa [stays] using h2
  exact ⟨h1, Classical.byContradiction fun e => h3 (Or.inl e), fun e => h3 (Or.inr e)⟩

theorem gone_newer (n : Nat) {x : S29} (h : x ∈ goneOf l o (lastN (numbersOf l o) n)) : n ≤ ((numbersOf l o).filter (fun m => decide (x.f1 < m))).length := by
  obtain ⟨h1, h2, h3⟩ := gone_owner l o h
  have hm : x.f1 ∈ numbersOf l o := (mem_numbers l o _).2 ⟨x, h1, h2, rfl⟩
  obtain ⟨e, ha⟩ := lastN_above (nums_asc _) n hm h3
  have hs : ((lastN (numbersOf l o) n).filter (fun m => decide (x.f1 < m))).Sublist ((numbersOf l o).filter (fun m => decide (x.f1 < m))) := (List.drop_sublist _ _).filter _
  have hf : (lastN (numbersOf l o) n).filter (fun m => decide (x.f1 < m)) = lastN (numbersOf l o) n := List.filter_eq_self.2 fun y hy => by simpa using ha y hy
  have := hs.length_le
  rw [hf] at this
  have e' : (lastN (numbersOf l o) n).length = n := e
  omega

theorem left_keep (n : Nat) : numbersOf (stayOf l o (lastN (numbersOf l o) n)) o = lastN (numbersOf l o) n := by
  refine asc_ext _ _ (nums_asc _) (lastN_asc (nums_asc _) n) fun x => ?_
  rw [mem_numbers]
  constructor
  · rintro ⟨b, hb, h1, rfl⟩
    obtain ⟨h2, h3⟩ := List.mem_filter.1 hb
    have h4 : b.f0 ≠ o ∨ b.f1 ∈ lastN (numbersOf l o) n := by simpa [stays] using h3
    exact h4.resolve_left fun e => e h1
  · intro hx
    obtain ⟨b, hb, h1, rfl⟩ := (mem_numbers l o x).1 (lastN_sub hx)
    exact ⟨b, List.mem_filter.2 ⟨hb, by simp only [stays]; exact decide_eq_true (Or.inr hx)⟩, h1, rfl⟩

theorem left_other (keep : List Int) (o' : Int) (ho : o' ≠ o) : numbersOf (stayOf l o keep) o' = numbersOf l o' := by
  refine asc_ext _ _ (nums_asc _) (nums_asc _) fun x => ?_
  rw [mem_numbers, mem_numbers]
  constructor
  · rintro ⟨b, hb, h1, rfl⟩
    exact ⟨b, (List.mem_filter.1 hb).1, h1, rfl⟩
  · rintro ⟨b, hb, h1, rfl⟩
    exact ⟨b, List.mem_filter.2 ⟨hb, by simp only [stays]; exact decide_eq_true (Or.inl (by rw [h1]; exact ho))⟩, h1, rfl⟩
end

theorem ofOwner_len (l : List S29) (o : Int) : (ofOwner l o).length ≤ l.length := by
  unfold ofOwner
  rw [List.length_map]
  exact List.length_filter_le _ _

theorem numbers_len (l : List S29) (o : Int) : (numbersOf l o).length ≤ l.length := by
  have h1 : (numbersOf l o).length ≤ (srt (ofOwner l o)).length := Lib.compact_length_le _
  have h2 : (srt (ofOwner l o)).length = (ofOwner l o).length := List.length_mergeSort _
  have := ofOwner_len l o
  omega

theorem ofOwner_succ (l : List S29) (o : Int) (i : Nat) (h : i < l.length) : ofOwner (l.take (i + 1)) o = ofOwner (l.take i) o ++ (if l[i].f0 = o then [l[i].f1] else []) := by
  unfold ofOwner
  rw [List.take_succ_eq_append_getElem h, List.filter_append, List.map_append]
  by_cases e : l[i].f0 = o <;> simp [List.filter, e]

theorem Numbers_l0 (l : List S29) (o : Int) (hl : l.length ≤ 1000) : ∀ (d i k : Nat), l.length - i = d → i ≤ l.length → d < k →
    prune_Numbers.l0 k o (ofOwner (l.take i) o) l (l.length : Int) (i : Int) = some (numbersOf l o) := by
  intro d
  induction d with
  | zero =>
    intro i k hd hi hk
    obtain ⟨k, rfl⟩ : ∃ m, k = m + 1 := ⟨k - 1, by omega⟩
    have e : l.take i = l := List.take_of_length_le (by omega)
    have h1 := ofOwner_len l o
    have h2 : (srt (ofOwner l o)).length = (ofOwner l o).length := List.length_mergeSort _
    rw [prune_Numbers.l0, if_neg (by omega), e, if_pos (by simp only [List.length_nil]; omega), Option.bind_some, if_pos (by simp only [List.length_nil]; omega)]
    rfl
  | succ d ih =>
    intro i k hd hi hk
    obtain ⟨k, rfl⟩ : ∃ m, k = m + 1 := ⟨k - 1, by omega⟩
    have hil : i < l.length := by omega
    have h1 := ofOwner_len (l.take i) o
    rw [List.length_take] at h1
    have hs := ofOwner_succ l o i hil
    have ih' := ih (i + 1) k (by omega) (by omega) (by omega)
    rw [prune_Numbers.l0, if_pos (by omega), if_pos (by omega), if_pos (by omega), rd_get l i hil, w64 (by omega), show ((i : Int) + 1) = ((i + 1 : Nat) : Int) by omega]
    by_cases e : l[i].f0 = o
    · rw [if_pos e] at hs
      rw [if_pos e, if_pos (by omega), ← hs]
      exact ih'
    · rw [if_neg e, List.append_nil] at hs
      rw [if_neg e, ← hs]
      exact ih'

theorem Numbers_eq (l : List S29) (o : Int) (k : Nat) (hl : l.length ≤ 1000) (hk : 1001 ≤ k) : prune_Numbers.f k l o = some (numbersOf l o) := by
  unfold prune_Numbers.f
  have := Numbers_l0 l o hl l.length 0 k (by omega) (by omega) (by omega)
  simpa [ofOwner] using this

theorem Keep_eq (l : List S29) (o : Int) (n : Nat) (k : Nat) (hl : l.length ≤ 1000) (hn : n ≤ 1000) (hk : 1001 ≤ k) : prune_Keep.f k l o (n : Int) = some (lastN (numbersOf l o) n) := by
  unfold prune_Keep.f
  have h1 := numbers_len l o
  rw [Numbers_eq l o k hl hk, Option.bind_some]
  have e : ((numbersOf l o).length : Int) - mn ((numbersOf l o).length : Int) (mx 0 (n : Int)) = (((numbersOf l o).length - n : Nat) : Int) := by
    unfold mn mx
    split <;> split <;> omega
  rw [e, w64 (by omega), if_pos (by omega), if_pos (by omega), Int.toNat_natCast]
  rfl

theorem Index_l0 (l : List Int) (x : Int) (hl : l.length ≤ 1000000) : ∀ (d i k : Nat), l.length - i = d → i ≤ l.length → d < k → ∃ r, slices_Index_int_int.l0 k l x (l.length : Int) (i : Int) = some r ∧ (r ≥ 0 ↔ x ∈ l.drop i) := by
  intro d
  induction d with
  | zero =>
    intro i k hd hi hk
    obtain ⟨k, rfl⟩ : ∃ m, k = m + 1 := ⟨k - 1, by omega⟩
    exact ⟨-1, by rw [slices_Index_int_int.l0, if_neg (by omega)], by rw [List.drop_of_length_le (by omega)]; simp⟩
  | succ d ih =>
    intro i k hd hi hk
    obtain ⟨k, rfl⟩ : ∃ m, k = m + 1 := ⟨k - 1, by omega⟩
    have hil : i < l.length := by omega
    rw [slices_Index_int_int.l0, if_pos (by omega), if_pos (by omega), if_pos (by omega), rdI_get l i hil, List.drop_eq_getElem_cons hil]
    by_cases e : x = l[i]
    · exact ⟨i, by rw [if_pos e], ⟨fun _ => by rw [e]; exact List.mem_cons_self, fun _ => by omega⟩⟩
    · obtain ⟨r, h1, h2⟩ := ih (i + 1) k (by omega) (by omega) (by omega)
      refine ⟨r, by rw [if_neg e, w64 (by omega), show ((i : Int) + 1) = ((i + 1 : Nat) : Int) by omega]; exact h1, h2.trans ?_⟩
      rw [List.mem_cons]
      exact ⟨Or.inr, fun z => z.resolve_left e⟩

theorem Contains_eq (l : List Int) (x : Int) (k : Nat) (hl : l.length ≤ 1000000) (hk : l.length < k) : slices_Contains_int_int.f k l x = some (decide (x ∈ l)) := by
  unfold slices_Contains_int_int.f slices_Index_int_int.f
  obtain ⟨r, h1, h2⟩ := Index_l0 l x hl l.length 0 k (by omega) (by omega) hk
  rw [show ((0 : Nat) : Int) = 0 from rfl] at h1
  rw [h1, Option.bind_some, decide_eq_decide.2 (by simpa using h2)]

theorem Own_eq (a b c : Int) (l4 : List S74) (k : Nat) (hl : l4.length ≤ 1000000) (hk : 1 ≤ k) : backup_Own.f k a b c [] l4 = some (a, b, c, [], l4) := by
  obtain ⟨k, rfl⟩ : ∃ m, k = m + 1 := ⟨k - 1, by omega⟩
  unfold backup_Own.f api_Place_78.f api_Stripe.f
  rw [if_pos hl, Option.bind_some, Option.bind_some, backup_Own.l0, if_neg (by simp)]

/-- Backups without stripes, with few places. -/
def Plain (l : List S29) : Prop := ∀ b ∈ l, b.f3 = [] ∧ b.f4.length ≤ 1000

theorem Plain.stay {l : List S29} (h : Plain l) (o : Int) (keep : List Int) : Plain (stayOf l o keep) := fun b hb => h b (List.mem_filter.1 hb).1

theorem filter_succ (l : List S29) (p : S29 → Bool) (i : Nat) (h : i < l.length) : (l.take (i + 1)).filter p = (l.take i).filter p ++ (if p l[i] = true then [l[i]] else []) := by
  rw [List.take_succ_eq_append_getElem h, List.filter_append]
  by_cases e : p l[i] = true <;> simp [List.filter, e]

theorem Drop_l0 (l : List S29) (o : Int) (keep : List Int) (hk0 : keep.length ≤ 1000) (hl : l.length ≤ 1000) (hp : Plain l) : ∀ (d i k : Nat), l.length - i = d → i ≤ l.length → 2000 + 2 * d ≤ k →
    prune_Drop.l0 k o keep (stayOf (l.take i) o keep) (goneOf (l.take i) o keep) l (l.length : Int) (i : Int) = some (stayOf l o keep, goneOf l o keep) := by
  intro d
  induction d with
  | zero =>
    intro i k hd hi hk
    obtain ⟨k, rfl⟩ : ∃ m, k = m + 1 := ⟨k - 1, by omega⟩
    rw [prune_Drop.l0, if_neg (by omega), List.take_of_length_le (by omega)]
  | succ d ih =>
    intro i k hd hi hk
    obtain ⟨k, rfl⟩ : ∃ m, k = m + 2 := ⟨k - 2, by omega⟩
    have hil : i < l.length := by omega
    have ih' := ih (i + 1) k (by omega) (by omega) (by omega)
    have hs : stayOf (l.take (i + 1)) o keep = _ := filter_succ l (stays o keep) i hil
    have hg : goneOf (l.take (i + 1)) o keep = _ := filter_succ l (fun b => !stays o keep b) i hil
    have hb := hp l[i] (List.getElem_mem hil)
    have hl1 : (stayOf (l.take i) o keep).length ≤ 1000 := by
      have := List.length_filter_le (stays o keep) (l.take i)
      rw [List.length_take] at this
      unfold stayOf
      omega
    have hl2 : (goneOf (l.take i) o keep).length ≤ 1000 := by
      have := List.length_filter_le (fun b => !stays o keep b) (l.take i)
      rw [List.length_take] at this
      unfold goneOf
      omega
    have e0 : prune_Drop.l0 (k + 2) o keep (stayOf (l.take i) o keep) (goneOf (l.take i) o keep) l (l.length : Int) (i : Int) =
        prune_Drop.j1 (k + 1) o keep (stayOf (l.take i) o keep) (goneOf (l.take i) o keep) l (l.length : Int) (i : Int) (stays o keep l[i]) l[i].f0 l[i].f1 l[i].f2 l[i].f3 l[i].f4 := by
      rw [prune_Drop.l0, if_pos (by omega), if_pos (by omega), if_pos (by omega), rd_get l i hil]
      by_cases e : l[i].f0 = o
      · rw [if_pos e, Contains_eq _ _ _ (by omega) (by omega), Option.bind_some]
        congr 1
        simp [stays, e]
      · rw [if_neg e]
        congr 1
        simp [stays, e]
    have hx : (⟨l[i].f0, l[i].f1, l[i].f2, [], l[i].f4⟩ : S29) = l[i] := by rw [← hb.1]
    rw [e0, prune_Drop.j1, hb.1, Own_eq _ _ _ _ _ (by omega) (by omega), Option.bind_some, hx, w64 (by omega), show ((i : Int) + 1) = ((i + 1 : Nat) : Int) by omega]
    by_cases e : stays o keep l[i] = true
    · rw [if_pos e] at hs
      rw [if_neg (by simp [e]), List.append_nil] at hg
      rw [if_pos e, if_pos (by omega)]
      unfold stayOf at hs ih' ⊢
      unfold goneOf at hg ih' ⊢
      rw [← hs, ← hg]
      exact ih'
    · rw [if_neg e, List.append_nil] at hs
      rw [if_pos (by simp [e])] at hg
      rw [if_neg e, Option.bind_some, if_pos (by omega)]
      simp only
      rw [hx]
      unfold stayOf at hs ih' ⊢
      unfold goneOf at hg ih' ⊢
      rw [← hs, ← hg]
      exact ih'

theorem Drop_eq (l : List S29) (o : Int) (n : Nat) (k : Nat) (hl : l.length ≤ 1000) (hn : n ≤ 1000) (hp : Plain l) (hk : 4000 ≤ k) : prune_Drop.f k l o (n : Int) = some (stayOf l o (lastN (numbersOf l o) n), goneOf l o (lastN (numbersOf l o) n)) := by
  unfold prune_Drop.f
  have h1 := numbers_len l o
  have h2 := lastN_len (numbersOf l o) n
  rw [Keep_eq l o n k hl hn (by omega), Option.bind_some]
  have := Drop_l0 l o (lastN (numbersOf l o) n) (by omega) hl hp l.length 0 k (by omega) (by omega) (by omega)
  simpa [stayOf, goneOf] using this

theorem SameInts_l0 (l : List Int) (hl : l.length ≤ 1000000) : ∀ (d i k : Nat), l.length - i = d → i ≤ l.length → d < k → storagebarterref28_SameInts.l0 k l l (i : Int) = some true := by
  intro d
  induction d with
  | zero =>
    intro i k hd hi hk
    obtain ⟨k, rfl⟩ : ∃ m, k = m + 1 := ⟨k - 1, by omega⟩
    rw [storagebarterref28_SameInts.l0, if_neg (by omega)]
  | succ d ih =>
    intro i k hd hi hk
    obtain ⟨k, rfl⟩ : ∃ m, k = m + 1 := ⟨k - 1, by omega⟩
    rw [storagebarterref28_SameInts.l0, if_pos (by omega), if_pos (by omega), if_pos (by omega), if_pos rfl, w64 (by omega), show ((i : Int) + 1) = ((i + 1 : Nat) : Int) by omega]
    exact ih (i + 1) k (by omega) (by omega) (by omega)

theorem SameInts_eq (l : List Int) (k : Nat) (hl : l.length ≤ 1000000) (hk : l.length < k) : storagebarterref28_SameInts.f k l l = some true := by
  unfold storagebarterref28_SameInts.f
  rw [if_pos rfl]
  exact SameInts_l0 l hl l.length 0 k (by omega) (by omega) hk

/-! ### Dice -/

/-- Seeds. -/
def Seeds (L : List Int) : Prop := L.length ≤ 300 ∧ ∀ x ∈ L, 0 ≤ x ∧ x ≤ 255

theorem New_ok (l : List Int) (h : ∀ x ∈ l, (Lit.int .u8 x).wf = true) : ∃ L, storagebarterplay_New.f l = some (L, 0) ∧ Seeds L := by
  unfold storagebarterplay_New.f
  by_cases h3 : (l.length : Int) > 300
  · rw [if_pos h3, if_pos (by omega)]
    refine ⟨_, rfl, by rw [List.length_take]; omega, fun x hx => ?_⟩
    have := bounds_u8 (h x (List.mem_of_mem_take hx))
    omega
  · rw [if_neg h3]
    refine ⟨_, rfl, by omega, fun x hx => ?_⟩
    have := bounds_u8 (h x hx)
    omega

theorem Pick_ok {L : List Int} (hL : Seeds L) (at_ n : Int) (h0 : 0 ≤ at_) (hn : 1 ≤ n) (hb : n ≤ 1000000) : ∃ t at', storagebarterplay_Dice_Pick.f L at_ n = some (t, at') ∧ 0 ≤ t ∧ t < n ∧ 0 ≤ at' := by
  obtain ⟨hl, hv⟩ := hL
  unfold storagebarterplay_Dice_Pick.f
  by_cases h : at_ ≥ (L.length : Int)
  · rw [if_pos h]
    exact ⟨0, at_, rfl, by omega, by omega, h0⟩
  · rw [if_neg h, w64 (x := at_ + 1) (by omega), show at_ + 1 - 1 = at_ by omega, w64 (x := at_) (by omega), if_pos h0, if_pos (by omega), if_neg (by omega)]
    obtain ⟨i, rfl⟩ : ∃ i : Nat, at_ = i := ⟨at_.toNat, by omega⟩
    have hil : i < L.length := by omega
    rw [rdI_get L i hil]
    have hx := hv L[i] (List.getElem_mem hil)
    rw [w64 (x := L[i]) (by omega), Int.tmod_eq_emod_of_nonneg hx.1]
    exact ⟨_, _, rfl, Int.emod_nonneg _ (by omega), Int.emod_lt_of_pos _ (by omega), by omega⟩

theorem Shard_ok {L : List Int} (hL : Seeds L) (at_ : Int) (h0 : 0 ≤ at_) : ∃ t at', storagebarterplay_Dice_Shard.f L at_ = some (t, at') ∧ 0 ≤ at' := by
  unfold storagebarterplay_Dice_Shard.f
  obtain ⟨t, at', e, h1, h2, h3⟩ := Pick_ok hL at_ 4 h0 (by omega) (by omega)
  rw [Option.bind_some, e, Option.bind_some, if_pos h1, if_pos (by simpa using h2)]
  exact ⟨_, _, rfl, h3⟩

theorem made_l2 {L : List Int} (hL : Seeds L) (l : List S29) : ∀ (n : Nat) (sh : List S72) (at_ : Int) (k : Nat), 0 ≤ at_ → n < k → sh.length + n ≤ 1000 → ∃ sh' at', storagebarterlaw39_made.l2 k l sh (n : Int) L at_ = some (l, sh', at') ∧ 0 ≤ at' := by
  intro n
  induction n with
  | zero =>
    intro sh at_ k h0 hk hl
    obtain ⟨k, rfl⟩ : ∃ m, k = m + 1 := ⟨k - 1, by omega⟩
    rw [storagebarterlaw39_made.l2, if_neg (by omega)]
    exact ⟨_, _, rfl, h0⟩
  | succ n ih =>
    intro sh at_ k h0 hk hl
    obtain ⟨k, rfl⟩ : ∃ m, k = m + 1 := ⟨k - 1, by omega⟩
    obtain ⟨t1, a1, e1, -, -, h1⟩ := Pick_ok hL at_ 3 h0 (by omega) (by omega)
    obtain ⟨t2, a2, e2, -, -, h2⟩ := Pick_ok hL a1 4 h1 (by omega) (by omega)
    obtain ⟨t3, a3, e3, -, -, h3⟩ := Pick_ok hL a2 2 h2 (by omega) (by omega)
    obtain ⟨t4, a4, e4, -, -, h4⟩ := Pick_ok hL a3 3 h3 (by omega) (by omega)
    obtain ⟨t5, a5, e5, h5⟩ := Shard_ok hL a4 h4
    rw [storagebarterlaw39_made.l2, if_pos (by omega), e1, Option.bind_some, e2, Option.bind_some, e3, Option.bind_some, e4, Option.bind_some, e5, Option.bind_some, if_pos (by omega), w64 (x := ((n + 1 : Nat) : Int) - 1) (by omega), show (((n + 1 : Nat) : Int) - 1) = (n : Int) by omega]
    refine ih _ _ k h5 (by omega) ?_
    rw [List.length_append, List.length_singleton]
    omega

theorem made_l1 {L : List Int} (hL : Seeds L) (l : List S29) (hl : l.length ≤ 1000) (x5 : Int) (o m : Int) (K : Nat) (R : List S29 → List S72 → Int → Prop)
    (hc : ∀ (k : Nat) (pl : List S74) (at' : Int), K ≤ k → pl.length ≤ 10 → 0 ≤ at' → ∃ l' sh at'', storagebarterlaw39_made.l0 k (l ++ [⟨o, m, 0, [], pl⟩]) (wrap64 (x5 - 1)) L at' = some (l', sh, at'') ∧ R l' sh at'') :
    ∀ (n : Nat) (pl : List S74) (at_ : Int) (k : Nat), 0 ≤ at_ → K + 1 + n ≤ k → pl.length + n ≤ 10 → ∃ l' sh at'', storagebarterlaw39_made.l1 k l x5 (n : Int) L at_ o m 0 pl = some (l', sh, at'') ∧ R l' sh at'' := by
  intro n
  induction n with
  | zero =>
    intro pl at_ k h0 hk hp
    obtain ⟨k, rfl⟩ : ∃ m, k = m + 1 := ⟨k - 1, by omega⟩
    rw [storagebarterlaw39_made.l1, if_neg (by omega), if_pos (by omega)]
    exact hc k pl at_ (by omega) (by omega) h0
  | succ n ih =>
    intro pl at_ k h0 hk hp
    obtain ⟨k, rfl⟩ : ∃ m, k = m + 1 := ⟨k - 1, by omega⟩
    obtain ⟨t1, a1, e1, -, -, h1⟩ := Pick_ok hL at_ 2 h0 (by omega) (by omega)
    obtain ⟨t2, a2, e2, -, -, h2⟩ := Pick_ok hL a1 3 h1 (by omega) (by omega)
    obtain ⟨t3, a3, e3, -, -, h3⟩ := Pick_ok hL a2 2 h2 (by omega) (by omega)
    rw [storagebarterlaw39_made.l1, if_pos (by omega), e1, Option.bind_some, e2, Option.bind_some, e3, Option.bind_some, if_pos (by omega), w64 (x := ((n + 1 : Nat) : Int) - 1) (by omega), show (((n + 1 : Nat) : Int) - 1) = (n : Int) by omega]
    refine ih _ _ k h3 (by omega) ?_
    rw [List.length_append, List.length_singleton]
    omega

theorem made_l0 {L : List Int} (hL : Seeds L) : ∀ (n : Nat) (l : List S29) (at_ : Int) (k : Nat), 0 ≤ at_ → Plain l → l.length + n ≤ 10 → 100 + 20 * n ≤ k →
    ∃ l' sh at'', storagebarterlaw39_made.l0 k l (n : Int) L at_ = some (l', sh, at'') ∧ (Plain l' ∧ l'.length ≤ 10 ∧ 0 ≤ at'') := by
  intro n
  induction n with
  | zero =>
    intro l at_ k h0 hp hl hk
    obtain ⟨k, rfl⟩ : ∃ m, k = m + 1 := ⟨k - 1, by omega⟩
    obtain ⟨t, a, e, h1, h2, h3⟩ := Pick_ok hL at_ 8 h0 (by omega) (by omega)
    rw [storagebarterlaw39_made.l0, if_neg (by omega), e, Option.bind_some]
    obtain ⟨m, rfl⟩ : ∃ m : Nat, t = m := ⟨t.toNat, by omega⟩
    obtain ⟨sh, a2, e2, h4⟩ := made_l2 hL l m [] a k h3 (by omega) (by rw [List.length_nil]; omega)
    exact ⟨_, _, _, e2, hp, by omega, h4⟩
  | succ n ih =>
    intro l at_ k h0 hp hl hk
    obtain ⟨k, rfl⟩ : ∃ m, k = m + 1 := ⟨k - 1, by omega⟩
    obtain ⟨t1, a1, e1, p1, q1, h1⟩ := Pick_ok hL at_ 3 h0 (by omega) (by omega)
    obtain ⟨t2, a2, e2, p2, q2, h2⟩ := Pick_ok hL a1 4 h1 (by omega) (by omega)
    obtain ⟨t3, a3, e3, p3, q3, h3⟩ := Pick_ok hL a2 4 h2 (by omega) (by omega)
    obtain ⟨m, rfl⟩ : ∃ m : Nat, t3 = m := ⟨t3.toNat, by omega⟩
    rw [storagebarterlaw39_made.l0, if_pos (by omega), e1, Option.bind_some, e2, Option.bind_some, e3, Option.bind_some]
    refine made_l1 hL l (by omega) _ _ _ (100 + 20 * n) (fun l' sh at'' => Plain l' ∧ l'.length ≤ 10 ∧ 0 ≤ at'') ?_ m [] a3 k h3 (by omega) (by rw [List.length_nil]; omega)
    intro k' pl at' hk' hpl hat
    rw [w64 (x := ((n + 1 : Nat) : Int) - 1) (by omega), show (((n + 1 : Nat) : Int) - 1) = (n : Int) by omega]
    refine ih _ _ k' hat ?_ (by rw [List.length_append, List.length_singleton]; omega) hk'
    intro b hb
    rcases List.mem_append.1 hb with e | e
    · exact hp b e
    · rw [List.mem_singleton.1 e]
      exact ⟨rfl, by simp only; omega⟩

theorem made_ok {L : List Int} (hL : Seeds L) (at_ : Int) (h0 : 0 ≤ at_) (k : Nat) (hk : 400 ≤ k) : ∃ l sh at', storagebarterlaw39_made.f k L at_ = some (l, sh, at') ∧ Plain l ∧ l.length ≤ 10 ∧ 0 ≤ at' := by
  unfold storagebarterlaw39_made.f
  obtain ⟨t, a, e, h1, h2, h3⟩ := Pick_ok hL at_ 6 h0 (by omega) (by omega)
  obtain ⟨m, rfl⟩ : ∃ m : Nat, t = m := ⟨t.toNat, by omega⟩
  rw [e, Option.bind_some]
  exact made_l0 hL m [] a k h3 (fun b hb => by cases hb) (by rw [List.length_nil]; omega) (by omega)

theorem law39_sane (k : Nat) (hk : 4000 ≤ k) : storagebarterlaw39_sane.f k = some true := by
  unfold storagebarterlaw39_sane.f
  generalize hy : [(⟨1, 5, 0, ([] : List S48), ([] : List S74)⟩ : S29), (⟨1, 1, 0, ([] : List S48), ([] : List S74)⟩ : S29), (⟨2, 7, 0, ([] : List S48), ([] : List S74)⟩ : S29), (⟨1, 2, 0, ([] : List S48), ([] : List S74)⟩ : S29)] = y
  have hl : y.length = 4 := by rw [← hy]; rfl
  have hp : Plain y := by
    rw [← hy]
    intro b hb
    simp only [List.mem_cons, List.not_mem_nil, or_false] at hb
    rcases hb with rfl | rfl | rfl | rfl <;> exact ⟨rfl, by simp⟩
  have hn : numbersOf y 1 = [1, 2, 5] := by
    refine asc_ext _ _ (nums_asc _) (by decide) fun x => ?_
    rw [mem_numbers, ← hy]
    simp only [List.mem_cons, List.not_mem_nil, or_false]
    constructor
    · rintro ⟨b, (rfl | rfl | rfl | rfl), h1, rfl⟩ <;> simp at h1 ⊢
    · rintro (rfl | rfl | rfl)
      · exact ⟨_, Or.inr (Or.inl rfl), rfl, rfl⟩
      · exact ⟨_, Or.inr (Or.inr (Or.inr rfl)), rfl, rfl⟩
      · exact ⟨_, Or.inl rfl, rfl, rfl⟩
  have hk2 := Keep_eq y 1 2 k (by omega) (by omega) (by omega)
  have hd := Drop_eq y 1 2 k (by omega) (by omega) hp (by omega)
  have e2 : lastN (numbersOf y 1) 2 = [2, 5] := by rw [hn]; rfl
  rw [e2] at hk2 hd
  rw [show ((2 : Nat) : Int) = 2 from rfl] at hk2 hd
  rw [Option.bind_some, hk2, Option.bind_some, hd, Option.bind_some, ← hy]
  have es : stayOf [(⟨1, 5, 0, ([] : List S48), ([] : List S74)⟩ : S29), (⟨1, 1, 0, ([] : List S48), ([] : List S74)⟩ : S29), (⟨2, 7, 0, ([] : List S48), ([] : List S74)⟩ : S29), (⟨1, 2, 0, ([] : List S48), ([] : List S74)⟩ : S29)] 1 [2, 5] = [⟨1, 5, 0, [], []⟩, ⟨2, 7, 0, [], []⟩, ⟨1, 2, 0, [], []⟩] := by rfl
  have eg : goneOf [(⟨1, 5, 0, ([] : List S48), ([] : List S74)⟩ : S29), (⟨1, 1, 0, ([] : List S48), ([] : List S74)⟩ : S29), (⟨2, 7, 0, ([] : List S48), ([] : List S74)⟩ : S29), (⟨1, 2, 0, ([] : List S48), ([] : List S74)⟩ : S29)] 1 [2, 5] = [⟨1, 1, 0, [], []⟩] := by rfl
  rw [es, eg]
  rfl

end Go.Proofs.Ytlkgmfhgnfgmiaa.Gpr

/- Dropping again drops nothing, and keeping fewer drops at least as much. -/
namespace Go.Proofs.Ytlkgmfhgnfgmiaa.Pure
open Go Go.RowKit Go.Proofs.Ytlkgmfhgnfgmiaa.Gnum Go.Proofs.Ytlkgmfhgnfgmiaa.Gpr Go.Proofs.Ytlkgmfhgnfgmiaa.Q Go.Proofs.YtlkgmfhgnfgmiaaW.PrintWords Go.Proofs.YtlkgmfhgnfgmiaaW.PrintLast Go.Proofs.YtlkgmfhgnfgmiaaW.PrintMore

theorem rdP_get (l : List S74) (i : Nat) (h : i < l.length) : rd_T74 l (i : Int) = l[i] := by simp [rd_T74, List.getD, h]

theorem places_l0 (l : List S74) (hl : l.length ≤ 1000) : ∀ (d i k : Nat), l.length - i = d → i ≤ l.length → d < k → storagebarterref35_SamePlaces.l0 k l l (i : Int) = some true := by
  intro d
  induction d with
  | zero =>
    intro i k hd hi hk
    obtain ⟨k, rfl⟩ : ∃ m, k = m + 1 := ⟨k - 1, by omega⟩
    rw [storagebarterref35_SamePlaces.l0, if_neg (by omega)]
  | succ d ih =>
    intro i k hd hi hk
    obtain ⟨k, rfl⟩ : ∃ m, k = m + 1 := ⟨k - 1, by omega⟩
    rw [storagebarterref35_SamePlaces.l0, if_pos (by omega), if_pos (by omega), if_pos (by omega), if_neg (by simp), w64 (by omega), show ((i : Int) + 1) = ((i + 1 : Nat) : Int) by omega]
    exact ih (i + 1) k (by omega) (by omega) (by omega)

theorem Same_refl (a b c : Int) (l4 : List S74) (hl : l4.length ≤ 1000) (k : Nat) (hk : 1010 ≤ k) : storagebarterref35_Same.f k a b c [] l4 a b c [] l4 = some true := by
  obtain ⟨k, rfl⟩ : ∃ m, k = m + 2 := ⟨k - 2, by omega⟩
  have h := places_l0 l4 hl l4.length 0 (k + 2) (by omega) (by omega) (by omega)
  unfold storagebarterref35_Same.f storagebarterref35_SamePlaces.f
  rw [if_pos rfl, if_pos rfl, if_pos rfl, if_pos rfl, if_pos rfl]
  rw [show ((0 : Nat) : Int) = 0 from rfl] at h
  rw [h, Option.bind_some, storagebarterref35_Same.j0, if_neg (by simp), storagebarterref35_Same.l0, if_neg (by simp)]

theorem list_l0 (l : List S29) (hl : l.length ≤ 1000) (hp : Plain l) : ∀ (d i k : Nat), l.length - i = d → i ≤ l.length → 1100 + d ≤ k → storagebarterref35_SameList.l0 k l l (i : Int) = some true := by
  intro d
  induction d with
  | zero =>
    intro i k hd hi hk
    obtain ⟨k, rfl⟩ : ∃ m, k = m + 1 := ⟨k - 1, by omega⟩
    rw [storagebarterref35_SameList.l0, if_neg (by omega)]
  | succ d ih =>
    intro i k hd hi hk
    obtain ⟨k, rfl⟩ : ∃ m, k = m + 1 := ⟨k - 1, by omega⟩
    have hil : i < l.length := by omega
    have hb := hp l[i] (List.getElem_mem hil)
    rw [storagebarterref35_SameList.l0, if_pos (by omega), if_pos (by omega), if_pos (by omega), rd_get l i hil, hb.1, Same_refl _ _ _ _ hb.2 _ (by omega), Option.bind_some, if_pos rfl, w64 (by omega), show ((i : Int) + 1) = ((i + 1 : Nat) : Int) by omega]
    exact ih (i + 1) k (by omega) (by omega) (by omega)

theorem SameList_refl (l : List S29) (hl : l.length ≤ 1000) (hp : Plain l) (k : Nat) (hk : 3000 ≤ k) : storagebarterref35_SameList.f k l l = some true := by
  unfold storagebarterref35_SameList.f
  rw [if_pos rfl]
  exact list_l0 l hl hp l.length 0 k (by omega) (by omega) (by omega)

/-- What stays, stays again. -/
theorem stay_stay (l : List S29) (o : Int) (n : Nat) :
    lastN (numbersOf (stayOf l o (lastN (numbersOf l o) n)) o) n = lastN (numbersOf l o) n ∧ stayOf (stayOf l o (lastN (numbersOf l o) n)) o (lastN (numbersOf l o) n) = stayOf l o (lastN (numbersOf l o) n) ∧
      goneOf (stayOf l o (lastN (numbersOf l o) n)) o (lastN (numbersOf l o) n) = [] := by
  have hk : lastN (lastN (numbersOf l o) n) n = lastN (numbersOf l o) n := by
    have h := lastN_len (numbersOf l o) n
    unfold lastN at h ⊢
    rw [h, show min n (numbersOf l o).length - n = 0 by omega, List.drop_zero]
  refine ⟨by rw [left_keep]; exact hk, ?_, ?_⟩
  · unfold stayOf
    exact List.filter_eq_self.2 fun b hb => (List.mem_filter.1 hb).2
  · unfold stayOf goneOf
    exact List.filter_eq_nil_iff.2 fun b hb => by have := (List.mem_filter.1 hb).2; simp [this]

/-- Who keeps fewer drops at least as much. -/
theorem gone_mono (l : List S29) (o : Int) (m n : Nat) (h : m ≤ n) : (goneOf l o (lastN (numbersOf l o) n)).length ≤ (goneOf l o (lastN (numbersOf l o) m)).length := by
  have hs : ∀ x, x ∈ lastN (numbersOf l o) m → x ∈ lastN (numbersOf l o) n := by
    intro x hx
    unfold lastN at hx ⊢
    have e : (numbersOf l o).drop ((numbersOf l o).length - m) = ((numbersOf l o).drop ((numbersOf l o).length - n)).drop (((numbersOf l o).length - m) - ((numbersOf l o).length - n)) := by
      rw [List.drop_drop]
      congr 1
      omega
    rw [e] at hx
    exact List.mem_of_mem_drop hx
  unfold goneOf
  generalize numbersOf l o = N at hs
  induction l with
  | nil => exact Nat.le_refl _
  | cons b l ih =>
    by_cases h1 : stays o (lastN N n) b = true
    · rw [List.filter_cons_of_neg (by simp [h1])]
      refine Nat.le_trans ih ?_
      by_cases h2 : stays o (lastN N m) b = true
      · rw [List.filter_cons_of_neg (by simp [h2])]
        exact Nat.le_refl _
      · rw [List.filter_cons_of_pos (by simp [h2]), List.length_cons]
        omega
    · have h2 : ¬ stays o (lastN N m) b = true := by
        intro z
        apply h1
        simp only [stays, decide_eq_true_eq] at z ⊢
        exact z.imp id (hs _)
      rw [List.filter_cons_of_pos (by simp [h1]), List.filter_cons_of_pos (by simp [h2]), List.length_cons, List.length_cons]
      omega

theorem PruneTwice : storagebarterlaw39_PruneTwice.Pure := by
  intro L a1 _ _ hL ha
  have hb := bounds_u8 ha
  obtain ⟨S, e1, hS⟩ := New_ok L hL
  obtain ⟨l, sh, at1, e2, hp, hl, h1⟩ := made_ok hS 0 (by omega) 100000 (by omega)
  obtain ⟨t, at2, e3, ht0, ht1, -⟩ := Pick_ok hS at1 3 h1 (by omega) (by omega)
  refine ⟨100000, ?_⟩
  obtain ⟨m, hm, hm4⟩ : ∃ m : Nat, Int.tmod (wrap64 a1) 4 = m ∧ m < 4 := by
    rw [w64 (by omega), Int.tmod_eq_emod_of_nonneg hb.1]
    exact ⟨(a1 % 4).toNat, by omega, by omega⟩
  unfold storagebarterlaw39_PruneTwice.f
  obtain ⟨s1, s2, s3⟩ := stay_stay l (1 + t) (m + 1)
  have hpart := part_len l (1 + t) (lastN (numbersOf l (1 + t)) (m + 1))
  have hps := hp.stay (1 + t) (lastN (numbersOf l (1 + t)) (m + 1))
  have hg := gone_mono l (1 + t) m (m + 1) (by omega)
  have hd := Drop_eq (stayOf l (1 + t) (lastN (numbersOf l (1 + t)) (m + 1))) (1 + t) (m + 1) 100000 (by omega) (by omega) hps (by omega)
  rw [s1, s2, s3] at hd
  rw [law39_sane _ (by omega), Option.bind_some, if_pos rfl, e1, Option.bind_some, e2, Option.bind_some, e3, Option.bind_some, hm, w64 (x := 1 + t) (by omega), w64 (x := 1 + (m : Int)) (by omega), w64 (x := 1 + (m : Int) - 1) (by omega),
    show (1 + (m : Int) - 1) = ((m : Nat) : Int) by omega, show (1 + (m : Int)) = ((m + 1 : Nat) : Int) by omega, Drop_eq l (1 + t) (m + 1) _ (by omega) (by omega) hp (by omega), Option.bind_some, hd, Option.bind_some, Drop_eq l (1 + t) m _ (by omega) (by omega) hp (by omega), Option.bind_some,
    SameList_refl _ (by omega) hps _ (by omega), Option.bind_some, if_pos rfl, if_pos (by simp)]
  simp only [Option.some.injEq, decide_eq_true_eq]
  omega

end Go.Proofs.Ytlkgmfhgnfgmiaa.Pure

namespace Go.Proofs.Ytlkgmfhgnfgmiaa.pruneTwice
open Go.ChangeShapes Go.WideShapes Go.ChangeAt Go.RowKit
open Go.ChangeMaps (open_string shut_string)
set_option linter.unusedVariables false
theorem own : ownKnob Try.prog.godebug = none := by kernel_rfl
theorem laidOut : laidOutB Try.prog = true := by kernel_rfl
def IsRow (k : IntKind) (w : World) (a : Option Addr) (len cap : Nat) (zs : List Int) : Prop :=
  (a = none ∧ len = 0 ∧ cap = 0 ∧ zs = []) ∨
  ∃ x, a = some x ∧ len ≤ cap ∧ cap ≤ maxLen ∧ zs.length = cap ∧ (∀ i, i < zs.length → w.cell? (x.add i) = some (.int k (zs.getD i 0))) ∧ ∀ n ∈ zs, (Lit.int k n).wf = true
set_option maxRecDepth 100000 in
theorem lifted (os : Os) (started : os.Started) (H : Type) (enc : TypeId × Value → H) :
    ReturnsInHanded {} Try.checked os 7 .any (Rows.pruneTwiceSpec.pre6 enc Try.prog Try.f7 Rows.pruneTwiceRow.domain false) (Rows.pruneTwiceSpec.post enc Try.prog Try.f7 false true false false) := by
  refine returnsInHanded_of_change_sized (C := Try.checked) own started (by kernel_rfl) Try.func7
    (ChangeSpec.witness6 (enc := enc) (C := Try.checked) false ⟨#[], #[.slice none 0 0, .int .u8 0], []⟩ 8 (by kernel_rfl) (by kernel_rfl) (by kernel_rfl) (by kernel_rfl)) ?_
  intro W base args ds gs before hval0 hW hcnd hsz0 _
  have hsz : (DataW.weightsEach Try.prog (Try.f7.params.toList ++ Rows.pruneTwiceSpec.plain.varTypes Try.prog) (ds ++ gs)).all (· ≤ reachBytes) = true := hsz0
  have hval : ∀ (j : Nat) t v, Try.f7.params[j]? = some t → args[j]? = some v → Value.okWide Try.prog W .any base t v := hval0
  have hW' := hW
  obtain ⟨p, q, hA0, hV, rfl, hfz, hnd⟩ := hW
  have hA : DataW.TrodAll enc Try.prog W 0 (fun _ => true) true Try.f7.params.toList args.toList ds p := hA0
  rw [Try.params7] at hA hval hsz
  obtain ⟨v0, vs0, d0, ds0, p0, q0, hargs, rfl, rfl, h0, r0⟩ := trodAll_cons hA
  obtain ⟨v1, vs1, d1, ds1, p1, q1, rfl, rfl, rfl, h1, r1⟩ := trodAll_cons r0
  obtain ⟨rfl, rfl, rfl⟩ := trodAll_nil r1
  obtain rfl : args = #[v0, v1] := by cases args; simp_all
  obtain ⟨rfl, rfl⟩ := trodVars_none hV
  obtain ⟨a0, len0, cap0, rfl⟩ := okWide_slice Try.underlying22 (hval 0 22 v0 rfl rfl)
  have k0 := h0
  have lt0 : ∀ x ∈ p0, x.block < W.heap.size := by obtain ⟨m, hm⟩ := k0; exact DataW.trod_lt m _ _ _ hm
  obtain ⟨z0, w0⟩ : ∃ zs, IsRow .u8 W a0 len0 cap0 zs := by
    obtain ⟨fuel, hf⟩ := h0
    rcases open_ints Try.underlying22 Try.underlying5 (by kernel_rfl) hf with ⟨hcs, _⟩ | ⟨x, l, c, zs, hcs, _, hl, hm, hz, _, hcell, hwz⟩
    · simp [Value.cells] at hcs
      obtain ⟨rfl, rfl, rfl⟩ := hcs
      exact ⟨[], .inl ⟨rfl, rfl, rfl, rfl⟩⟩
    · simp [Value.cells] at hcs
      obtain ⟨rfl, rfl, rfl⟩ := hcs
      exact ⟨zs, .inr ⟨_, rfl, hl, hm, by simpa using hz, hcell, hwz⟩⟩
  have y0 : len0 * 1 ≤ 140737488351232 := Go.Proofs.YtlkgmfhgnfgmiaaW.PrintWords.sized_ints hsz (j := 0) (t := 22) rfl rfl Try.underlying22 Try.underlying5 (by kernel_rfl) (by kernel_rfl) h0
  obtain ⟨a1, rfl, rfl, rfl, w1⟩ := open_int Try.underlying5 (hval 1 5 v1 rfl rfl) h1
  clear hA0 hval0 hsz0 hsz
  refine (Q.storagebarterlaw39_PruneTwice.walk Pure.PruneTwice a0 len0 cap0 z0 a1 W w0 y0 w1).mono fun e W' ⟨he, bel⟩ => ?_
  subst he
  exact ⟨_, rfl, _, _, _, [], _, [], hW', trodAll_mk1 (shut_bool Try.underlying4 _), (trodAll_cons_mk (Below.trod laidOut (by kernel_rfl) (of_decide_eq_true (by kernel_rfl)) k0 bel lt0) (trodAll_cons_mk (shut_int Try.underlying5 w1) trodAll_mk0)), rfl, bel.frame _, fun h => by cases h⟩
theorem over : Rows.pruneTwiceRow.holds Try.pinned (OpenSpec.ofChange Rows.pruneTwiceSpec) :=
  OpenClaim.holds_of_wide 7 Try.f7 rfl rfl rfl rfl rfl rfl rfl ⟨rfl, rfl, rfl, rfl, rfl⟩ rfl rfl rfl rfl rfl (by kernel_rfl) Try.func7 (by kernel_rfl)
    (of_decide_eq_true (by kernel_rfl)) (by unfold Func.isWrapper; first | (rw [if_pos (by decide +kernel)]; kernel_rfl) | (rw [if_neg (by decide +kernel)]; exact ⟨rfl, rfl⟩))
    (fun os started H enc _ => lifted os started H enc)
theorem proved : Rows.PruneTwiceSaid := over
#print axioms proved
end Go.Proofs.Ytlkgmfhgnfgmiaa.pruneTwice
namespace Go.Proofs.Ytlkgmfhgnfgmiaa
/-- The row, under a short name, for the claim. -/
theorem pruneTwice_holds : Rows.PruneTwiceSaid := pruneTwice.proved
end Go.Proofs.Ytlkgmfhgnfgmiaa
