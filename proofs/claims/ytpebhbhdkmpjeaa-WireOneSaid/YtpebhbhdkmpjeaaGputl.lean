/- 'wire.PutList': the bytes of a list of numbers. -/
import Derived.Test.YtpebhbhdkmpjeaaGput
import Derived.Test.YtpebhbhdkmpjeaaWMore
import Derived.Deep.LoopGhost
import Derived.WalkArith
namespace Go.Proofs.Ytpebhbhdkmpjeaa.Gputl
open Go Go.RowKit Go.Shelf Go.Proofs.Ytpebhbhdkmpjeaa.Gb Go.Proofs.Ytpebhbhdkmpjeaa.Gm Go.Proofs.Ytpebhbhdkmpjeaa.Gput Go.Proofs.YtpebhbhdkmpjeaaW.PrintWords Go.Proofs.YtpebhbhdkmpjeaaW.PrintLast Go.Proofs.YtpebhbhdkmpjeaaW.PrintMore
set_option linter.unusedVariables false

def wire_PutList.f (a0 : ByteArray) (l1 : List Int) : Option ByteArray :=
  if a0.size + 10 * (l1.length + 1) ≤ 140737488355328 ∧ (l1.all fun x => (Lit.int .i64 x).wf) = true then some ⟨(a0.data.toList ++ putL l1).toArray⟩ else none

theorem putI_snoc (l : List Int) (k : Nat) (h : k < l.length) : (l.take (k + 1)).flatMap putI = (l.take k).flatMap putI ++ putI (rd l k) := by
  rw [List.take_succ_eq_append_getElem h, List.flatMap_append]
  simp [rd, List.getD, h]

theorem flat_len (l : List Int) (h : (l.all fun x => (Lit.int .i64 x).wf) = true) : ∀ k, ((l.take k).flatMap putI).length ≤ 10 * k
  | 0 => by simp
  | k + 1 => by
    have ih := flat_len l h k
    rcases Nat.lt_or_ge k l.length with hk | hk
    · rw [putI_snoc l k hk, List.length_append]
      have hw := List.all_eq_true.1 h (l[k]) (List.getElem_mem hk)
      have := putI_len (bounds_i64 hw)
      have e : rd l k = l[k] := by simp [rd, List.getD, hk]
      rw [e]
      omega
    · rw [List.take_of_length_le (by omega)]
      rw [List.take_of_length_le hk] at ih
      omega

set_option maxRecDepth 100000 in
set_option maxHeartbeats 4000000 in
theorem wire_PutList.calls (a0 : ByteArray) (A1 : Option Addr) (c1 : Nat) (l1 : List Int) (r : ByteArray) (w : World) (hr1 : Kd.C (Kd.int .i64) w A1 l1.length l1) (hc1 : l1.length ≤ c1) (h : wire_PutList.f a0 l1 = some r) :
    Calls Try.prog 33 #[.string a0, .slice A1 l1.length c1] w fun e w' => e = .returned (.string r) ∧ Below w.heap.size w w' := by
  unfold wire_PutList.f at h
  split at h
  case isFalse => cases h
  case isTrue hc =>
  obtain ⟨hs, hall⟩ := hc
  obtain rfl := Option.some.inj h
  clear h
  have hsm : a0.size ≤ maxLen := by unfold maxLen; omega
  have hcv := Lib.run_convert_string_bytes (P := Try.prog) w 9 24 5 a0 Try.underlying9 Try.underlying24 Try.underlying5
  have hown := own8_bytes w w.heap.size 5 a0 (Nat.le_refl _) hsm
  have hbw : Below w.heap.size w (Lib.bytesWorld w 5 a0) := (Below.refl _ w).grown (bytesWorld_grown w 5 a0) (Nat.le_refl _) (fun k e => by cases e)
  have hsz : a0.data.toList.length = a0.size := by rw [Array.length_toList]; rfl
  have hwl : (Lit.int .i64 (l1.length : Int)).wf = true := by first | exact Go.WalkArith.wf_i64 ⟨by omega, by omega⟩ | go_wf
  have hpl := putI_len (bounds_i64 hwl)
  have hl : a0.data.toList.length + 10 ≤ 140737488355328 := by rw [hsz]; omega
  have HR := Aside0.mk hr1
  have HALL := Aside0.mk hall
  clear hr1 hall
  go_enter Try.func33, Try.ntmps33
  go_wp2_with (go_at_call 46; refine (put_any w.heap.size _ _ (l1.length : Int) hwl _ hown (by rw [Lib.bytesWorld_size]; omega) hl).mono ?_; rintro e W1 ⟨v1, rfl, ho1, hb1⟩)
  clear hcv hown
  go_loopw [5, 15] (fun v5 v15 wr => ∃ (k : Nat), k ≤ l1.length ∧ v15 = .int .i64 k ∧ Own8 wr w.heap.size 5 v5 (a0.data.toList ++ (putI (l1.length : Int) ++ (l1.take k).flatMap putI)) ∧ Below w.heap.size w wr)
    (fun _ v15 _ => l1.length - (intOf v15).toNat)
  case atStart => exact ⟨0, Nat.zero_le _, rfl, by simpa using ho1, hbw.trans hb1⟩
  case round =>
    obtain ⟨k, hk, rfl, hown, hbel⟩ := hrel
    by_cases hlt : k < l1.length
    · have hlen : (a0.data.toList ++ (putI (l1.length : Int) ++ (l1.take k).flatMap putI)).length + 10 ≤ 140737488355328 := by
        have := flat_len l1 HALL.out k
        simp only [List.length_append, hsz]
        omega
      have hwk : (Lit.int .i64 (rd l1 k)).wf = true := by
        have := List.all_eq_true.1 HALL.out (l1[k]) (List.getElem_mem hlt)
        have e : rd l1 k = l1[k] := by simp [rd, List.getD, hlt]
        rw [e]; exact this
      obtain ⟨ad, ead, hx⟩ := Kd.at_int HR.out k (by omega) (by omega)
      cases ead
      replace hx := (hbel.cell (World.block_lt_of_cell? w _ hx)).trans hx
      simp only [Int.toNat_natCast] at hx
      go_wp2_with (go_at_call 46; refine (put_any w.heap.size _ _ _ hwk _ hown hbel.size hlen).mono ?_; rintro e W2 ⟨v2, rfl, ho2, hb2⟩)
      go_roundw
      case rel => exact ⟨k + 1, by omega, by go_num, by rw [putI_snoc l1 k hlt]; simpa using ho2, hbel.trans hb2⟩
      case measure => simp [intOf]; omega
    · obtain rfl : k = l1.length := by omega
      have hst := run_string8 (P := Try.prog) wr w.heap.size 24 9 5 Try.underlying24 Try.underlying5 Try.underlying9 _ _ hown
      go_wp2
      go_ret
      exact ⟨rfl, hbel⟩

end Go.Proofs.Ytpebhbhdkmpjeaa.Gputl
