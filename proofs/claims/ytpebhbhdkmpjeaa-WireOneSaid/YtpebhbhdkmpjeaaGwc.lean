/- The sanity check of chapter 1 holds. -/
import Derived.Test.YtpebhbhdkmpjeaaGwb
import Derived.Test.YtpebhbhdkmpjeaaQstoragebarterlaw01Sane
namespace Go.Proofs.Ytpebhbhdkmpjeaa.Gwc
open Go Go.RowKit Go.Proofs.Ytpebhbhdkmpjeaa.Gm Go.Proofs.Ytpebhbhdkmpjeaa.Gwa Go.Proofs.Ytpebhbhdkmpjeaa.Gwb Go.Proofs.Ytpebhbhdkmpjeaa.Q Go.Proofs.Ytpebhbhdkmpjeaa.Gput Go.Proofs.YtpebhbhdkmpjeaaW.PrintWords Go.Proofs.YtpebhbhdkmpjeaaW.PrintLast Go.Proofs.YtpebhbhdkmpjeaaW.PrintMore
set_option linter.unusedVariables false

theorem law01_sane (k : Nat) (hk : 34 ≤ k) : storagebarterlaw01_sane.f k = some true := by
  unfold storagebarterlaw01_sane.f
  have e1 : intAt (B [128, 1]) 0 = (64, 2, 0) := by rw [intAt_B]; decide
  have e2 : intAt (B [128, 0]) 0 = (0, 0, 2) := by rw [intAt_B]; decide
  have e3 : putI 64 = [128, 1] := by
    unfold putI
    rw [show zig 64 = 128 by decide, grp_more (by omega), grp_last (by omega)]
    decide
  have e4 : putI (-1) = [1] := by
    unfold putI
    rw [show zig (-1) = 1 by decide, grp_last (by omega)]
    decide
  have hw1 := wire_Int_eq (B [128, 1]) 0 k (by rw [B_size]; simp) (by omega)
  have hw2 := wire_Int_eq (B [128, 0]) 0 k (by rw [B_size]; simp) (by omega)
  have hp1 := wire_PutInt_eq [] 64 (by simp) (by omega)
  have hp2 := wire_PutInt_eq [97] (-1) (by simp) (by omega)
  rw [e1] at hw1
  rw [e2] at hw2
  rw [e3] at hp1
  rw [e4] at hp2
  rw [show (⟨#[128, 1]⟩ : ByteArray) = B [128, 1] from rfl, show (⟨#[128, 0]⟩ : ByteArray) = B [128, 0] from rfl, show (⟨#[]⟩ : ByteArray) = B [] from rfl, show (⟨#[97]⟩ : ByteArray) = B [97] from rfl, hw1, Option.bind_some, hw2, Option.bind_some, hp1, Option.bind_some, if_pos (by rw [B_toList]; rfl), hp2, Option.bind_some, if_pos (by rw [B_toList]; rfl)]
  rfl

end Go.Proofs.Ytpebhbhdkmpjeaa.Gwc
