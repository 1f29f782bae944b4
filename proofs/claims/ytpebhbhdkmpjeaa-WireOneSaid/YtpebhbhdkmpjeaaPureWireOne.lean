/- Bytes that are read are the only ones of their number, and the bytes of no number begin with those of another one: for every text and all numbers. -/
import Derived.Test.YtpebhbhdkmpjeaaQstoragebarterlaw01WireOne
import Derived.Test.YtpebhbhdkmpjeaaGwc
namespace Go.Proofs.Ytpebhbhdkmpjeaa.Pure
open Go Go.RowKit Go.Proofs.Ytpebhbhdkmpjeaa.Gm Go.Proofs.Ytpebhbhdkmpjeaa.Gwa Go.Proofs.Ytpebhbhdkmpjeaa.Gwb Go.Proofs.Ytpebhbhdkmpjeaa.Gwc Go.Proofs.Ytpebhbhdkmpjeaa.Q Go.Proofs.Ytpebhbhdkmpjeaa.Gput Go.Proofs.YtpebhbhdkmpjeaaW.PrintWords Go.Proofs.YtpebhbhdkmpjeaaW.PrintLast

theorem wireOne_j0 (m n : Int) (k : Nat) (hm : (Lit.int .i64 m).wf = true) (hn : (Lit.int .i64 n).wf = true) : storagebarterlaw01_WireOne.j0 (k + 1) m n false = some true := by
  have bm := bounds_i64 hm
  have bn := bounds_i64 hn
  have lm := putI_len bm
  have ln := putI_len bn
  simp only [storagebarterlaw01_WireOne.j0]
  rw [if_neg (by simp), show (⟨#[]⟩ : ByteArray) = B [] from rfl, wire_PutInt_eq [] m (by simp) bm, Option.bind_some, wire_PutInt_eq [] n (by simp) bn, Option.bind_some]
  simp only [List.nil_append, B_size]
  by_cases h : m = n
  · rw [if_pos h]
  · rw [if_neg h]
    by_cases h2 : ((putI m).length : Int) > ((putI n).length : Int)
    · rw [if_pos h2]
    · rw [if_neg h2, if_pos (by omega), if_pos (by omega), B_extract, B_toList, B_toList, Int.toNat_natCast, List.drop_zero]
      simp only [Option.some.injEq, bne_iff_ne, ne_eq]
      intro he
      exact h (zig_inj (grp_free (zig_range bm) (zig_range bn) he))

theorem WireOne : storagebarterlaw01_WireOne.Pure := by
  intro a0 m n hs hm hn
  obtain ⟨l, rfl⟩ := exB a0
  rw [B_size] at hs
  refine ⟨40, ?_⟩
  unfold storagebarterlaw01_WireOne.f
  rw [law01_sane 40 (by omega), Option.bind_some, if_pos rfl, wire_Int_eq (B l) 0 40 (by rw [B_size]; omega) (by omega), Option.bind_some]
  rcases hi : intAt (B l) 0 with ⟨x, c, e⟩
  simp only
  by_cases he : e = 0
  · subst he
    obtain ⟨h1, h2, h3, h4, h5, h6, h7, h8⟩ := intAt_ok hi
    have hp := putI_len ⟨h5, h6⟩
    rw [if_pos rfl, if_neg (by omega), if_neg (by omega), if_neg (by rw [B_size]; omega), show (⟨#[]⟩ : ByteArray) = B [] from rfl, wire_PutInt_eq [] x (by simp) ⟨h5, h6⟩, Option.bind_some, if_pos (by omega), if_pos (by rw [B_size]; omega), B_toList, B_extract, B_toList, List.nil_append, List.drop_zero]
    have e1 : (putI x != l.take c.toNat) = false := by
      simp only [bne_eq_false_iff_eq]
      rw [← h7]
      simp
    rw [e1]
    exact wireOne_j0 m n 39 hm hn
  · rw [if_neg he]
    exact wireOne_j0 m n 39 hm hn

end Go.Proofs.Ytpebhbhdkmpjeaa.Pure
