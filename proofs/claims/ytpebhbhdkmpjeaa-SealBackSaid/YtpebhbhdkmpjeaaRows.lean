/-
  No cell of these rows narrows 'for every input' (looked for: loops, veiled, ifaces, maps, wideKeys, modest, calm, conditions, laid).
  DERIVED. THE GIVEN ROWS OF THIS SEAT. 10 by the template 'for every input the law returns true; each argument reads behind the call as it read before'; 0 by the template 'total and deterministic' (their statements: YtpebhbhdkmpjeaaTotals.lean).
  GIVEN WITH THE SEED: the statements are not yours to turn. If you find one false, say at which input.
  Laid BY PROGRAM, IN A SANDBOX (cutbox-rows.mjs): the forced cells as the released guide's own fill.sh prints them over the translation b24bbdd7213efad9… (all of the seat's roots in one cut). By AI agents, Wed Nov 11 2026. No macro, syntax, notation, axiom, sorry.
-/
import Derived.Test.YtpebhbhdkmpjeaaChecked
import GoSem.Claim
import GoSem.ClaimJoined
import GoSem.ClaimMapViews
import Derived.JoinedTies
import Derived.KernelRfl
namespace Go.Proofs.Ytpebhbhdkmpjeaa
/- THE CELL 'sum', in the pinned program and in every row, IS THE sha256 OF THE DUMP (.gsa) THAT YtpebhbhdkmpjeaaProg.lean LOADS. Nothing in Lean hashes anything: it is a label: what it is worth is what the hold of that sum in a sandbox is worth. -/
noncomputable def Try.pinned : Pinned := { name := "ytpebhbhdkmpjeaa", sum := "b24bbdd7213efad9248be101ff68ac9a7e057d0b30efc2fc1481fa868b4ddc0c", checked := Try.checked }
namespace Rows
def none {H : Type} : Left H := { results := [], args := [] }

/-- 'storagebarterlaw01.WireInts': WHATEVER THE INPUT: true; the input reads as it did. -/
def wireIntsSpec : ChangeSpec := { name := "wireInts", fn := fun _ => fun
  | [d1, d2, d3, d4, d5] => { results := [.lit (.bool true)], args := [d1, d2, d3, d4, d5] }
  | _ => none }
def wireIntsRow : OpenClaim := { program := "ytpebhbhdkmpjeaa", sum := "b24bbdd7213efad9248be101ff68ac9a7e057d0b30efc2fc1481fa868b4ddc0c", func := "storagebarter/storagebarterlaw01.WireInts", spec := "wireInts", unfollowed := true, recurses := true, apart := false }
def WireIntsSaid : Prop := wireIntsRow.holds Try.pinned (OpenSpec.ofChange wireIntsSpec)

/-- ITS FALSE NEIGHBOUR: 'it returns false'. Refute it at one input. -/
def wireIntsWrong : ChangeSpec := { name := "wireInts", fn := fun _ => fun
  | [d1, d2, d3, d4, d5] => { results := [.lit (.bool false)], args := [d1, d2, d3, d4, d5] }
  | _ => none }
def WireIntsWrongFalsely : Prop := wireIntsRow.holds Try.pinned (OpenSpec.ofChange wireIntsWrong)

/-- 'storagebarterlaw01.WireOne': WHATEVER THE INPUT: true; the input reads as it did. -/
def wireOneSpec : ChangeSpec := { name := "wireOne", fn := fun _ => fun
  | [d1, d2, d3] => { results := [.lit (.bool true)], args := [d1, d2, d3] }
  | _ => none }
def wireOneRow : OpenClaim := { program := "ytpebhbhdkmpjeaa", sum := "b24bbdd7213efad9248be101ff68ac9a7e057d0b30efc2fc1481fa868b4ddc0c", func := "storagebarter/storagebarterlaw01.WireOne", spec := "wireOne", unfollowed := true, recurses := true, apart := false }
def WireOneSaid : Prop := wireOneRow.holds Try.pinned (OpenSpec.ofChange wireOneSpec)

/-- ITS FALSE NEIGHBOUR: 'it returns false'. Refute it at one input. -/
def wireOneWrong : ChangeSpec := { name := "wireOne", fn := fun _ => fun
  | [d1, d2, d3] => { results := [.lit (.bool false)], args := [d1, d2, d3] }
  | _ => none }
def WireOneWrongFalsely : Prop := wireOneRow.holds Try.pinned (OpenSpec.ofChange wireOneWrong)

/-- 'storagebarterlaw03.SealDoes': WHATEVER THE INPUT: true; the input reads as it did. -/
def sealDoesSpec : ChangeSpec := { name := "sealDoes", fn := fun _ => fun
  | [d1, d2, d3, d4] => { results := [.lit (.bool true)], args := [d1, d2, d3, d4] }
  | _ => none }
def sealDoesRow : OpenClaim := { program := "ytpebhbhdkmpjeaa", sum := "b24bbdd7213efad9248be101ff68ac9a7e057d0b30efc2fc1481fa868b4ddc0c", func := "storagebarter/storagebarterlaw03.SealDoes", spec := "sealDoes", apart := false }
def SealDoesSaid : Prop := sealDoesRow.holds Try.pinned (OpenSpec.ofChange sealDoesSpec)

/-- ITS FALSE NEIGHBOUR: 'it returns false'. Refute it at one input. -/
def sealDoesWrong : ChangeSpec := { name := "sealDoes", fn := fun _ => fun
  | [d1, d2, d3, d4] => { results := [.lit (.bool false)], args := [d1, d2, d3, d4] }
  | _ => none }
def SealDoesWrongFalsely : Prop := sealDoesRow.holds Try.pinned (OpenSpec.ofChange sealDoesWrong)

/-- 'storagebarterlaw03.SealOpens': WHATEVER THE INPUT: true; the input reads as it did. -/
def sealOpensSpec : ChangeSpec := { name := "sealOpens", fn := fun _ => fun
  | [d1, d2, d3, d4, d5] => { results := [.lit (.bool true)], args := [d1, d2, d3, d4, d5] }
  | _ => none }
def sealOpensRow : OpenClaim := { program := "ytpebhbhdkmpjeaa", sum := "b24bbdd7213efad9248be101ff68ac9a7e057d0b30efc2fc1481fa868b4ddc0c", func := "storagebarter/storagebarterlaw03.SealOpens", spec := "sealOpens", apart := false }
def SealOpensSaid : Prop := sealOpensRow.holds Try.pinned (OpenSpec.ofChange sealOpensSpec)

/-- ITS FALSE NEIGHBOUR: 'it returns false'. Refute it at one input. -/
def sealOpensWrong : ChangeSpec := { name := "sealOpens", fn := fun _ => fun
  | [d1, d2, d3, d4, d5] => { results := [.lit (.bool false)], args := [d1, d2, d3, d4, d5] }
  | _ => none }
def SealOpensWrongFalsely : Prop := sealOpensRow.holds Try.pinned (OpenSpec.ofChange sealOpensWrong)

/-- 'storagebarterlaw01.WireTexts': WHATEVER THE INPUT: true; the input reads as it did. -/
def wireTextsSpec : ChangeSpec := { name := "wireTexts", fn := fun _ => fun
  | [d1, d2, d3, d4, d5, d6] => { results := [.lit (.bool true)], args := [d1, d2, d3, d4, d5, d6] }
  | _ => none }
def wireTextsRow : OpenClaim := { program := "ytpebhbhdkmpjeaa", sum := "b24bbdd7213efad9248be101ff68ac9a7e057d0b30efc2fc1481fa868b4ddc0c", func := "storagebarter/storagebarterlaw01.WireTexts", spec := "wireTexts", unfollowed := true, recurses := true, apart := false }
def WireTextsSaid : Prop := wireTextsRow.holds Try.pinned (OpenSpec.ofChange wireTextsSpec)

/-- ITS FALSE NEIGHBOUR: 'it returns false'. Refute it at one input. -/
def wireTextsWrong : ChangeSpec := { name := "wireTexts", fn := fun _ => fun
  | [d1, d2, d3, d4, d5, d6] => { results := [.lit (.bool false)], args := [d1, d2, d3, d4, d5, d6] }
  | _ => none }
def WireTextsWrongFalsely : Prop := wireTextsRow.holds Try.pinned (OpenSpec.ofChange wireTextsWrong)

/-- 'storagebarterlaw01.WireBack': WHATEVER THE INPUT: true; the input reads as it did. -/
def wireBackSpec : ChangeSpec := { name := "wireBack", fn := fun _ => fun
  | [d1, d2, d3, d4, d5] => { results := [.lit (.bool true)], args := [d1, d2, d3, d4, d5] }
  | _ => none }
def wireBackRow : OpenClaim := { program := "ytpebhbhdkmpjeaa", sum := "b24bbdd7213efad9248be101ff68ac9a7e057d0b30efc2fc1481fa868b4ddc0c", func := "storagebarter/storagebarterlaw01.WireBack", spec := "wireBack", unfollowed := true, recurses := true, apart := false }
def WireBackSaid : Prop := wireBackRow.holds Try.pinned (OpenSpec.ofChange wireBackSpec)

/-- ITS FALSE NEIGHBOUR: 'it returns false'. Refute it at one input. -/
def wireBackWrong : ChangeSpec := { name := "wireBack", fn := fun _ => fun
  | [d1, d2, d3, d4, d5] => { results := [.lit (.bool false)], args := [d1, d2, d3, d4, d5] }
  | _ => none }
def WireBackWrongFalsely : Prop := wireBackRow.holds Try.pinned (OpenSpec.ofChange wireBackWrong)

/-- 'storagebarterlaw01.WireShort': WHATEVER THE INPUT: true; the input reads as it did. -/
def wireShortSpec : ChangeSpec := { name := "wireShort", fn := fun _ => fun
  | [d1, d2, d3, d4, d5] => { results := [.lit (.bool true)], args := [d1, d2, d3, d4, d5] }
  | _ => none }
def wireShortRow : OpenClaim := { program := "ytpebhbhdkmpjeaa", sum := "b24bbdd7213efad9248be101ff68ac9a7e057d0b30efc2fc1481fa868b4ddc0c", func := "storagebarter/storagebarterlaw01.WireShort", spec := "wireShort", unfollowed := true, recurses := true, apart := false }
def WireShortSaid : Prop := wireShortRow.holds Try.pinned (OpenSpec.ofChange wireShortSpec)

/-- ITS FALSE NEIGHBOUR: 'it returns false'. Refute it at one input. -/
def wireShortWrong : ChangeSpec := { name := "wireShort", fn := fun _ => fun
  | [d1, d2, d3, d4, d5] => { results := [.lit (.bool false)], args := [d1, d2, d3, d4, d5] }
  | _ => none }
def WireShortWrongFalsely : Prop := wireShortRow.holds Try.pinned (OpenSpec.ofChange wireShortWrong)

/-- 'storagebarterlaw03.SealNests': WHATEVER THE INPUT: true; the input reads as it did. -/
def sealNestsSpec : ChangeSpec := { name := "sealNests", fn := fun _ => fun
  | [d1, d2, d3, d4] => { results := [.lit (.bool true)], args := [d1, d2, d3, d4] }
  | _ => none }
def sealNestsRow : OpenClaim := { program := "ytpebhbhdkmpjeaa", sum := "b24bbdd7213efad9248be101ff68ac9a7e057d0b30efc2fc1481fa868b4ddc0c", func := "storagebarter/storagebarterlaw03.SealNests", spec := "sealNests", unfollowed := true, recurses := true, apart := false }
def SealNestsSaid : Prop := sealNestsRow.holds Try.pinned (OpenSpec.ofChange sealNestsSpec)

/-- ITS FALSE NEIGHBOUR: 'it returns false'. Refute it at one input. -/
def sealNestsWrong : ChangeSpec := { name := "sealNests", fn := fun _ => fun
  | [d1, d2, d3, d4] => { results := [.lit (.bool false)], args := [d1, d2, d3, d4] }
  | _ => none }
def SealNestsWrongFalsely : Prop := sealNestsRow.holds Try.pinned (OpenSpec.ofChange sealNestsWrong)

/-- 'storagebarterlaw03.SealBytes': WHATEVER THE INPUT: true; the input reads as it did. -/
def sealBytesSpec : ChangeSpec := { name := "sealBytes", fn := fun _ => fun
  | [d1, d2, d3, d4, d5, d6, d7] => { results := [.lit (.bool true)], args := [d1, d2, d3, d4, d5, d6, d7] }
  | _ => none }
def sealBytesRow : OpenClaim := { program := "ytpebhbhdkmpjeaa", sum := "b24bbdd7213efad9248be101ff68ac9a7e057d0b30efc2fc1481fa868b4ddc0c", func := "storagebarter/storagebarterlaw03.SealBytes", spec := "sealBytes", unfollowed := true, recurses := true, apart := false }
def SealBytesSaid : Prop := sealBytesRow.holds Try.pinned (OpenSpec.ofChange sealBytesSpec)

/-- ITS FALSE NEIGHBOUR: 'it returns false'. Refute it at one input. -/
def sealBytesWrong : ChangeSpec := { name := "sealBytes", fn := fun _ => fun
  | [d1, d2, d3, d4, d5, d6, d7] => { results := [.lit (.bool false)], args := [d1, d2, d3, d4, d5, d6, d7] }
  | _ => none }
def SealBytesWrongFalsely : Prop := sealBytesRow.holds Try.pinned (OpenSpec.ofChange sealBytesWrong)

/-- 'storagebarterlaw03.SealBack': WHATEVER THE INPUT: true; the input reads as it did. -/
def sealBackSpec : ChangeSpec := { name := "sealBack", fn := fun _ => fun
  | [d1, d2, d3, d4, d5, d6] => { results := [.lit (.bool true)], args := [d1, d2, d3, d4, d5, d6] }
  | _ => none }
def sealBackRow : OpenClaim := { program := "ytpebhbhdkmpjeaa", sum := "b24bbdd7213efad9248be101ff68ac9a7e057d0b30efc2fc1481fa868b4ddc0c", func := "storagebarter/storagebarterlaw03.SealBack", spec := "sealBack", unfollowed := true, recurses := true, apart := false }
def SealBackSaid : Prop := sealBackRow.holds Try.pinned (OpenSpec.ofChange sealBackSpec)

/-- ITS FALSE NEIGHBOUR: 'it returns false'. Refute it at one input. -/
def sealBackWrong : ChangeSpec := { name := "sealBack", fn := fun _ => fun
  | [d1, d2, d3, d4, d5, d6] => { results := [.lit (.bool false)], args := [d1, d2, d3, d4, d5, d6] }
  | _ => none }
def SealBackWrongFalsely : Prop := sealBackRow.holds Try.pinned (OpenSpec.ofChange sealBackWrong)

/- THE SECOND FORM. 'bulk': how many values and letters a reading holds, each counted each time it is reached (what is shared counts as often as it is met; a slice's spare places count too). A statement '..UptoSaid' is the law's where the arguments, and the package variables that the reading takes, are together of bulk at most 1048576: NARROWER than '..Said'. Prove '..Said' where nothing that the law and all that it calls make is longer than what came in: it says more and counts as full. Else prove '..UptoSaid'. A law counts once. -/
mutual
def uptoBulk {H : Type} : DataW H → Nat
  | .lit (.string bytes) => bytes.length + 1
  | .lit _ => 1
  | .nil => 1
  | .ptr d => uptoBulk d + 1
  | .slice elems spare => uptoBulkAll elems + uptoBulkAll spare + 1
  | .agg parts => uptoBulkAll parts + 1
  | .iface _ d => uptoBulk d + 1
  | .map entries => uptoBulkEntries entries + 1
  | .held _ => 1
def uptoBulkAll {H : Type} : List (DataW H) → Nat
  | [] => 0
  | d :: r => uptoBulk d + uptoBulkAll r
def uptoBulkEntries {H : Type} : List (Lit × DataW H) → Nat
  | [] => 0
  | x :: r => uptoBulkEntry x + uptoBulkEntries r
def uptoBulkEntry {H : Type} : Lit × DataW H → Nat
  | (.string bytes, d) => bytes.length + uptoBulk d + 1
  | (_, d) => uptoBulk d + 1
 end
def uptoSmall : (H : Type) → List (DataW H) → Bool := fun _ ds => decide (uptoBulkAll ds ≤ 1048576)
def OpenSpec.upto (s : _root_.Go.ChangeSpec) : _root_.Go.OpenSpec := { _root_.Go.OpenSpec.ofChange s with cond := some uptoSmall }

/-- 'storagebarterlaw01.WireInts', WHERE WHAT IT READS IS OF BULK AT MOST 1048576: true; the input reads as it did. -/
def wireIntsUptoRow : OpenClaim := { program := "ytpebhbhdkmpjeaa", sum := "b24bbdd7213efad9248be101ff68ac9a7e057d0b30efc2fc1481fa868b4ddc0c", func := "storagebarter/storagebarterlaw01.WireInts", spec := "wireInts", unfollowed := true, recurses := true, apart := false, narrowed := true }
def WireIntsUptoSaid : Prop := wireIntsUptoRow.holds Try.pinned (OpenSpec.upto wireIntsSpec)

/-- 'storagebarterlaw01.WireOne', WHERE WHAT IT READS IS OF BULK AT MOST 1048576: true; the input reads as it did. -/
def wireOneUptoRow : OpenClaim := { program := "ytpebhbhdkmpjeaa", sum := "b24bbdd7213efad9248be101ff68ac9a7e057d0b30efc2fc1481fa868b4ddc0c", func := "storagebarter/storagebarterlaw01.WireOne", spec := "wireOne", unfollowed := true, recurses := true, apart := false, narrowed := true }
def WireOneUptoSaid : Prop := wireOneUptoRow.holds Try.pinned (OpenSpec.upto wireOneSpec)

/-- 'storagebarterlaw03.SealDoes', WHERE WHAT IT READS IS OF BULK AT MOST 1048576: true; the input reads as it did. -/
def sealDoesUptoRow : OpenClaim := { program := "ytpebhbhdkmpjeaa", sum := "b24bbdd7213efad9248be101ff68ac9a7e057d0b30efc2fc1481fa868b4ddc0c", func := "storagebarter/storagebarterlaw03.SealDoes", spec := "sealDoes", apart := false, narrowed := true }
def SealDoesUptoSaid : Prop := sealDoesUptoRow.holds Try.pinned (OpenSpec.upto sealDoesSpec)

/-- 'storagebarterlaw03.SealOpens', WHERE WHAT IT READS IS OF BULK AT MOST 1048576: true; the input reads as it did. -/
def sealOpensUptoRow : OpenClaim := { program := "ytpebhbhdkmpjeaa", sum := "b24bbdd7213efad9248be101ff68ac9a7e057d0b30efc2fc1481fa868b4ddc0c", func := "storagebarter/storagebarterlaw03.SealOpens", spec := "sealOpens", apart := false, narrowed := true }
def SealOpensUptoSaid : Prop := sealOpensUptoRow.holds Try.pinned (OpenSpec.upto sealOpensSpec)

/-- 'storagebarterlaw01.WireTexts', WHERE WHAT IT READS IS OF BULK AT MOST 1048576: true; the input reads as it did. -/
def wireTextsUptoRow : OpenClaim := { program := "ytpebhbhdkmpjeaa", sum := "b24bbdd7213efad9248be101ff68ac9a7e057d0b30efc2fc1481fa868b4ddc0c", func := "storagebarter/storagebarterlaw01.WireTexts", spec := "wireTexts", unfollowed := true, recurses := true, apart := false, narrowed := true }
def WireTextsUptoSaid : Prop := wireTextsUptoRow.holds Try.pinned (OpenSpec.upto wireTextsSpec)

/-- 'storagebarterlaw01.WireBack', WHERE WHAT IT READS IS OF BULK AT MOST 1048576: true; the input reads as it did. -/
def wireBackUptoRow : OpenClaim := { program := "ytpebhbhdkmpjeaa", sum := "b24bbdd7213efad9248be101ff68ac9a7e057d0b30efc2fc1481fa868b4ddc0c", func := "storagebarter/storagebarterlaw01.WireBack", spec := "wireBack", unfollowed := true, recurses := true, apart := false, narrowed := true }
def WireBackUptoSaid : Prop := wireBackUptoRow.holds Try.pinned (OpenSpec.upto wireBackSpec)

/-- 'storagebarterlaw01.WireShort', WHERE WHAT IT READS IS OF BULK AT MOST 1048576: true; the input reads as it did. -/
def wireShortUptoRow : OpenClaim := { program := "ytpebhbhdkmpjeaa", sum := "b24bbdd7213efad9248be101ff68ac9a7e057d0b30efc2fc1481fa868b4ddc0c", func := "storagebarter/storagebarterlaw01.WireShort", spec := "wireShort", unfollowed := true, recurses := true, apart := false, narrowed := true }
def WireShortUptoSaid : Prop := wireShortUptoRow.holds Try.pinned (OpenSpec.upto wireShortSpec)

/-- 'storagebarterlaw03.SealNests', WHERE WHAT IT READS IS OF BULK AT MOST 1048576: true; the input reads as it did. -/
def sealNestsUptoRow : OpenClaim := { program := "ytpebhbhdkmpjeaa", sum := "b24bbdd7213efad9248be101ff68ac9a7e057d0b30efc2fc1481fa868b4ddc0c", func := "storagebarter/storagebarterlaw03.SealNests", spec := "sealNests", unfollowed := true, recurses := true, apart := false, narrowed := true }
def SealNestsUptoSaid : Prop := sealNestsUptoRow.holds Try.pinned (OpenSpec.upto sealNestsSpec)

/-- 'storagebarterlaw03.SealBytes', WHERE WHAT IT READS IS OF BULK AT MOST 1048576: true; the input reads as it did. -/
def sealBytesUptoRow : OpenClaim := { program := "ytpebhbhdkmpjeaa", sum := "b24bbdd7213efad9248be101ff68ac9a7e057d0b30efc2fc1481fa868b4ddc0c", func := "storagebarter/storagebarterlaw03.SealBytes", spec := "sealBytes", unfollowed := true, recurses := true, apart := false, narrowed := true }
def SealBytesUptoSaid : Prop := sealBytesUptoRow.holds Try.pinned (OpenSpec.upto sealBytesSpec)

/-- 'storagebarterlaw03.SealBack', WHERE WHAT IT READS IS OF BULK AT MOST 1048576: true; the input reads as it did. -/
def sealBackUptoRow : OpenClaim := { program := "ytpebhbhdkmpjeaa", sum := "b24bbdd7213efad9248be101ff68ac9a7e057d0b30efc2fc1481fa868b4ddc0c", func := "storagebarter/storagebarterlaw03.SealBack", spec := "sealBack", unfollowed := true, recurses := true, apart := false, narrowed := true }
def SealBackUptoSaid : Prop := sealBackUptoRow.holds Try.pinned (OpenSpec.upto sealBackSpec)

end Rows
end Go.Proofs.Ytpebhbhdkmpjeaa
