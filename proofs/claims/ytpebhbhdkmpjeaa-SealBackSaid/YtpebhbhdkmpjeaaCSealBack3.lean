/- A sealed text is read back from its bytes, whatever stands around them; sealed texts with different locks or texts have different bytes. -/
import Derived.Test.YtpebhbhdkmpjeaaCSealBack2
import Derived.Laws.BitsLemmas
import Derived.OpenShut
namespace Go.Proofs.Ytpebhbhdkmpjeaa.Q
open Go.RowKit Go.Proofs.YtpebhbhdkmpjeaaW.PrintWords Go.Proofs.YtpebhbhdkmpjeaaW.PrintLast Go.Proofs.YtpebhbhdkmpjeaaW.PrintMore Go.Proofs.Ytpebhbhdkmpjeaa.Gput Go.Proofs.Ytpebhbhdkmpjeaa.Gputl
attribute [local go_sem] max2_int min2_int max_two min_two max_three min_three max_four min_four   -- for this text's walks alone
set_option linter.unusedVariables false
set_option linter.unusedSimpArgs false

attribute [local go_sem high] eqA34 eqA62
/-! ### storagebarterlaw03_SealBack: function 12 -/
def storagebarterlaw03_SealBack.f (k : Nat) (a0 : ByteArray) (a1 : ByteArray) (a2 : ByteArray) (a3 : ByteArray) (a4 : Int) (a5 : Int) : Option (Bool) := (storagebarterlaw03_sane.f).bind fun t461 => (if t461 = true then (if (wrap64 ((a0.size : Int) + (a1.size : Int))) > 16384 then (some true) else ((storagebartermake_Mod.f a4 4294967294).bind fun t462 => ((seal_Seal.f a0 t462).bind fun bt463 => ((storagebartermake_Mod.f a5 4294967294).bind fun t467 => ((seal_Seal.f a1 t467).bind fun bt468 => ((seal_Encode.f bt463.1 bt463.2.1).bind fun bt472 => ((seal_Encode.f bt468.1 bt468.2.1).bind fun bt474 => (if a2.size + bt472.1.size ≤ 9223372036854775807 then (if (a2 ++ bt472.1).size + a3.size ≤ 9223372036854775807 then ((seal_Decode.f k ((a2 ++ bt472.1) ++ a3) (a2.size : Int)).bind fun bt476 => ((seal_Name.f k bt463.1 bt463.2.1).bind fun bt481 => (if bt463.2.2 = 0 then (if bt468.2.2 = 0 then (if bt472.2 = 0 then (if bt474.2 = 0 then (if bt476.2.2.2 = 0 then (if bt481.2.2 = 0 then (if (bt476.1 == bt463.1 && (bt476.2.1.toList == bt463.2.1.toList)) = true then (if bt476.2.2.1 = (wrap64 ((a2.size : Int) + (bt472.1.size : Int))) then (if ((bt472.1.toList == bt474.1.toList) == (bt463.1 == bt468.1 && (bt463.2.1.toList == bt468.2.1.toList))) = true then ((digest_Sum.f k bt472.1).bind fun t485 => (some (bt481.1 == t485 && (bt481.2.1 == (bt472.1.size : Int))))) else (some false)) else (some false)) else (some false)) else (some false)) else (some false)) else (some false)) else (some false)) else (some false)) else (some false)))) else (none)) else (none))))))))) else (some false))
theorem storagebarterlaw03_SealBack.mono : ∀ a0 a1 a2 a3 a4 a5 k, LeO (storagebarterlaw03_SealBack.f k a0 a1 a2 a3 a4 a5) (storagebarterlaw03_SealBack.f (k + 1) a0 a1 a2 a3 a4 a5) := by
  intro a0 a1 a2 a3 a4 a5 k
  unfold storagebarterlaw03_SealBack.f
  repeat' first
      | (with_reducible exact digest_Sum.mono _ _)
      | (with_reducible exact seal_Decode.mono _ _ _)
      | (with_reducible exact seal_Name.mono _ _ _)
      | (with_reducible exact LeO.refl _)
      | (with_reducible exact LeO.none _)
      | (with_reducible refine LeO.ite ?_ ?_)
      | (with_reducible refine LeO.bind ?_ (fun _ => ?_))
      | exact digest_Sum.mono _ _
      | exact seal_Decode.mono _ _ _
      | exact seal_Name.mono _ _ _
      | exact LeO.none _
      | refine LeO.ite ?_ ?_
      | refine LeO.bind ?_ (fun _ => ?_)
def storagebarterlaw03_SealBack.T11 : Bool × List (List Nat × List Nat) := (true, [([], []), ([0], [0]), ([1], [1]), ([2], [2]), ([3, 2], [2, 3]), ([2, 4], [2, 4]), ([5, 2], [5]), ([6], [6]), ([7, 6], [6, 7]), ([6, 8], [6, 8]), ([9, 6], [9]), ([10], [10]), ([11, 10], [10, 11]), ([10, 12], [10, 12]), ([13, 10], [13]), ([14], [14]), ([15, 14], [14, 15]), ([14, 16], [14, 16]), ([17, 14], [17]), ([18], [18]), ([19, 18], [18, 19]), ([18, 20], [18, 20]), ([21, 18], [21]), ([22], [22]), ([22], [22]), ([23, 24, 22], [22, 23, 24]), ([22, 25], [22, 25]), ([26, 22], [26]), ([27], [27]), ([27], [27]), ([29, 27], [27, 29]), ([27], [27]), ([31, 27], [27, 31]), ([30, 32, 27], [27, 30, 32]), ([28, 33, 27], [27, 28, 33]), ([27, 34], [27, 34]), ([35, 27], [35]), ([36], [36]), ([36], [36]), ([37, 38, 36], [36, 37, 38]), ([36], [36]), ([36], [36]), ([40, 41, 36], [36, 40, 41]), ([39, 42, 36], [36, 39, 42]), ([36, 43], [36, 43]), ([44, 36], [44]), ([45], [45]), ([45], [45]), ([47, 45, 45], [45, 47]), ([45], [45]), ([49, 45], [45, 49]), ([48, 50, 45], [45, 48, 50]), ([46, 51, 45], [45, 46, 51]), ([45, 52], [45, 52]), ([53, 48, 0, 1, 2, 3, 4, 5, 6, 7, 8, 9, 10, 11, 12, 13, 14, 15, 16, 17, 18, 19, 20, 21, 22, 23, 24, 25, 26, 27, 28, 29, 30, 31, 32, 33, 34, 35, 36, 37, 38, 39, 40, 41, 42, 43, 44, 45, 46, 47, 48, 49, 50, 51, 52, 53], [53])])
def storagebarterlaw03_SealBack.B11 : List Nat := [0, 1, 3, 7, 15, 31, 63, 127, 255, 511, 1023, 2047, 4095, 8191, 16383, 32767, 65535, 131071, 262143, 524287, 1048575, 2097151, 4194303, 8388607, 8388607, 33554431, 67108863, 134217727, 268435455, 268435455, 805306367, 268435455, 2415919103, 8321499135, 17179869183, 34359738367, 68719476735, 137438953471, 137438953471, 549755813887, 137438953471, 137438953471, 3435973836799, 8796093022207, 17592186044415, 35184372088831, 70368744177663, 70368744177663, 211106232532991, 70368744177663, 633318697598975, 2181431069507583, 4503599627370495, 9007199254740991, 18014398509481983]
theorem storagebarterlaw03_SealBack.tab11 : rtab .any (opsOf Try.f12 11) = storagebarterlaw03_SealBack.T11 := by kernel_rfl
theorem storagebarterlaw03_SealBack.bits11 : waitsOk storagebarterlaw03_SealBack.T11.2 storagebarterlaw03_SealBack.B11 = true := by kernel_rfl
set_option maxHeartbeats 8000000 in
set_option maxRecDepth 100000 in
theorem storagebarterlaw03_SealBack.calls (k : Nat) (a0 : ByteArray) (a1 : ByteArray) (a2 : ByteArray) (a3 : ByteArray) (a4 : Int) (a5 : Int) (r : Bool) (w : World) (h : storagebarterlaw03_SealBack.f k a0 a1 a2 a3 a4 a5 = some r) (hrt : r = true) :
    Calls Try.prog 12 #[.string a0, .string a1, .string a2, .string a3, .int .i64 a4, .int .i64 a5] w fun e w' => e = .returned (.bool r) ∧ Below w.heap.size w w' := by
  have hu34 := Try.underlying34
  have hu62 := Try.underlying62
  have HB := Aside0.mk (Below.refl w.heap.size w)
  have H : ((storagebarterlaw03_sane.f).bind fun t461 => (if t461 = true then (if (wrap64 ((a0.size : Int) + (a1.size : Int))) > 16384 then (some true) else ((storagebartermake_Mod.f a4 4294967294).bind fun t462 => ((seal_Seal.f a0 t462).bind fun bt463 => ((storagebartermake_Mod.f a5 4294967294).bind fun t467 => ((seal_Seal.f a1 t467).bind fun bt468 => ((seal_Encode.f bt463.1 bt463.2.1).bind fun bt472 => ((seal_Encode.f bt468.1 bt468.2.1).bind fun bt474 => (if a2.size + bt472.1.size ≤ 9223372036854775807 then (if (a2 ++ bt472.1).size + a3.size ≤ 9223372036854775807 then ((seal_Decode.f k ((a2 ++ bt472.1) ++ a3) (a2.size : Int)).bind fun bt476 => ((seal_Name.f k bt463.1 bt463.2.1).bind fun bt481 => (if bt463.2.2 = 0 then (if bt468.2.2 = 0 then (if bt472.2 = 0 then (if bt474.2 = 0 then (if bt476.2.2.2 = 0 then (if bt481.2.2 = 0 then (if (bt476.1 == bt463.1 && (bt476.2.1.toList == bt463.2.1.toList)) = true then (if bt476.2.2.1 = (wrap64 ((a2.size : Int) + (bt472.1.size : Int))) then (if ((bt472.1.toList == bt474.1.toList) == (bt463.1 == bt468.1 && (bt463.2.1.toList == bt468.2.1.toList))) = true then ((digest_Sum.f k bt472.1).bind fun t485 => (some (bt481.1 == t485 && (bt481.2.1 == (bt472.1.size : Int))))) else (some false)) else (some false)) else (some false)) else (some false)) else (some false)) else (some false)) else (some false)) else (some false)) else (some false)))) else (none)) else (none))))))))) else (some false))) = some r := h
  clear h
  have RT_ := Aside0.mk hrt
  clear hrt
  replace H := Option.bind_eq_some_iff.mp H
  obtain ⟨t461, A70, H⟩ := H
  replace H : (if t461 = true then (if (wrap64 ((a0.size : Int) + (a1.size : Int))) > 16384 then (some true) else ((storagebartermake_Mod.f a4 4294967294).bind fun t462 => ((seal_Seal.f a0 t462).bind fun bt463 => ((storagebartermake_Mod.f a5 4294967294).bind fun t467 => ((seal_Seal.f a1 t467).bind fun bt468 => ((seal_Encode.f bt463.1 bt463.2.1).bind fun bt472 => ((seal_Encode.f bt468.1 bt468.2.1).bind fun bt474 => (if a2.size + bt472.1.size ≤ 9223372036854775807 then (if (a2 ++ bt472.1).size + a3.size ≤ 9223372036854775807 then ((seal_Decode.f k ((a2 ++ bt472.1) ++ a3) (a2.size : Int)).bind fun bt476 => ((seal_Name.f k bt463.1 bt463.2.1).bind fun bt481 => (if bt463.2.2 = 0 then (if bt468.2.2 = 0 then (if bt472.2 = 0 then (if bt474.2 = 0 then (if bt476.2.2.2 = 0 then (if bt481.2.2 = 0 then (if (bt476.1 == bt463.1 && (bt476.2.1.toList == bt463.2.1.toList)) = true then (if bt476.2.2.1 = (wrap64 ((a2.size : Int) + (bt472.1.size : Int))) then (if ((bt472.1.toList == bt474.1.toList) == (bt463.1 == bt468.1 && (bt463.2.1.toList == bt468.2.1.toList))) = true then ((digest_Sum.f k bt472.1).bind fun t485 => (some (bt481.1 == t485 && (bt481.2.1 == (bt472.1.size : Int))))) else (some false)) else (some false)) else (some false)) else (some false)) else (some false)) else (some false)) else (some false)) else (some false)) else (some false)))) else (none)) else (none))))))))) else (some false)) = some r := H
  have A7 := Aside0.mk A70
  clear A70
  by_cases c8 : t461 = true
  · subst c8
    have H1 : (if (wrap64 ((a0.size : Int) + (a1.size : Int))) > 16384 then (some true) else ((storagebartermake_Mod.f a4 4294967294).bind fun t462 => ((seal_Seal.f a0 t462).bind fun bt463 => ((storagebartermake_Mod.f a5 4294967294).bind fun t467 => ((seal_Seal.f a1 t467).bind fun bt468 => ((seal_Encode.f bt463.1 bt463.2.1).bind fun bt472 => ((seal_Encode.f bt468.1 bt468.2.1).bind fun bt474 => (if a2.size + bt472.1.size ≤ 9223372036854775807 then (if (a2 ++ bt472.1).size + a3.size ≤ 9223372036854775807 then ((seal_Decode.f k ((a2 ++ bt472.1) ++ a3) (a2.size : Int)).bind fun bt476 => ((seal_Name.f k bt463.1 bt463.2.1).bind fun bt481 => (if bt463.2.2 = 0 then (if bt468.2.2 = 0 then (if bt472.2 = 0 then (if bt474.2 = 0 then (if bt476.2.2.2 = 0 then (if bt481.2.2 = 0 then (if (bt476.1 == bt463.1 && (bt476.2.1.toList == bt463.2.1.toList)) = true then (if bt476.2.2.1 = (wrap64 ((a2.size : Int) + (bt472.1.size : Int))) then (if ((bt472.1.toList == bt474.1.toList) == (bt463.1 == bt468.1 && (bt463.2.1.toList == bt468.2.1.toList))) = true then ((digest_Sum.f k bt472.1).bind fun t485 => (some (bt481.1 == t485 && (bt481.2.1 == (bt472.1.size : Int))))) else (some false)) else (some false)) else (some false)) else (some false)) else (some false)) else (some false)) else (some false)) else (some false)) else (some false)))) else (none)) else (none))))))))) = some r := by rw [if_pos rfl] at H; exact H
    clear H
    have H := H1
    clear H1
    by_cases c9 : (wrap64 ((a0.size : Int) + (a1.size : Int))) > 16384
    · rw [if_pos c9] at H
      have c9b0 : decide (16384 < (wrap64 ((a0.size : Int) + (a1.size : Int)))) = true := decide_eq_true c9
      clear c9
      obtain rfl := Option.some.inj H
      go_enter Try.func12, Try.ntmps12
      go_wp2_with (first | ((with_reducible refine gate_callee (f := 18) rfl ?_); refine goesL_ (some 26) rfl rfl Try.func18 (by kernel_rfl) rfl #[] rfl (by (try simp only [List.map_toArray, List.map_cons, List.map_nil]); first | done | rfl | (simp only [List.length_drop, List.length_take]; rfl)) ?_; (with_reducible refine (storagebarterlaw03_sane.calls  true _ A7.out).mono ?_); rintro e w10 ⟨rfl, hb⟩; refine ⟨_, rfl, ?_⟩; have n0_ := Aside0.mk (below_step (by repeat (first | (with_reducible first | exact HB.out | apply below_alloc | apply pw_below_drewN | apply below_drew1) | exact HB.out)) hb); clear HB; have HB := n0_; clear n0_; (try clear hb); (try clear hb2); (try clear hk); (try clear hi)))
      go_ret
      exact ⟨by first | rfl | (simp [errW_none, errW_some] <;> rfl) | (simp [*, errW_none, errW_some] <;> rfl), by repeat (first | (with_reducible first | exact HB.out | apply below_alloc | apply pw_below_drewN | apply below_drew1) | exact HB.out)⟩
    · rw [if_neg c9] at H
      have c9b0 : decide (16384 < (wrap64 ((a0.size : Int) + (a1.size : Int)))) = false := decide_eq_false c9
      clear c9
      replace H := Option.bind_eq_some_iff.mp H
      obtain ⟨t462, A110, H⟩ := H
      replace H : ((seal_Seal.f a0 t462).bind fun bt463 => ((storagebartermake_Mod.f a5 4294967294).bind fun t467 => ((seal_Seal.f a1 t467).bind fun bt468 => ((seal_Encode.f bt463.1 bt463.2.1).bind fun bt472 => ((seal_Encode.f bt468.1 bt468.2.1).bind fun bt474 => (if a2.size + bt472.1.size ≤ 9223372036854775807 then (if (a2 ++ bt472.1).size + a3.size ≤ 9223372036854775807 then ((seal_Decode.f k ((a2 ++ bt472.1) ++ a3) (a2.size : Int)).bind fun bt476 => ((seal_Name.f k bt463.1 bt463.2.1).bind fun bt481 => (if bt463.2.2 = 0 then (if bt468.2.2 = 0 then (if bt472.2 = 0 then (if bt474.2 = 0 then (if bt476.2.2.2 = 0 then (if bt481.2.2 = 0 then (if (bt476.1 == bt463.1 && (bt476.2.1.toList == bt463.2.1.toList)) = true then (if bt476.2.2.1 = (wrap64 ((a2.size : Int) + (bt472.1.size : Int))) then (if ((bt472.1.toList == bt474.1.toList) == (bt463.1 == bt468.1 && (bt463.2.1.toList == bt468.2.1.toList))) = true then ((digest_Sum.f k bt472.1).bind fun t485 => (some (bt481.1 == t485 && (bt481.2.1 == (bt472.1.size : Int))))) else (some false)) else (some false)) else (some false)) else (some false)) else (some false)) else (some false)) else (some false)) else (some false)) else (some false)))) else (none)) else (none))))))) = some r := H
      have A11 := Aside0.mk A110
      clear A110
      replace H := Option.bind_eq_some_iff.mp H
      obtain ⟨⟨t463, t464, t465⟩, A120, H⟩ := H
      replace H : ((storagebartermake_Mod.f a5 4294967294).bind fun t467 => ((seal_Seal.f a1 t467).bind fun bt468 => ((seal_Encode.f t463 t464).bind fun bt472 => ((seal_Encode.f bt468.1 bt468.2.1).bind fun bt474 => (if a2.size + bt472.1.size ≤ 9223372036854775807 then (if (a2 ++ bt472.1).size + a3.size ≤ 9223372036854775807 then ((seal_Decode.f k ((a2 ++ bt472.1) ++ a3) (a2.size : Int)).bind fun bt476 => ((seal_Name.f k t463 t464).bind fun bt481 => (if t465 = 0 then (if bt468.2.2 = 0 then (if bt472.2 = 0 then (if bt474.2 = 0 then (if bt476.2.2.2 = 0 then (if bt481.2.2 = 0 then (if (bt476.1 == t463 && (bt476.2.1.toList == t464.toList)) = true then (if bt476.2.2.1 = (wrap64 ((a2.size : Int) + (bt472.1.size : Int))) then (if ((bt472.1.toList == bt474.1.toList) == (t463 == bt468.1 && (t464.toList == bt468.2.1.toList))) = true then ((digest_Sum.f k bt472.1).bind fun t485 => (some (bt481.1 == t485 && (bt481.2.1 == (bt472.1.size : Int))))) else (some false)) else (some false)) else (some false)) else (some false)) else (some false)) else (some false)) else (some false)) else (some false)) else (some false)))) else (none)) else (none)))))) = some r := H
      have A12 := Aside0.mk A120
      clear A120
      replace H := Option.bind_eq_some_iff.mp H
      obtain ⟨t467, A130, H⟩ := H
      replace H : ((seal_Seal.f a1 t467).bind fun bt468 => ((seal_Encode.f t463 t464).bind fun bt472 => ((seal_Encode.f bt468.1 bt468.2.1).bind fun bt474 => (if a2.size + bt472.1.size ≤ 9223372036854775807 then (if (a2 ++ bt472.1).size + a3.size ≤ 9223372036854775807 then ((seal_Decode.f k ((a2 ++ bt472.1) ++ a3) (a2.size : Int)).bind fun bt476 => ((seal_Name.f k t463 t464).bind fun bt481 => (if t465 = 0 then (if bt468.2.2 = 0 then (if bt472.2 = 0 then (if bt474.2 = 0 then (if bt476.2.2.2 = 0 then (if bt481.2.2 = 0 then (if (bt476.1 == t463 && (bt476.2.1.toList == t464.toList)) = true then (if bt476.2.2.1 = (wrap64 ((a2.size : Int) + (bt472.1.size : Int))) then (if ((bt472.1.toList == bt474.1.toList) == (t463 == bt468.1 && (t464.toList == bt468.2.1.toList))) = true then ((digest_Sum.f k bt472.1).bind fun t485 => (some (bt481.1 == t485 && (bt481.2.1 == (bt472.1.size : Int))))) else (some false)) else (some false)) else (some false)) else (some false)) else (some false)) else (some false)) else (some false)) else (some false)) else (some false)))) else (none)) else (none))))) = some r := H
      have A13 := Aside0.mk A130
      clear A130
      replace H := Option.bind_eq_some_iff.mp H
      obtain ⟨⟨t468, t469, t470⟩, A140, H⟩ := H
      replace H : ((seal_Encode.f t463 t464).bind fun bt472 => ((seal_Encode.f t468 t469).bind fun bt474 => (if a2.size + bt472.1.size ≤ 9223372036854775807 then (if (a2 ++ bt472.1).size + a3.size ≤ 9223372036854775807 then ((seal_Decode.f k ((a2 ++ bt472.1) ++ a3) (a2.size : Int)).bind fun bt476 => ((seal_Name.f k t463 t464).bind fun bt481 => (if t465 = 0 then (if t470 = 0 then (if bt472.2 = 0 then (if bt474.2 = 0 then (if bt476.2.2.2 = 0 then (if bt481.2.2 = 0 then (if (bt476.1 == t463 && (bt476.2.1.toList == t464.toList)) = true then (if bt476.2.2.1 = (wrap64 ((a2.size : Int) + (bt472.1.size : Int))) then (if ((bt472.1.toList == bt474.1.toList) == (t463 == t468 && (t464.toList == t469.toList))) = true then ((digest_Sum.f k bt472.1).bind fun t485 => (some (bt481.1 == t485 && (bt481.2.1 == (bt472.1.size : Int))))) else (some false)) else (some false)) else (some false)) else (some false)) else (some false)) else (some false)) else (some false)) else (some false)) else (some false)))) else (none)) else (none)))) = some r := H
      have A14 := Aside0.mk A140
      clear A140
      replace H := Option.bind_eq_some_iff.mp H
      obtain ⟨⟨t472, t473⟩, A150, H⟩ := H
      replace H : ((seal_Encode.f t468 t469).bind fun bt474 => (if a2.size + t472.size ≤ 9223372036854775807 then (if (a2 ++ t472).size + a3.size ≤ 9223372036854775807 then ((seal_Decode.f k ((a2 ++ t472) ++ a3) (a2.size : Int)).bind fun bt476 => ((seal_Name.f k t463 t464).bind fun bt481 => (if t465 = 0 then (if t470 = 0 then (if t473 = 0 then (if bt474.2 = 0 then (if bt476.2.2.2 = 0 then (if bt481.2.2 = 0 then (if (bt476.1 == t463 && (bt476.2.1.toList == t464.toList)) = true then (if bt476.2.2.1 = (wrap64 ((a2.size : Int) + (t472.size : Int))) then (if ((t472.toList == bt474.1.toList) == (t463 == t468 && (t464.toList == t469.toList))) = true then ((digest_Sum.f k t472).bind fun t485 => (some (bt481.1 == t485 && (bt481.2.1 == (t472.size : Int))))) else (some false)) else (some false)) else (some false)) else (some false)) else (some false)) else (some false)) else (some false)) else (some false)) else (some false)))) else (none)) else (none))) = some r := H
      have A15 := Aside0.mk A150
      clear A150
      replace H := Option.bind_eq_some_iff.mp H
      obtain ⟨⟨t474, t475⟩, A160, H⟩ := H
      replace H : (if a2.size + t472.size ≤ 9223372036854775807 then (if (a2 ++ t472).size + a3.size ≤ 9223372036854775807 then ((seal_Decode.f k ((a2 ++ t472) ++ a3) (a2.size : Int)).bind fun bt476 => ((seal_Name.f k t463 t464).bind fun bt481 => (if t465 = 0 then (if t470 = 0 then (if t473 = 0 then (if t475 = 0 then (if bt476.2.2.2 = 0 then (if bt481.2.2 = 0 then (if (bt476.1 == t463 && (bt476.2.1.toList == t464.toList)) = true then (if bt476.2.2.1 = (wrap64 ((a2.size : Int) + (t472.size : Int))) then (if ((t472.toList == t474.toList) == (t463 == t468 && (t464.toList == t469.toList))) = true then ((digest_Sum.f k t472).bind fun t485 => (some (bt481.1 == t485 && (bt481.2.1 == (t472.size : Int))))) else (some false)) else (some false)) else (some false)) else (some false)) else (some false)) else (some false)) else (some false)) else (some false)) else (some false)))) else (none)) else (none)) = some r := H
      have A16 := Aside0.mk A160
      clear A160
      by_cases c17 : a2.size + t472.size ≤ 9223372036854775807
      · rw [if_pos c17] at H
        have c17b0 := eq_true c17
        have c17b1 : decide (a2.size + t472.size ≤ 9223372036854775807) = true := decide_eq_true c17
        try have c17b2 : (9223372036854775807 < a2.size + t472.size) = False := eq_false (Nat.not_lt.2 c17)
        obtain ⟨zc18, hzc18⟩ : ∃ z_ : ByteArray, (a2 ++ t472) = z_ := ⟨_, rfl⟩
        replace H : (if zc18.size + a3.size ≤ 9223372036854775807 then ((seal_Decode.f k (zc18 ++ a3) (a2.size : Int)).bind fun bt476 => ((seal_Name.f k t463 t464).bind fun bt481 => (if t465 = 0 then (if t470 = 0 then (if t473 = 0 then (if t475 = 0 then (if bt476.2.2.2 = 0 then (if bt481.2.2 = 0 then (if (bt476.1 == t463 && (bt476.2.1.toList == t464.toList)) = true then (if bt476.2.2.1 = (wrap64 ((a2.size : Int) + (t472.size : Int))) then (if ((t472.toList == t474.toList) == (t463 == t468 && (t464.toList == t469.toList))) = true then ((digest_Sum.f k t472).bind fun t485 => (some (bt481.1 == t485 && (bt481.2.1 == (t472.size : Int))))) else (some false)) else (some false)) else (some false)) else (some false)) else (some false)) else (some false)) else (some false)) else (some false)) else (some false)))) else (none)) = some r := by first | (rw [hzc18] at H; exact H) | (simp only [hzc18] at H ⊢; exact H) | exact H
        by_cases c19 : zc18.size + a3.size ≤ 9223372036854775807
        · rw [if_pos c19] at H
          have c19b0 := eq_true c19
          have c19b1 : decide (zc18.size + a3.size ≤ 9223372036854775807) = true := decide_eq_true c19
          try have c19b2 : (9223372036854775807 < zc18.size + a3.size) = False := eq_false (Nat.not_lt.2 c19)
          replace H := Option.bind_eq_some_iff.mp H
          obtain ⟨⟨t476, t477, t478, t479⟩, A200, H⟩ := H
          replace H : ((seal_Name.f k t463 t464).bind fun bt481 => (if t465 = 0 then (if t470 = 0 then (if t473 = 0 then (if t475 = 0 then (if t479 = 0 then (if bt481.2.2 = 0 then (if (t476 == t463 && (t477.toList == t464.toList)) = true then (if t478 = (wrap64 ((a2.size : Int) + (t472.size : Int))) then (if ((t472.toList == t474.toList) == (t463 == t468 && (t464.toList == t469.toList))) = true then ((digest_Sum.f k t472).bind fun t485 => (some (bt481.1 == t485 && (bt481.2.1 == (t472.size : Int))))) else (some false)) else (some false)) else (some false)) else (some false)) else (some false)) else (some false)) else (some false)) else (some false)) else (some false))) = some r := H
          have A20 := Aside0.mk A200
          clear A200
          replace H := Option.bind_eq_some_iff.mp H
          obtain ⟨⟨t481, t482, t483⟩, A210, H⟩ := H
          replace H : (if t465 = 0 then (if t470 = 0 then (if t473 = 0 then (if t475 = 0 then (if t479 = 0 then (if t483 = 0 then (if (t476 == t463 && (t477.toList == t464.toList)) = true then (if t478 = (wrap64 ((a2.size : Int) + (t472.size : Int))) then (if ((t472.toList == t474.toList) == (t463 == t468 && (t464.toList == t469.toList))) = true then ((digest_Sum.f k t472).bind fun t485 => (some (t481 == t485 && (t482 == (t472.size : Int))))) else (some false)) else (some false)) else (some false)) else (some false)) else (some false)) else (some false)) else (some false)) else (some false)) else (some false)) = some r := H
          have A21 := Aside0.mk A210
          clear A210
          by_cases c22 : t465 = 0
          · rw [if_pos c22] at H
            have c22b0 : (t465 == 0) = true := beq_iff_eq.mpr c22
            have c22b1 : (t465 != 0) = false := bne_eq_false_iff_eq.mpr c22
            clear c22
            by_cases c23 : t470 = 0
            · rw [if_pos c23] at H
              have c23b0 : (t470 == 0) = true := beq_iff_eq.mpr c23
              have c23b1 : (t470 != 0) = false := bne_eq_false_iff_eq.mpr c23
              clear c23
              by_cases c24 : t473 = 0
              · rw [if_pos c24] at H
                have c24b0 : (t473 == 0) = true := beq_iff_eq.mpr c24
                have c24b1 : (t473 != 0) = false := bne_eq_false_iff_eq.mpr c24
                clear c24
                by_cases c25 : t475 = 0
                · rw [if_pos c25] at H
                  have c25b0 : (t475 == 0) = true := beq_iff_eq.mpr c25
                  have c25b1 : (t475 != 0) = false := bne_eq_false_iff_eq.mpr c25
                  clear c25
                  by_cases c26 : t479 = 0
                  · rw [if_pos c26] at H
                    have c26b0 : (t479 == 0) = true := beq_iff_eq.mpr c26
                    have c26b1 : (t479 != 0) = false := bne_eq_false_iff_eq.mpr c26
                    clear c26
                    by_cases c27 : t483 = 0
                    · rw [if_pos c27] at H
                      have c27b0 : (t483 == 0) = true := beq_iff_eq.mpr c27
                      have c27b1 : (t483 != 0) = false := bne_eq_false_iff_eq.mpr c27
                      clear c27
                      by_cases c28 : (t476 == t463 && (t477.toList == t464.toList)) = true
                      · rw [if_pos c28] at H
                        have c28b0 : (t476 == t463 && (t477.toList == t464.toList)) = true := c28
                        (try (have c28b1 : decide (t476 = t463 && (t477.toList == t464.toList)) = true := by simpa using c28))
                        (try (have c28b2 : (t476 == t463 && (t477.toList == t464.toList)) = true := by simpa using c28))
                        clear c28
                        by_cases c29 : t478 = (wrap64 ((a2.size : Int) + (t472.size : Int)))
                        · rw [if_pos c29] at H
                          have c29b0 : (t478 == (wrap64 ((a2.size : Int) + (t472.size : Int)))) = true := beq_iff_eq.mpr c29
                          have c29b1 : (t478 != (wrap64 ((a2.size : Int) + (t472.size : Int)))) = false := bne_eq_false_iff_eq.mpr c29
                          clear c29
                          by_cases c30 : ((t472.toList == t474.toList) == (t463 == t468 && (t464.toList == t469.toList))) = true
                          · rw [if_pos c30] at H
                            have c30b0 : ((t472.toList == t474.toList) == (t463 == t468 && (t464.toList == t469.toList))) = true := c30
                            (try (have c30b1 : decide ((t472.toList == t474.toList) = (t463 == t468 && (t464.toList == t469.toList))) = true := by simpa using c30))
                            (try (have c30b2 : ((t472.toList == t474.toList) == (t463 == t468 && (t464.toList == t469.toList))) = true := by simpa using c30))
                            clear c30
                            replace H := Option.bind_eq_some_iff.mp H
                            obtain ⟨t485, A310, H⟩ := H
                            replace H : (some (t481 == t485 && (t482 == (t472.size : Int)))) = some r := H
                            have A31 := Aside0.mk A310
                            clear A310
                            obtain rfl := Option.some.inj H
                            go_enter Try.func12, Try.ntmps12
                            try go_wp2_with (first | ((with_reducible refine gate_callee (f := 18) rfl ?_); refine goesL_ (some 26) rfl rfl Try.func18 (by kernel_rfl) rfl #[] rfl (by (try simp only [List.map_toArray, List.map_cons, List.map_nil]); first | done | rfl | (simp only [List.length_drop, List.length_take]; rfl)) ?_; (with_reducible refine (storagebarterlaw03_sane.calls  true _ A7.out).mono ?_); rintro e w32 ⟨rfl, hb⟩; refine ⟨_, rfl, ?_⟩; have n0_ := Aside0.mk (below_step (by repeat (first | (with_reducible first | exact HB.out | apply below_alloc | apply pw_below_drewN | apply below_drew1) | exact HB.out)) hb); clear HB; have HB := n0_; clear n0_; (try clear hb); (try clear hb2); (try clear hk); (try clear hi)) | ((with_reducible refine gate_callee (f := 19) rfl ?_); refine goesL_ (some 37) rfl rfl Try.func19 (by kernel_rfl) rfl #[.int .i64 a4, .int .i64 4294967294] rfl (by (try simp only [List.map_toArray, List.map_cons, List.map_nil]); first | done | rfl | (simp only [List.length_drop, List.length_take]; rfl)) ?_; (with_reducible refine (storagebartermake_Mod.calls a4 4294967294 t462 _ A11.out).mono ?_); rintro e w' ⟨rfl, ⟨nd, rfl⟩⟩; refine ⟨_, rfl, ?_⟩; (try (rw [drewN_self w32]; generalize hq_ : World.drewN w32 _ = w32; have n0_ : Aside0 (Below w.heap.size w w32) := ⟨by rw [← hq_]; exact (by repeat (first | (with_reducible first | exact HB.out | apply below_alloc | apply pw_below_drewN | apply below_drew1) | exact HB.out))⟩; clear HB hq_; have HB := n0_; clear n0_))) | ((with_reducible refine gate_callee (f := 24) rfl ?_); refine goesL_ (some 38) rfl rfl Try.func24 (by kernel_rfl) rfl #[.string a0, .int .i64 t462] rfl (by (try simp only [List.map_toArray, List.map_cons, List.map_nil]); first | done | rfl | (simp only [List.length_drop, List.length_take]; rfl)) ?_; (with_reducible refine (seal_Seal.calls a0 t462 t463 t464 t465 _ A12.out).mono ?_); rintro e w33 ⟨rfl, hb⟩; refine ⟨_, rfl, ?_⟩; have n0_ := Aside0.mk (below_step (by repeat (first | (with_reducible first | exact HB.out | apply below_alloc | apply pw_below_drewN | apply below_drew1) | exact HB.out)) hb); clear HB; have HB := n0_; clear n0_; (try clear hb); (try clear hb2); (try clear hk); (try clear hi)) | ((with_reducible refine gate_dst (N := 13) rfl ?_); (try (refine gate_guard (by rfl) ?_; dsimp only)); refine box_event ?hg (N := 13) ?hd (cs := #[.int .i64 0, .string (⟨#[]⟩ : ByteArray)]) (t := 34) ?hr ?_; (case hd => rfl); (case hg => rfl); (case hr => first | (go_simp; done) | (go_simp; rfl)); intro gb466 hg w34 hbox hb; have n0_ := Aside0.mk (below_step (by repeat (first | (with_reducible first | exact HB.out | apply below_alloc | apply pw_below_drewN | apply below_drew1) | exact HB.out)) hb); have n1_ := Aside0.mk (hbox); have n2_ := Aside0.mk ((by rw [hg]; exact (below_size (by repeat (first | (with_reducible first | exact HB.out | apply below_alloc | apply pw_below_drewN | apply below_drew1) | exact HB.out))) : w.heap.size ≤ gb466)); have n3_ := Aside0.mk ((by rw [hg]; exact (below_size (by repeat (first | (with_reducible first | exact HB.out | apply below_alloc | apply pw_below_drewN | apply below_drew1) | exact HB.out))) : w.heap.size ≤ gb466)); clear HB; have HB := n0_; have BK466 := n1_; have GW466 := n2_; have GE466 := n3_; clear n0_ n1_ n2_ n3_; clear hb hbox hg; have hcz35_0 : w34.cell? ⟨gb466, 0, none⟩ = some (.int .i64 0) := (blk_cell BK466.out 0).trans rfl; have hcz35_1 : w34.cell? ⟨gb466, 1, none⟩ = some (.string (⟨#[]⟩ : ByteArray)) := (blk_cell BK466.out 1).trans rfl; have hfz35_0 := blk_frozen BK466.out 0; have hfz35_1 := blk_frozen BK466.out 1) | ((with_reducible refine gate_callee (f := 19) rfl ?_); refine goesL_ (some 44) rfl rfl Try.func19 (by kernel_rfl) rfl #[.int .i64 a5, .int .i64 4294967294] rfl (by (try simp only [List.map_toArray, List.map_cons, List.map_nil]); first | done | rfl | (simp only [List.length_drop, List.length_take]; rfl)) ?_; (with_reducible refine (storagebartermake_Mod.calls a5 4294967294 t467 _ A13.out).mono ?_); rintro e w' ⟨rfl, ⟨nd, rfl⟩⟩; refine ⟨_, rfl, ?_⟩) | ((with_reducible refine gate_callee (f := 24) rfl ?_); refine goesL_ (some 45) rfl rfl Try.func24 (by kernel_rfl) rfl #[.string a1, .int .i64 t467] rfl (by (try simp only [List.map_toArray, List.map_cons, List.map_nil]); first | done | rfl | (simp only [List.length_drop, List.length_take]; rfl)) ?_; (with_reducible refine (seal_Seal.calls a1 t467 t468 t469 t470 _ A14.out).mono ?_); rintro e w36 ⟨rfl, hb⟩; refine ⟨_, rfl, ?_⟩; have n0_ := Aside0.mk (blk_below (g := gb466) (o := .cells #[.int .i64 t463, .string t464] 34 (0, 0)) (by (with_reducible repeat (first | refine blk_drewN ?_ _ | refine blk_drew ?_ | refine blk_alloc ?_ _)); refine blk_put (cs := #[.int .i64 t463, .string (⟨#[]⟩ : ByteArray)]) ?_ 1 _ rfl; (with_reducible repeat (first | refine blk_drewN ?_ _ | refine blk_drew ?_ | refine blk_alloc ?_ _)); refine blk_put (cs := #[.int .i64 0, .string (⟨#[]⟩ : ByteArray)]) ?_ 0 _ rfl; (with_reducible repeat (first | refine blk_drewN ?_ _ | refine blk_drew ?_ | refine blk_alloc ?_ _)); exact BK466.out) hb); have n1_ := Aside0.mk (below_step (by repeat (first | (with_reducible first | exact HB.out | apply below_alloc | apply pw_below_drewN | apply below_drew1 | refine below_set ?_ GE466.out) | exact HB.out)) hb); clear BK466; clear HB; have BK466 := n0_; have HB := n1_; clear n0_ n1_; (try clear hb); (try clear hb2); (try clear hk); (try clear hi)) | ((with_reducible refine gate_dst (N := 15) rfl ?_); (try (refine gate_guard (by rfl) ?_; dsimp only)); refine box_event ?hg (N := 15) ?hd (cs := #[.int .i64 0, .string (⟨#[]⟩ : ByteArray)]) (t := 34) ?hr ?_; (case hd => rfl); (case hg => rfl); (case hr => first | (go_simp; done) | (go_simp; rfl)); intro gb471 hg w37 hbox hb; have n0_ := Aside0.mk (blk_below (g := gb466) (o := .cells #[.int .i64 t463, .string t464] 34 (0, 0)) (by (with_reducible repeat (first | refine blk_drewN ?_ _ | refine blk_drew ?_ | refine blk_alloc ?_ _)); exact BK466.out) hb); have n1_ := Aside0.mk (below_step (by repeat (first | (with_reducible first | exact HB.out | apply below_alloc | apply pw_below_drewN | apply below_drew1 | refine below_set ?_ GE466.out) | exact HB.out)) hb); have n2_ := Aside0.mk (hbox); have n3_ := Aside0.mk ((by rw [hg]; exact (below_size (by repeat (first | (with_reducible first | exact HB.out | apply below_alloc | apply pw_below_drewN | apply below_drew1 | refine below_set ?_ GE466.out) | exact HB.out))) : w.heap.size ≤ gb471)); have n4_ := Aside0.mk ((by rw [hg]; exact (below_size (by repeat (first | (with_reducible first | exact HB.out | apply below_alloc | apply pw_below_drewN | apply below_drew1 | refine below_set ?_ GE466.out) | exact HB.out))) : w.heap.size ≤ gb471)); have n5_ := Aside0.mk ((by rw [hg]; exact Nat.ne_of_lt (blk_lt (g := gb466) (o := .cells #[.int .i64 t463, .string t464] 34 (0, 0)) (by (with_reducible repeat (first | refine blk_drewN ?_ _ | refine blk_drew ?_ | refine blk_alloc ?_ _)); exact BK466.out)) : gb466 ≠ gb471)); have n6_ := Aside0.mk ((by rw [hg]; exact Nat.ne_of_gt (blk_lt (g := gb466) (o := .cells #[.int .i64 t463, .string t464] 34 (0, 0)) (by (with_reducible repeat (first | refine blk_drewN ?_ _ | refine blk_drew ?_ | refine blk_alloc ?_ _)); exact BK466.out)) : gb471 ≠ gb466)); clear BK466; clear HB; have BK466 := n0_; have HB := n1_; have BK471 := n2_; have GW471 := n3_; have GE471 := n4_; have NB466_471 := n5_; have NB471_466 := n6_; clear n0_ n1_ n2_ n3_ n4_ n5_ n6_; clear hb hbox hg; have hnb38 := NB471_466.out; have hnc38 := NB466_471.out; have hcz39_0 : w37.cell? ⟨gb471, 0, none⟩ = some (.int .i64 0) := (blk_cell BK471.out 0).trans rfl; have hcz39_1 : w37.cell? ⟨gb471, 1, none⟩ = some (.string (⟨#[]⟩ : ByteArray)) := (blk_cell BK471.out 1).trans rfl; have hfz39_0 := blk_frozen BK471.out 0; have hfz39_1 := blk_frozen BK471.out 1; have hcz40_0 : w37.cell? ⟨gb466, 0, none⟩ = some (.int .i64 t463) := (blk_cell BK466.out 0).trans rfl; have hcz40_1 : w37.cell? ⟨gb466, 1, none⟩ = some (.string t464) := (blk_cell BK466.out 1).trans rfl; have hfz40_0 := blk_frozen BK466.out 0; have hfz40_1 := blk_frozen BK466.out 1) | ((with_reducible refine gate_callee (f := 40) rfl ?_); refine goesL_ (some 50) rfl rfl Try.func40 (by kernel_rfl) rfl #[.agg #[.int .i64 t463, .string t464]] rfl (by (try simp only [List.map_toArray, List.map_cons, List.map_nil]); first | done | rfl | (simp only [List.length_drop, List.length_take]; rfl)) ?_; (with_reducible refine (seal_Encode.calls t463 t464 t472 t473 _ A15.out).mono ?_); rintro e w41 ⟨rfl, hb⟩; refine ⟨_, rfl, ?_⟩; have n0_ := Aside0.mk (blk_below (g := gb466) (o := .cells #[.int .i64 t463, .string t464] 34 (0, 0)) (by (with_reducible repeat (first | refine blk_drewN ?_ _ | refine blk_drew ?_ | refine blk_alloc ?_ _)); refine blk_far ?_ NB466_471.out _; (with_reducible repeat (first | refine blk_drewN ?_ _ | refine blk_drew ?_ | refine blk_alloc ?_ _)); refine blk_far ?_ NB466_471.out _; (with_reducible repeat (first | refine blk_drewN ?_ _ | refine blk_drew ?_ | refine blk_alloc ?_ _)); exact BK466.out) hb); have n1_ := Aside0.mk (blk_below (g := gb471) (o := .cells #[.int .i64 t468, .string t469] 34 (0, 0)) (by (with_reducible repeat (first | refine blk_drewN ?_ _ | refine blk_drew ?_ | refine blk_alloc ?_ _)); refine blk_put (cs := #[.int .i64 t468, .string (⟨#[]⟩ : ByteArray)]) ?_ 1 _ rfl; (with_reducible repeat (first | refine blk_drewN ?_ _ | refine blk_drew ?_ | refine blk_alloc ?_ _)); refine blk_put (cs := #[.int .i64 0, .string (⟨#[]⟩ : ByteArray)]) ?_ 0 _ rfl; (with_reducible repeat (first | refine blk_drewN ?_ _ | refine blk_drew ?_ | refine blk_alloc ?_ _)); exact BK471.out) hb); have n2_ := Aside0.mk (below_step (by repeat (first | (with_reducible first | exact HB.out | apply below_alloc | apply pw_below_drewN | apply below_drew1 | refine below_set ?_ GE466.out | refine below_set ?_ GE471.out) | exact HB.out)) hb); clear BK466; clear BK471; clear HB; have BK466 := n0_; have BK471 := n1_; have HB := n2_; clear n0_ n1_ n2_; (try clear hb); (try clear hb2); (try clear hk); (try clear hi); have hcz42_0 : w41.cell? ⟨gb471, 0, none⟩ = some (.int .i64 t468) := (blk_cell BK471.out 0).trans rfl; have hcz42_1 : w41.cell? ⟨gb471, 1, none⟩ = some (.string t469) := (blk_cell BK471.out 1).trans rfl; have hfz42_0 := blk_frozen BK471.out 0; have hfz42_1 := blk_frozen BK471.out 1) | ((with_reducible refine gate_callee (f := 40) rfl ?_); refine goesL_ (some 55) rfl rfl Try.func40 (by kernel_rfl) rfl #[.agg #[.int .i64 t468, .string t469]] rfl (by (try simp only [List.map_toArray, List.map_cons, List.map_nil]); first | done | rfl | (simp only [List.length_drop, List.length_take]; rfl)) ?_; (with_reducible refine (seal_Encode.calls t468 t469 t474 t475 _ A16.out).mono ?_); rintro e w43 ⟨rfl, hb⟩; refine ⟨_, rfl, ?_⟩; have n0_ := Aside0.mk (blk_below (g := gb466) (o := .cells #[.int .i64 t463, .string t464] 34 (0, 0)) (by (with_reducible repeat (first | refine blk_drewN ?_ _ | refine blk_drew ?_ | refine blk_alloc ?_ _)); exact BK466.out) hb); have n1_ := Aside0.mk (blk_below (g := gb471) (o := .cells #[.int .i64 t468, .string t469] 34 (0, 0)) (by (with_reducible repeat (first | refine blk_drewN ?_ _ | refine blk_drew ?_ | refine blk_alloc ?_ _)); exact BK471.out) hb); have n2_ := Aside0.mk (below_step (by repeat (first | (with_reducible first | exact HB.out | apply below_alloc | apply pw_below_drewN | apply below_drew1 | refine below_set ?_ GE466.out | refine below_set ?_ GE471.out) | exact HB.out)) hb); clear BK466; clear BK471; clear HB; have BK466 := n0_; have BK471 := n1_; have HB := n2_; clear n0_ n1_ n2_; (try clear hb); (try clear hb2); (try clear hk); (try clear hi)) | ((with_reducible refine gate_callee (f := 41) rfl ?_); refine goesL_ (some 66) rfl rfl Try.func41 (by kernel_rfl) rfl #[.string (zc18 ++ a3), .int .i64 (a2.size : Int)] rfl (by (try simp only [List.map_toArray, List.map_cons, List.map_nil]); first | done | rfl | (simp only [List.length_drop, List.length_take]; rfl)) ?_; (with_reducible refine (seal_Decode.calls k (zc18 ++ a3) (a2.size : Int) t476 t477 t478 t479 _ A20.out).mono ?_); rintro e w44 ⟨rfl, hb⟩; refine ⟨_, rfl, ?_⟩; have n0_ := Aside0.mk (blk_below (g := gb466) (o := .cells #[.int .i64 t463, .string t464] 34 (0, 0)) (by (with_reducible repeat (first | refine blk_drewN ?_ _ | refine blk_drew ?_ | refine blk_alloc ?_ _)); exact BK466.out) hb); have n1_ := Aside0.mk (blk_below (g := gb471) (o := .cells #[.int .i64 t468, .string t469] 34 (0, 0)) (by (with_reducible repeat (first | refine blk_drewN ?_ _ | refine blk_drew ?_ | refine blk_alloc ?_ _)); exact BK471.out) hb); have n2_ := Aside0.mk (below_step (by repeat (first | (with_reducible first | exact HB.out | apply below_alloc | apply pw_below_drewN | apply below_drew1 | refine below_set ?_ GE466.out | refine below_set ?_ GE471.out) | exact HB.out)) hb); clear BK466; clear BK471; clear HB; have BK466 := n0_; have BK471 := n1_; have HB := n2_; clear n0_ n1_ n2_; (try clear hb); (try clear hb2); (try clear hk); (try clear hi)) | ((with_reducible refine gate_dst (N := 21) rfl ?_); (try (refine gate_guard (by rfl) ?_; dsimp only)); refine box_event ?hg (N := 21) ?hd (cs := #[.int .i64 0, .string (⟨#[]⟩ : ByteArray)]) (t := 34) ?hr ?_; (case hd => rfl); (case hg => rfl); (case hr => first | (go_simp; done) | (go_simp; rfl)); intro gb480 hg w45 hbox hb; have n0_ := Aside0.mk (blk_below (g := gb466) (o := .cells #[.int .i64 t463, .string t464] 34 (0, 0)) (by (with_reducible repeat (first | refine blk_drewN ?_ _ | refine blk_drew ?_ | refine blk_alloc ?_ _)); exact BK466.out) hb); have n1_ := Aside0.mk (blk_below (g := gb471) (o := .cells #[.int .i64 t468, .string t469] 34 (0, 0)) (by (with_reducible repeat (first | refine blk_drewN ?_ _ | refine blk_drew ?_ | refine blk_alloc ?_ _)); exact BK471.out) hb); have n2_ := Aside0.mk (below_step (by repeat (first | (with_reducible first | exact HB.out | apply below_alloc | apply pw_below_drewN | apply below_drew1 | refine below_set ?_ GE466.out | refine below_set ?_ GE471.out) | exact HB.out)) hb); have n3_ := Aside0.mk (hbox); have n4_ := Aside0.mk ((by rw [hg]; exact (below_size (by repeat (first | (with_reducible first | exact HB.out | apply below_alloc | apply pw_below_drewN | apply below_drew1 | refine below_set ?_ GE466.out | refine below_set ?_ GE471.out) | exact HB.out))) : w.heap.size ≤ gb480)); have n5_ := Aside0.mk ((by rw [hg]; exact (below_size (by repeat (first | (with_reducible first | exact HB.out | apply below_alloc | apply pw_below_drewN | apply below_drew1 | refine below_set ?_ GE466.out | refine below_set ?_ GE471.out) | exact HB.out))) : w.heap.size ≤ gb480)); have n6_ := Aside0.mk ((by rw [hg]; exact Nat.ne_of_lt (blk_lt (g := gb466) (o := .cells #[.int .i64 t463, .string t464] 34 (0, 0)) (by (with_reducible repeat (first | refine blk_drewN ?_ _ | refine blk_drew ?_ | refine blk_alloc ?_ _)); exact BK466.out)) : gb466 ≠ gb480)); have n7_ := Aside0.mk ((by rw [hg]; exact Nat.ne_of_gt (blk_lt (g := gb466) (o := .cells #[.int .i64 t463, .string t464] 34 (0, 0)) (by (with_reducible repeat (first | refine blk_drewN ?_ _ | refine blk_drew ?_ | refine blk_alloc ?_ _)); exact BK466.out)) : gb480 ≠ gb466)); have n8_ := Aside0.mk ((by rw [hg]; exact Nat.ne_of_lt (blk_lt (g := gb471) (o := .cells #[.int .i64 t468, .string t469] 34 (0, 0)) (by (with_reducible repeat (first | refine blk_drewN ?_ _ | refine blk_drew ?_ | refine blk_alloc ?_ _)); exact BK471.out)) : gb471 ≠ gb480)); have n9_ := Aside0.mk ((by rw [hg]; exact Nat.ne_of_gt (blk_lt (g := gb471) (o := .cells #[.int .i64 t468, .string t469] 34 (0, 0)) (by (with_reducible repeat (first | refine blk_drewN ?_ _ | refine blk_drew ?_ | refine blk_alloc ?_ _)); exact BK471.out)) : gb480 ≠ gb471)); clear BK466; clear BK471; clear HB; have BK466 := n0_; have BK471 := n1_; have HB := n2_; have BK480 := n3_; have GW480 := n4_; have GE480 := n5_; have NB466_480 := n6_; have NB480_466 := n7_; have NB471_480 := n8_; have NB480_471 := n9_; clear n0_ n1_ n2_ n3_ n4_ n5_ n6_ n7_ n8_ n9_; clear hb hbox hg; have hnb46 := NB480_466.out; have hnc46 := NB466_480.out; have hnb47 := NB480_471.out; have hnc47 := NB471_480.out; have hcz48_0 : w45.cell? ⟨gb480, 0, none⟩ = some (.int .i64 0) := (blk_cell BK480.out 0).trans rfl; have hcz48_1 : w45.cell? ⟨gb480, 1, none⟩ = some (.string (⟨#[]⟩ : ByteArray)) := (blk_cell BK480.out 1).trans rfl; have hfz48_0 := blk_frozen BK480.out 0; have hfz48_1 := blk_frozen BK480.out 1; have hcz49_0 : w45.cell? ⟨gb466, 0, none⟩ = some (.int .i64 t463) := (blk_cell BK466.out 0).trans rfl; have hcz49_1 : w45.cell? ⟨gb466, 1, none⟩ = some (.string t464) := (blk_cell BK466.out 1).trans rfl; have hfz49_0 := blk_frozen BK466.out 0; have hfz49_1 := blk_frozen BK466.out 1) | ((with_reducible refine gate_callee (f := 44) rfl ?_); refine goesL_ (some 72) rfl rfl Try.func44 (by kernel_rfl) rfl #[.agg #[.int .i64 t463, .string t464]] rfl (by (try simp only [List.map_toArray, List.map_cons, List.map_nil]); first | done | rfl | (simp only [List.length_drop, List.length_take]; rfl)) ?_; (with_reducible refine (seal_Name.calls k t463 t464 t481 t482 t483 _ A21.out).mono ?_); rintro e w50 ⟨rfl, hb⟩; refine ⟨_, rfl, ?_⟩; have n0_ := Aside0.mk (blk_below (g := gb466) (o := .cells #[.int .i64 t463, .string t464] 34 (0, 0)) (by (with_reducible repeat (first | refine blk_drewN ?_ _ | refine blk_drew ?_ | refine blk_alloc ?_ _)); refine blk_far ?_ NB466_480.out _; (with_reducible repeat (first | refine blk_drewN ?_ _ | refine blk_drew ?_ | refine blk_alloc ?_ _)); refine blk_far ?_ NB466_480.out _; (with_reducible repeat (first | refine blk_drewN ?_ _ | refine blk_drew ?_ | refine blk_alloc ?_ _)); exact BK466.out) hb); have n1_ := Aside0.mk (blk_below (g := gb471) (o := .cells #[.int .i64 t468, .string t469] 34 (0, 0)) (by (with_reducible repeat (first | refine blk_drewN ?_ _ | refine blk_drew ?_ | refine blk_alloc ?_ _)); refine blk_far ?_ NB471_480.out _; (with_reducible repeat (first | refine blk_drewN ?_ _ | refine blk_drew ?_ | refine blk_alloc ?_ _)); refine blk_far ?_ NB471_480.out _; (with_reducible repeat (first | refine blk_drewN ?_ _ | refine blk_drew ?_ | refine blk_alloc ?_ _)); exact BK471.out) hb); have n2_ := Aside0.mk (blk_below (g := gb480) (o := .cells #[.int .i64 t476, .string t477] 34 (0, 0)) (by (with_reducible repeat (first | refine blk_drewN ?_ _ | refine blk_drew ?_ | refine blk_alloc ?_ _)); refine blk_put (cs := #[.int .i64 t476, .string (⟨#[]⟩ : ByteArray)]) ?_ 1 _ rfl; (with_reducible repeat (first | refine blk_drewN ?_ _ | refine blk_drew ?_ | refine blk_alloc ?_ _)); refine blk_put (cs := #[.int .i64 0, .string (⟨#[]⟩ : ByteArray)]) ?_ 0 _ rfl; (with_reducible repeat (first | refine blk_drewN ?_ _ | refine blk_drew ?_ | refine blk_alloc ?_ _)); exact BK480.out) hb); have n3_ := Aside0.mk (below_step (by repeat (first | (with_reducible first | exact HB.out | apply below_alloc | apply pw_below_drewN | apply below_drew1 | refine below_set ?_ GE466.out | refine below_set ?_ GE471.out | refine below_set ?_ GE480.out) | exact HB.out)) hb); clear BK466; clear BK471; clear BK480; clear HB; have BK466 := n0_; have BK471 := n1_; have BK480 := n2_; have HB := n3_; clear n0_ n1_ n2_ n3_; (try clear hb); (try clear hb2); (try clear hk); (try clear hi)) | ((with_reducible refine gate_dst (N := 24) rfl ?_); (try (refine gate_guard (by rfl) ?_; dsimp only)); refine box_event ?hg (N := 24) ?hd (cs := #[.int .i64 0, .int .i64 0]) (t := 62) ?hr ?_; (case hd => rfl); (case hg => rfl); (case hr => first | (go_simp; done) | (go_simp; rfl)); intro gb484 hg w51 hbox hb; have n0_ := Aside0.mk (blk_below (g := gb466) (o := .cells #[.int .i64 t463, .string t464] 34 (0, 0)) (by (with_reducible repeat (first | refine blk_drewN ?_ _ | refine blk_drew ?_ | refine blk_alloc ?_ _)); exact BK466.out) hb); have n1_ := Aside0.mk (blk_below (g := gb471) (o := .cells #[.int .i64 t468, .string t469] 34 (0, 0)) (by (with_reducible repeat (first | refine blk_drewN ?_ _ | refine blk_drew ?_ | refine blk_alloc ?_ _)); exact BK471.out) hb); have n2_ := Aside0.mk (blk_below (g := gb480) (o := .cells #[.int .i64 t476, .string t477] 34 (0, 0)) (by (with_reducible repeat (first | refine blk_drewN ?_ _ | refine blk_drew ?_ | refine blk_alloc ?_ _)); exact BK480.out) hb); have n3_ := Aside0.mk (below_step (by repeat (first | (with_reducible first | exact HB.out | apply below_alloc | apply pw_below_drewN | apply below_drew1 | refine below_set ?_ GE466.out | refine below_set ?_ GE471.out | refine below_set ?_ GE480.out) | exact HB.out)) hb); have n4_ := Aside0.mk (hbox); have n5_ := Aside0.mk ((by rw [hg]; exact (below_size (by repeat (first | (with_reducible first | exact HB.out | apply below_alloc | apply pw_below_drewN | apply below_drew1 | refine below_set ?_ GE466.out | refine below_set ?_ GE471.out | refine below_set ?_ GE480.out) | exact HB.out))) : w.heap.size ≤ gb484)); have n6_ := Aside0.mk ((by rw [hg]; exact (below_size (by repeat (first | (with_reducible first | exact HB.out | apply below_alloc | apply pw_below_drewN | apply below_drew1 | refine below_set ?_ GE466.out | refine below_set ?_ GE471.out | refine below_set ?_ GE480.out) | exact HB.out))) : w.heap.size ≤ gb484)); have n7_ := Aside0.mk ((by rw [hg]; exact Nat.ne_of_lt (blk_lt (g := gb466) (o := .cells #[.int .i64 t463, .string t464] 34 (0, 0)) (by (with_reducible repeat (first | refine blk_drewN ?_ _ | refine blk_drew ?_ | refine blk_alloc ?_ _)); exact BK466.out)) : gb466 ≠ gb484)); have n8_ := Aside0.mk ((by rw [hg]; exact Nat.ne_of_gt (blk_lt (g := gb466) (o := .cells #[.int .i64 t463, .string t464] 34 (0, 0)) (by (with_reducible repeat (first | refine blk_drewN ?_ _ | refine blk_drew ?_ | refine blk_alloc ?_ _)); exact BK466.out)) : gb484 ≠ gb466)); have n9_ := Aside0.mk ((by rw [hg]; exact Nat.ne_of_lt (blk_lt (g := gb471) (o := .cells #[.int .i64 t468, .string t469] 34 (0, 0)) (by (with_reducible repeat (first | refine blk_drewN ?_ _ | refine blk_drew ?_ | refine blk_alloc ?_ _)); exact BK471.out)) : gb471 ≠ gb484)); have n10_ := Aside0.mk ((by rw [hg]; exact Nat.ne_of_gt (blk_lt (g := gb471) (o := .cells #[.int .i64 t468, .string t469] 34 (0, 0)) (by (with_reducible repeat (first | refine blk_drewN ?_ _ | refine blk_drew ?_ | refine blk_alloc ?_ _)); exact BK471.out)) : gb484 ≠ gb471)); have n11_ := Aside0.mk ((by rw [hg]; exact Nat.ne_of_lt (blk_lt (g := gb480) (o := .cells #[.int .i64 t476, .string t477] 34 (0, 0)) (by (with_reducible repeat (first | refine blk_drewN ?_ _ | refine blk_drew ?_ | refine blk_alloc ?_ _)); exact BK480.out)) : gb480 ≠ gb484)); have n12_ := Aside0.mk ((by rw [hg]; exact Nat.ne_of_gt (blk_lt (g := gb480) (o := .cells #[.int .i64 t476, .string t477] 34 (0, 0)) (by (with_reducible repeat (first | refine blk_drewN ?_ _ | refine blk_drew ?_ | refine blk_alloc ?_ _)); exact BK480.out)) : gb484 ≠ gb480)); clear BK466; clear BK471; clear BK480; clear HB; have BK466 := n0_; have BK471 := n1_; have BK480 := n2_; have HB := n3_; have BK484 := n4_; have GW484 := n5_; have GE484 := n6_; have NB466_484 := n7_; have NB484_466 := n8_; have NB471_484 := n9_; have NB484_471 := n10_; have NB480_484 := n11_; have NB484_480 := n12_; clear n0_ n1_ n2_ n3_ n4_ n5_ n6_ n7_ n8_ n9_ n10_ n11_ n12_; clear hb hbox hg; have hnb52 := NB484_466.out; have hnc52 := NB466_484.out; have hnb53 := NB484_471.out; have hnc53 := NB471_484.out; have hnb54 := NB484_480.out; have hnc54 := NB480_484.out; have hcz55_0 : w51.cell? ⟨gb484, 0, none⟩ = some (.int .i64 0) := (blk_cell BK484.out 0).trans rfl; have hcz55_1 : w51.cell? ⟨gb484, 1, none⟩ = some (.int .i64 0) := (blk_cell BK484.out 1).trans rfl; have hfz55_0 := blk_frozen BK484.out 0; have hfz55_1 := blk_frozen BK484.out 1))
                            have n0_ : Aside0 (((w51.setCell ⟨gb484, 0, none⟩ (.int .i64 t481)).setCell ⟨gb484, 1, none⟩ (.int .i64 t482)).heap[gb466]? = some (.cells #[.int .i64 t463, .string t464] 34 (0, 0))) := ⟨by (with_reducible repeat (first | refine blk_drewN ?_ _ | refine blk_drew ?_ | refine blk_alloc ?_ _)); refine blk_far ?_ NB466_484.out _; (with_reducible repeat (first | refine blk_drewN ?_ _ | refine blk_drew ?_ | refine blk_alloc ?_ _)); refine blk_far ?_ NB466_484.out _; (with_reducible repeat (first | refine blk_drewN ?_ _ | refine blk_drew ?_ | refine blk_alloc ?_ _)); exact BK466.out⟩
                            have n1_ : Aside0 (((w51.setCell ⟨gb484, 0, none⟩ (.int .i64 t481)).setCell ⟨gb484, 1, none⟩ (.int .i64 t482)).heap[gb471]? = some (.cells #[.int .i64 t468, .string t469] 34 (0, 0))) := ⟨by (with_reducible repeat (first | refine blk_drewN ?_ _ | refine blk_drew ?_ | refine blk_alloc ?_ _)); refine blk_far ?_ NB471_484.out _; (with_reducible repeat (first | refine blk_drewN ?_ _ | refine blk_drew ?_ | refine blk_alloc ?_ _)); refine blk_far ?_ NB471_484.out _; (with_reducible repeat (first | refine blk_drewN ?_ _ | refine blk_drew ?_ | refine blk_alloc ?_ _)); exact BK471.out⟩
                            have n2_ : Aside0 (((w51.setCell ⟨gb484, 0, none⟩ (.int .i64 t481)).setCell ⟨gb484, 1, none⟩ (.int .i64 t482)).heap[gb480]? = some (.cells #[.int .i64 t476, .string t477] 34 (0, 0))) := ⟨by (with_reducible repeat (first | refine blk_drewN ?_ _ | refine blk_drew ?_ | refine blk_alloc ?_ _)); refine blk_far ?_ NB480_484.out _; (with_reducible repeat (first | refine blk_drewN ?_ _ | refine blk_drew ?_ | refine blk_alloc ?_ _)); refine blk_far ?_ NB480_484.out _; (with_reducible repeat (first | refine blk_drewN ?_ _ | refine blk_drew ?_ | refine blk_alloc ?_ _)); exact BK480.out⟩
                            have n3_ : Aside0 (((w51.setCell ⟨gb484, 0, none⟩ (.int .i64 t481)).setCell ⟨gb484, 1, none⟩ (.int .i64 t482)).heap[gb484]? = some (.cells #[.int .i64 t481, .int .i64 t482] 62 (0, 0))) := ⟨by (with_reducible repeat (first | refine blk_drewN ?_ _ | refine blk_drew ?_ | refine blk_alloc ?_ _)); refine blk_put (cs := #[.int .i64 t481, .int .i64 0]) ?_ 1 _ rfl; (with_reducible repeat (first | refine blk_drewN ?_ _ | refine blk_drew ?_ | refine blk_alloc ?_ _)); refine blk_put (cs := #[.int .i64 0, .int .i64 0]) ?_ 0 _ rfl; (with_reducible repeat (first | refine blk_drewN ?_ _ | refine blk_drew ?_ | refine blk_alloc ?_ _)); exact BK484.out⟩
                            have n4_ : Aside0 (Below w.heap.size w ((w51.setCell ⟨gb484, 0, none⟩ (.int .i64 t481)).setCell ⟨gb484, 1, none⟩ (.int .i64 t482))) := ⟨by repeat (first | (with_reducible first | exact HB.out | apply below_alloc | apply pw_below_drewN | apply below_drew1 | refine below_set ?_ GE466.out | refine below_set ?_ GE471.out | refine below_set ?_ GE480.out | refine below_set ?_ GE484.out) | exact HB.out)⟩
                            (try clear BK466)
                            (try clear BK471)
                            (try clear BK480)
                            (try clear BK484)
                            (try clear HB)
                            generalize ((w51.setCell ⟨gb484, 0, none⟩ (.int .i64 t481)).setCell ⟨gb484, 1, none⟩ (.int .i64 t482)) = w56 at n0_ n1_ n2_ n3_ n4_ ⊢
                            have BK466 := n0_
                            have BK471 := n1_
                            have BK480 := n2_
                            have BK484 := n3_
                            have HB := n4_
                            clear n0_ n1_ n2_ n3_ n4_
                            have n0_ := Aside0.mk (blk_drew BK466.out)
                            have n1_ := Aside0.mk (blk_drew BK471.out)
                            have n2_ := Aside0.mk (blk_drew BK480.out)
                            have n3_ := Aside0.mk (blk_drew BK484.out)
                            have n4_ := Aside0.mk (below_drew1 HB.out)
                            clear BK466
                            clear BK471
                            clear BK480
                            clear BK484
                            clear HB
                            have BK466 := n0_
                            have BK471 := n1_
                            have BK480 := n2_
                            have BK484 := n3_
                            have HB := n4_
                            clear n0_ n1_ n2_ n3_ n4_
                            refine start_ (n := 55) (S := fun w' => w'.cell? ⟨gb480, 0, none⟩ = some (.int .i64 t476) ∧ w'.cell? ⟨gb480, 1, none⟩ = some (.string t477) ∧ w'.cell? ⟨gb466, 0, none⟩ = some (.int .i64 t463) ∧ w'.cell? ⟨gb466, 1, none⟩ = some (.string t464) ∧ w'.cell? ⟨gb471, 0, none⟩ = some (.int .i64 t468) ∧ w'.cell? ⟨gb471, 1, none⟩ = some (.string t469) ∧ w'.cell? ⟨gb484, 0, none⟩ = some (.int .i64 t481) ∧ w'.cell? ⟨gb484, 1, none⟩ = some (.int .i64 t482)) (ds := []) #[false, false, false, false, false, false, false, false, false, false, false, false, false, false, false, false, false, false, false, false, false, false, false, false, false, false, false, false, false, false, false, false, false, false, false, false, false, false, false, false, false, false, false, false, false, false, false, false, false, false, false, false, false, false, false] (by kernel_rfl) rfl rfl ⟨(blk_cell BK480.out 0).trans rfl, (blk_cell BK480.out 1).trans rfl, (blk_cell BK466.out 0).trans rfl, (blk_cell BK466.out 1).trans rfl, (blk_cell BK471.out 0).trans rfl, (blk_cell BK471.out 1).trans rfl, (blk_cell BK484.out 0).trans rfl, (blk_cell BK484.out 1).trans rfl⟩ (fun hHeld => ?_); refine with_tabW storagebarterlaw03_SealBack.tab11 storagebarterlaw03_SealBack.bits11 (fun HT_ HW_ => ?_)
                            generalize w56.drew = w57 at BK466 BK471 BK480 BK484 HB hHeld ⊢
                            refine pure_ (i := 0) (N := some 75) (v := ?_) (a' := ?_) #[true, false, false, false, false, false, false, false, false, false, false, false, false, false, false, false, false, false, false, false, false, false, false, false, false, false, false, false, false, false, false, false, false, false, false, false, false, false, false, false, false, false, false, false, false, false, false, false, false, false, false, false, false, false, false] rfl rfl (any_of HT_.out (by kernel_rfl)) (fun _ _ _ h => h) (Or.inl ⟨by rfl, ?_⟩) ?_ ?_
                            rotate_left
                            · intro w'
                              go_simp
                              with_reducible rfl
                            rotate_left
                            · simp only [Act.put, List.setIfInBounds_toArray, List.set_cons_zero, List.set_cons_succ, i64_w, i32_w]
                              rfl
                            refine pure_ (i := 1) (N := some 76) (v := ?_) (a' := ?_) #[true, true, false, false, false, false, false, false, false, false, false, false, false, false, false, false, false, false, false, false, false, false, false, false, false, false, false, false, false, false, false, false, false, false, false, false, false, false, false, false, false, false, false, false, false, false, false, false, false, false, false, false, false, false, false] rfl rfl (any_of HT_.out (by kernel_rfl)) (fun _ _ _ h => h) (Or.inl ⟨by rfl, ?_⟩) ?_ ?_
                            rotate_left
                            · intro w'
                              go_simp
                              with_reducible rfl
                            rotate_left
                            · simp only [Act.put, List.setIfInBounds_toArray, List.set_cons_zero, List.set_cons_succ, i64_w, i32_w]
                              rfl
                            refine pure_ (i := 2) (N := some 77) (v := ?_) (a' := ?_) #[true, true, true, false, false, false, false, false, false, false, false, false, false, false, false, false, false, false, false, false, false, false, false, false, false, false, false, false, false, false, false, false, false, false, false, false, false, false, false, false, false, false, false, false, false, false, false, false, false, false, false, false, false, false, false] rfl rfl (any_of HT_.out (by kernel_rfl)) (fun _ _ _ h => h) (Or.inl ⟨by rfl, ?_⟩) ?_ ?_
                            rotate_left
                            · intro w'
                              go_simp
                              with_reducible rfl
                            rotate_left
                            · simp only [Act.put, List.setIfInBounds_toArray, List.set_cons_zero, List.set_cons_succ, i64_w, i32_w]
                              rfl
                            refine pure_ (i := 3) (N := some 78) (v := ?_) (a' := ?_) #[true, true, true, true, false, false, false, false, false, false, false, false, false, false, false, false, false, false, false, false, false, false, false, false, false, false, false, false, false, false, false, false, false, false, false, false, false, false, false, false, false, false, false, false, false, false, false, false, false, false, false, false, false, false, false] rfl rfl (any_of HT_.out (by kernel_rfl)) (fun _ _ _ h => h) (Or.inl ⟨by rfl, ?_⟩) ?_ ?_
                            rotate_left
                            · intro w'
                              go_simp
                              with_reducible rfl
                            rotate_left
                            · simp only [Act.put, List.setIfInBounds_toArray, List.set_cons_zero, List.set_cons_succ, i64_w, i32_w]
                              rfl
                            refine pure_ (i := 4) (N := some 79) (v := ?_) (a' := ?_) #[true, true, true, true, true, false, false, false, false, false, false, false, false, false, false, false, false, false, false, false, false, false, false, false, false, false, false, false, false, false, false, false, false, false, false, false, false, false, false, false, false, false, false, false, false, false, false, false, false, false, false, false, false, false, false] rfl rfl (any_of HT_.out (by kernel_rfl)) (fun _ _ _ h => h) (Or.inl ⟨by rfl, ?_⟩) ?_ ?_
                            rotate_left
                            · intro w'
                              go_simp
                              with_reducible rfl
                            rotate_left
                            · simp only [Act.put, List.setIfInBounds_toArray, List.set_cons_zero, List.set_cons_succ, i64_w, i32_w]
                              rfl
                            refine pure_ (i := 5) (N := some 80) (v := ?_) (a' := ?_) #[true, true, true, true, true, true, false, false, false, false, false, false, false, false, false, false, false, false, false, false, false, false, false, false, false, false, false, false, false, false, false, false, false, false, false, false, false, false, false, false, false, false, false, false, false, false, false, false, false, false, false, false, false, false, false] rfl rfl (any_of HT_.out (by kernel_rfl)) (fun _ _ _ h => h) (Or.inl ⟨by rfl, ?_⟩) ?_ ?_
                            rotate_left
                            · intro w'
                              go_simp
                              with_reducible rfl
                            rotate_left
                            · simp only [Act.put, List.setIfInBounds_toArray, List.set_cons_zero, List.set_cons_succ, i64_w, i32_w]
                              rfl
                            refine pure_ (i := 6) (N := some 81) (v := ?_) (a' := ?_) #[true, true, true, true, true, true, true, false, false, false, false, false, false, false, false, false, false, false, false, false, false, false, false, false, false, false, false, false, false, false, false, false, false, false, false, false, false, false, false, false, false, false, false, false, false, false, false, false, false, false, false, false, false, false, false] rfl rfl (any_of HT_.out (by kernel_rfl)) (fun _ _ _ h => h) (Or.inl ⟨by rfl, ?_⟩) ?_ ?_
                            rotate_left
                            · intro w'
                              go_simp
                              with_reducible rfl
                            rotate_left
                            · simp only [Act.put, List.setIfInBounds_toArray, List.set_cons_zero, List.set_cons_succ, i64_w, i32_w]
                              rfl
                            refine pure_ (i := 7) (N := some 82) (v := ?_) (a' := ?_) #[true, true, true, true, true, true, true, true, false, false, false, false, false, false, false, false, false, false, false, false, false, false, false, false, false, false, false, false, false, false, false, false, false, false, false, false, false, false, false, false, false, false, false, false, false, false, false, false, false, false, false, false, false, false, false] rfl rfl (any_of HT_.out (by kernel_rfl)) (fun _ _ _ h => h) (Or.inl ⟨by rfl, ?_⟩) ?_ ?_
                            rotate_left
                            · intro w'
                              go_simp
                              with_reducible rfl
                            rotate_left
                            · simp only [Act.put, List.setIfInBounds_toArray, List.set_cons_zero, List.set_cons_succ, i64_w, i32_w]
                              rfl
                            refine pure_ (i := 8) (N := some 83) (v := ?_) (a' := ?_) #[true, true, true, true, true, true, true, true, true, false, false, false, false, false, false, false, false, false, false, false, false, false, false, false, false, false, false, false, false, false, false, false, false, false, false, false, false, false, false, false, false, false, false, false, false, false, false, false, false, false, false, false, false, false, false] rfl rfl (any_of HT_.out (by kernel_rfl)) (fun _ _ _ h => h) (Or.inl ⟨by rfl, ?_⟩) ?_ ?_
                            rotate_left
                            · intro w'
                              go_simp
                              with_reducible rfl
                            rotate_left
                            · simp only [Act.put, List.setIfInBounds_toArray, List.set_cons_zero, List.set_cons_succ, i64_w, i32_w]
                              rfl
                            refine pure_ (i := 9) (N := some 84) (v := ?_) (a' := ?_) #[true, true, true, true, true, true, true, true, true, true, false, false, false, false, false, false, false, false, false, false, false, false, false, false, false, false, false, false, false, false, false, false, false, false, false, false, false, false, false, false, false, false, false, false, false, false, false, false, false, false, false, false, false, false, false] rfl rfl (any_of HT_.out (by kernel_rfl)) (fun _ _ _ h => h) (Or.inl ⟨by rfl, ?_⟩) ?_ ?_
                            rotate_left
                            · intro w'
                              go_simp
                              with_reducible rfl
                            rotate_left
                            · simp only [Act.put, List.setIfInBounds_toArray, List.set_cons_zero, List.set_cons_succ, i64_w, i32_w]
                              rfl
                            refine pure_ (i := 10) (N := some 85) (v := ?_) (a' := ?_) #[true, true, true, true, true, true, true, true, true, true, true, false, false, false, false, false, false, false, false, false, false, false, false, false, false, false, false, false, false, false, false, false, false, false, false, false, false, false, false, false, false, false, false, false, false, false, false, false, false, false, false, false, false, false, false] rfl rfl (any_of HT_.out (by kernel_rfl)) (fun _ _ _ h => h) (Or.inl ⟨by rfl, ?_⟩) ?_ ?_
                            rotate_left
                            · intro w'
                              go_simp
                              with_reducible rfl
                            rotate_left
                            · simp only [Act.put, List.setIfInBounds_toArray, List.set_cons_zero, List.set_cons_succ, i64_w, i32_w]
                              rfl
                            refine pure_ (i := 11) (N := some 86) (v := ?_) (a' := ?_) #[true, true, true, true, true, true, true, true, true, true, true, true, false, false, false, false, false, false, false, false, false, false, false, false, false, false, false, false, false, false, false, false, false, false, false, false, false, false, false, false, false, false, false, false, false, false, false, false, false, false, false, false, false, false, false] rfl rfl (any_of HT_.out (by kernel_rfl)) (fun _ _ _ h => h) (Or.inl ⟨by rfl, ?_⟩) ?_ ?_
                            rotate_left
                            · intro w'
                              go_simp
                              with_reducible rfl
                            rotate_left
                            · simp only [Act.put, List.setIfInBounds_toArray, List.set_cons_zero, List.set_cons_succ, i64_w, i32_w]
                              rfl
                            refine pure_ (i := 12) (N := some 87) (v := ?_) (a' := ?_) #[true, true, true, true, true, true, true, true, true, true, true, true, true, false, false, false, false, false, false, false, false, false, false, false, false, false, false, false, false, false, false, false, false, false, false, false, false, false, false, false, false, false, false, false, false, false, false, false, false, false, false, false, false, false, false] rfl rfl (any_of HT_.out (by kernel_rfl)) (fun _ _ _ h => h) (Or.inl ⟨by rfl, ?_⟩) ?_ ?_
                            rotate_left
                            · intro w'
                              go_simp
                              with_reducible rfl
                            rotate_left
                            · simp only [Act.put, List.setIfInBounds_toArray, List.set_cons_zero, List.set_cons_succ, i64_w, i32_w]
                              rfl
                            refine pure_ (i := 13) (N := some 88) (v := ?_) (a' := ?_) #[true, true, true, true, true, true, true, true, true, true, true, true, true, true, false, false, false, false, false, false, false, false, false, false, false, false, false, false, false, false, false, false, false, false, false, false, false, false, false, false, false, false, false, false, false, false, false, false, false, false, false, false, false, false, false] rfl rfl (any_of HT_.out (by kernel_rfl)) (fun _ _ _ h => h) (Or.inl ⟨by rfl, ?_⟩) ?_ ?_
                            rotate_left
                            · intro w'
                              go_simp
                              with_reducible rfl
                            rotate_left
                            · simp only [Act.put, List.setIfInBounds_toArray, List.set_cons_zero, List.set_cons_succ, i64_w, i32_w]
                              rfl
                            refine pure_ (i := 14) (N := some 89) (v := ?_) (a' := ?_) #[true, true, true, true, true, true, true, true, true, true, true, true, true, true, true, false, false, false, false, false, false, false, false, false, false, false, false, false, false, false, false, false, false, false, false, false, false, false, false, false, false, false, false, false, false, false, false, false, false, false, false, false, false, false, false] rfl rfl (any_of HT_.out (by kernel_rfl)) (fun _ _ _ h => h) (Or.inl ⟨by rfl, ?_⟩) ?_ ?_
                            rotate_left
                            · intro w'
                              go_simp
                              with_reducible rfl
                            rotate_left
                            · simp only [Act.put, List.setIfInBounds_toArray, List.set_cons_zero, List.set_cons_succ, i64_w, i32_w]
                              rfl
                            refine pure_ (i := 15) (N := some 90) (v := ?_) (a' := ?_) #[true, true, true, true, true, true, true, true, true, true, true, true, true, true, true, true, false, false, false, false, false, false, false, false, false, false, false, false, false, false, false, false, false, false, false, false, false, false, false, false, false, false, false, false, false, false, false, false, false, false, false, false, false, false, false] rfl rfl (any_of HT_.out (by kernel_rfl)) (fun _ _ _ h => h) (Or.inl ⟨by rfl, ?_⟩) ?_ ?_
                            rotate_left
                            · intro w'
                              go_simp
                              with_reducible rfl
                            rotate_left
                            · simp only [Act.put, List.setIfInBounds_toArray, List.set_cons_zero, List.set_cons_succ, i64_w, i32_w]
                              rfl
                            refine pure_ (i := 16) (N := some 91) (v := ?_) (a' := ?_) #[true, true, true, true, true, true, true, true, true, true, true, true, true, true, true, true, true, false, false, false, false, false, false, false, false, false, false, false, false, false, false, false, false, false, false, false, false, false, false, false, false, false, false, false, false, false, false, false, false, false, false, false, false, false, false] rfl rfl (any_of HT_.out (by kernel_rfl)) (fun _ _ _ h => h) (Or.inl ⟨by rfl, ?_⟩) ?_ ?_
                            rotate_left
                            · intro w'
                              go_simp
                              with_reducible rfl
                            rotate_left
                            · simp only [Act.put, List.setIfInBounds_toArray, List.set_cons_zero, List.set_cons_succ, i64_w, i32_w]
                              rfl
                            refine pure_ (i := 17) (N := some 92) (v := ?_) (a' := ?_) #[true, true, true, true, true, true, true, true, true, true, true, true, true, true, true, true, true, true, false, false, false, false, false, false, false, false, false, false, false, false, false, false, false, false, false, false, false, false, false, false, false, false, false, false, false, false, false, false, false, false, false, false, false, false, false] rfl rfl (any_of HT_.out (by kernel_rfl)) (fun _ _ _ h => h) (Or.inl ⟨by rfl, ?_⟩) ?_ ?_
                            rotate_left
                            · intro w'
                              go_simp
                              with_reducible rfl
                            rotate_left
                            · simp only [Act.put, List.setIfInBounds_toArray, List.set_cons_zero, List.set_cons_succ, i64_w, i32_w]
                              rfl
                            refine pure_ (i := 18) (N := some 93) (v := ?_) (a' := ?_) #[true, true, true, true, true, true, true, true, true, true, true, true, true, true, true, true, true, true, true, false, false, false, false, false, false, false, false, false, false, false, false, false, false, false, false, false, false, false, false, false, false, false, false, false, false, false, false, false, false, false, false, false, false, false, false] rfl rfl (any_of HT_.out (by kernel_rfl)) (fun _ _ _ h => h) (Or.inl ⟨by rfl, ?_⟩) ?_ ?_
                            rotate_left
                            · intro w'
                              go_simp
                              with_reducible rfl
                            rotate_left
                            · simp only [Act.put, List.setIfInBounds_toArray, List.set_cons_zero, List.set_cons_succ, i64_w, i32_w]
                              rfl
                            refine pure_ (i := 19) (N := some 94) (v := ?_) (a' := ?_) #[true, true, true, true, true, true, true, true, true, true, true, true, true, true, true, true, true, true, true, true, false, false, false, false, false, false, false, false, false, false, false, false, false, false, false, false, false, false, false, false, false, false, false, false, false, false, false, false, false, false, false, false, false, false, false] rfl rfl (any_of HT_.out (by kernel_rfl)) (fun _ _ _ h => h) (Or.inl ⟨by rfl, ?_⟩) ?_ ?_
                            rotate_left
                            · intro w'
                              go_simp
                              with_reducible rfl
                            rotate_left
                            · simp only [Act.put, List.setIfInBounds_toArray, List.set_cons_zero, List.set_cons_succ, i64_w, i32_w]
                              rfl
                            refine pure_ (i := 20) (N := some 95) (v := ?_) (a' := ?_) #[true, true, true, true, true, true, true, true, true, true, true, true, true, true, true, true, true, true, true, true, true, false, false, false, false, false, false, false, false, false, false, false, false, false, false, false, false, false, false, false, false, false, false, false, false, false, false, false, false, false, false, false, false, false, false] rfl rfl (any_of HT_.out (by kernel_rfl)) (fun _ _ _ h => h) (Or.inl ⟨by rfl, ?_⟩) ?_ ?_
                            rotate_left
                            · intro w'
                              go_simp
                              with_reducible rfl
                            rotate_left
                            · simp only [Act.put, List.setIfInBounds_toArray, List.set_cons_zero, List.set_cons_succ, i64_w, i32_w]
                              rfl
                            refine pure_ (i := 21) (N := some 96) (v := ?_) (a' := ?_) #[true, true, true, true, true, true, true, true, true, true, true, true, true, true, true, true, true, true, true, true, true, true, false, false, false, false, false, false, false, false, false, false, false, false, false, false, false, false, false, false, false, false, false, false, false, false, false, false, false, false, false, false, false, false, false] rfl rfl (any_of HT_.out (by kernel_rfl)) (fun _ _ _ h => h) (Or.inl ⟨by rfl, ?_⟩) ?_ ?_
                            rotate_left
                            · intro w'
                              go_simp
                              with_reducible rfl
                            rotate_left
                            · simp only [Act.put, List.setIfInBounds_toArray, List.set_cons_zero, List.set_cons_succ, i64_w, i32_w]
                              rfl
                            refine pure_ (i := 22) (N := some 97) (v := ?_) (a' := ?_) #[true, true, true, true, true, true, true, true, true, true, true, true, true, true, true, true, true, true, true, true, true, true, true, false, false, false, false, false, false, false, false, false, false, false, false, false, false, false, false, false, false, false, false, false, false, false, false, false, false, false, false, false, false, false, false] rfl rfl (any_of HT_.out (by kernel_rfl)) (fun _ _ _ h => h) (Or.inl ⟨by rfl, ?_⟩) ?_ ?_
                            rotate_left
                            · intro w'
                              go_simp
                              with_reducible rfl
                            rotate_left
                            · simp only [Act.put, List.setIfInBounds_toArray, List.set_cons_zero, List.set_cons_succ, i64_w, i32_w]
                              rfl
                            refine take_ (i := 23) (N := some 98) (v := ?_) (a' := ?_) #[true, true, true, true, true, true, true, true, true, true, true, true, true, true, true, true, true, true, true, true, true, true, true, true, false, false, false, false, false, false, false, false, false, false, false, false, false, false, false, false, false, false, false, false, false, false, false, false, false, false, false, false, false, false, false] rfl rfl (take_ofW HT_.out HW_.out (by kernel_rfl)) (fun _ _ _ h => h) (Or.inl ⟨by rfl, ?_⟩) hHeld ?_ ?_
                            rotate_left
                            · rintro w' ⟨s0, s1, s2, s3, s4, s5, s6, s7⟩
                              go_simp
                              with_reducible rfl
                            rotate_left
                            · simp only [Act.put, List.setIfInBounds_toArray, List.set_cons_zero, List.set_cons_succ, i64_w, i32_w]
                              rfl
                            refine take_ (i := 24) (N := some 99) (v := ?_) (a' := ?_) #[true, true, true, true, true, true, true, true, true, true, true, true, true, true, true, true, true, true, true, true, true, true, true, true, true, false, false, false, false, false, false, false, false, false, false, false, false, false, false, false, false, false, false, false, false, false, false, false, false, false, false, false, false, false, false] rfl rfl (take_ofW HT_.out HW_.out (by kernel_rfl)) (fun _ _ _ h => h) (Or.inl ⟨by rfl, ?_⟩) hHeld ?_ ?_
                            rotate_left
                            · rintro w' ⟨s0, s1, s2, s3, s4, s5, s6, s7⟩
                              go_simp
                              with_reducible rfl
                            rotate_left
                            · simp only [Act.put, List.setIfInBounds_toArray, List.set_cons_zero, List.set_cons_succ, i64_w, i32_w]
                              rfl
                            refine pure_ (i := 25) (N := some 100) (v := ?_) (a' := ?_) #[true, true, true, true, true, true, true, true, true, true, true, true, true, true, true, true, true, true, true, true, true, true, true, true, true, true, false, false, false, false, false, false, false, false, false, false, false, false, false, false, false, false, false, false, false, false, false, false, false, false, false, false, false, false, false] rfl rfl (any_of HT_.out (by kernel_rfl)) (fun _ _ _ h => h) (Or.inl ⟨by rfl, ?_⟩) ?_ ?_
                            rotate_left
                            · intro w'
                              go_simp
                              with_reducible rfl
                            rotate_left
                            · simp only [Act.put, List.setIfInBounds_toArray, List.set_cons_zero, List.set_cons_succ, i64_w, i32_w]
                              rfl
                            refine pure_ (i := 26) (N := some 101) (v := ?_) (a' := ?_) #[true, true, true, true, true, true, true, true, true, true, true, true, true, true, true, true, true, true, true, true, true, true, true, true, true, true, true, false, false, false, false, false, false, false, false, false, false, false, false, false, false, false, false, false, false, false, false, false, false, false, false, false, false, false, false] rfl rfl (any_of HT_.out (by kernel_rfl)) (fun _ _ _ h => h) (Or.inl ⟨by rfl, ?_⟩) ?_ ?_
                            rotate_left
                            · intro w'
                              go_simp
                              with_reducible rfl
                            rotate_left
                            · simp only [Act.put, List.setIfInBounds_toArray, List.set_cons_zero, List.set_cons_succ, i64_w, i32_w]
                              rfl
                            refine pure_ (i := 27) (N := some 102) (v := ?_) (a' := ?_) #[true, true, true, true, true, true, true, true, true, true, true, true, true, true, true, true, true, true, true, true, true, true, true, true, true, true, true, true, false, false, false, false, false, false, false, false, false, false, false, false, false, false, false, false, false, false, false, false, false, false, false, false, false, false, false] rfl rfl (any_of HT_.out (by kernel_rfl)) (fun _ _ _ h => h) (Or.inl ⟨by rfl, ?_⟩) ?_ ?_
                            rotate_left
                            · intro w'
                              go_simp
                              with_reducible rfl
                            rotate_left
                            · simp only [Act.put, List.setIfInBounds_toArray, List.set_cons_zero, List.set_cons_succ, i64_w, i32_w]
                              rfl
                            refine pure_ (i := 28) (N := some 103) (v := ?_) (a' := ?_) #[true, true, true, true, true, true, true, true, true, true, true, true, true, true, true, true, true, true, true, true, true, true, true, true, true, true, true, true, true, false, false, false, false, false, false, false, false, false, false, false, false, false, false, false, false, false, false, false, false, false, false, false, false, false, false] rfl rfl (any_of HT_.out (by kernel_rfl)) (fun _ _ _ h => h) (Or.inl ⟨by rfl, ?_⟩) ?_ ?_
                            rotate_left
                            · intro w'
                              go_simp
                              with_reducible rfl
                            rotate_left
                            · simp only [Act.put, List.setIfInBounds_toArray, List.set_cons_zero, List.set_cons_succ, i64_w, i32_w]
                              rfl
                            refine pure_ (i := 29) (N := some 104) (v := ?_) (a' := ?_) #[true, true, true, true, true, true, true, true, true, true, true, true, true, true, true, true, true, true, true, true, true, true, true, true, true, true, true, true, true, true, false, false, false, false, false, false, false, false, false, false, false, false, false, false, false, false, false, false, false, false, false, false, false, false, false] rfl rfl (any_of HT_.out (by kernel_rfl)) (fun _ _ _ h => h) (Or.inl ⟨by rfl, ?_⟩) ?_ ?_
                            rotate_left
                            · intro w'
                              go_simp
                              with_reducible rfl
                            rotate_left
                            · simp only [Act.put, List.setIfInBounds_toArray, List.set_cons_zero, List.set_cons_succ, i64_w, i32_w]
                              rfl
                            refine pure_ (i := 30) (N := some 105) (v := ?_) (a' := ?_) #[true, true, true, true, true, true, true, true, true, true, true, true, true, true, true, true, true, true, true, true, true, true, true, true, true, true, true, true, true, true, true, false, false, false, false, false, false, false, false, false, false, false, false, false, false, false, false, false, false, false, false, false, false, false, false] rfl rfl (any_of HT_.out (by kernel_rfl)) (fun _ _ _ h => h) (Or.inl ⟨by rfl, ?_⟩) ?_ ?_
                            rotate_left
                            · intro w'
                              go_simp
                              with_reducible rfl
                            rotate_left
                            · simp only [Act.put, List.setIfInBounds_toArray, List.set_cons_zero, List.set_cons_succ, i64_w, i32_w]
                              rfl
                            refine pure_ (i := 31) (N := some 106) (v := ?_) (a' := ?_) #[true, true, true, true, true, true, true, true, true, true, true, true, true, true, true, true, true, true, true, true, true, true, true, true, true, true, true, true, true, true, true, true, false, false, false, false, false, false, false, false, false, false, false, false, false, false, false, false, false, false, false, false, false, false, false] rfl rfl (any_of HT_.out (by kernel_rfl)) (fun _ _ _ h => h) (Or.inl ⟨by rfl, ?_⟩) ?_ ?_
                            rotate_left
                            · intro w'
                              go_simp
                              with_reducible rfl
                            rotate_left
                            · simp only [Act.put, List.setIfInBounds_toArray, List.set_cons_zero, List.set_cons_succ, i64_w, i32_w]
                              rfl
                            refine pure_ (i := 32) (N := some 107) (v := ?_) (a' := ?_) #[true, true, true, true, true, true, true, true, true, true, true, true, true, true, true, true, true, true, true, true, true, true, true, true, true, true, true, true, true, true, true, true, true, false, false, false, false, false, false, false, false, false, false, false, false, false, false, false, false, false, false, false, false, false, false] rfl rfl (any_of HT_.out (by kernel_rfl)) (fun _ _ _ h => h) (Or.inl ⟨by rfl, ?_⟩) ?_ ?_
                            rotate_left
                            · intro w'
                              go_simp
                              with_reducible rfl
                            rotate_left
                            · simp only [Act.put, List.setIfInBounds_toArray, List.set_cons_zero, List.set_cons_succ, i64_w, i32_w]
                              rfl
                            refine pure_ (i := 33) (N := some 108) (v := ?_) (a' := ?_) #[true, true, true, true, true, true, true, true, true, true, true, true, true, true, true, true, true, true, true, true, true, true, true, true, true, true, true, true, true, true, true, true, true, true, false, false, false, false, false, false, false, false, false, false, false, false, false, false, false, false, false, false, false, false, false] rfl rfl (any_of HT_.out (by kernel_rfl)) (fun _ _ _ h => h) (Or.inl ⟨by rfl, ?_⟩) ?_ ?_
                            rotate_left
                            · intro w'
                              go_simp
                              with_reducible rfl
                            rotate_left
                            · simp only [Act.put, List.setIfInBounds_toArray, List.set_cons_zero, List.set_cons_succ, i64_w, i32_w]
                              rfl
                            refine pure_ (i := 34) (N := some 109) (v := ?_) (a' := ?_) #[true, true, true, true, true, true, true, true, true, true, true, true, true, true, true, true, true, true, true, true, true, true, true, true, true, true, true, true, true, true, true, true, true, true, true, false, false, false, false, false, false, false, false, false, false, false, false, false, false, false, false, false, false, false, false] rfl rfl (any_of HT_.out (by kernel_rfl)) (fun _ _ _ h => h) (Or.inl ⟨by rfl, ?_⟩) ?_ ?_
                            rotate_left
                            · intro w'
                              go_simp
                              with_reducible rfl
                            rotate_left
                            · simp only [Act.put, List.setIfInBounds_toArray, List.set_cons_zero, List.set_cons_succ, i64_w, i32_w]
                              rfl
                            refine pure_ (i := 35) (N := some 110) (v := ?_) (a' := ?_) #[true, true, true, true, true, true, true, true, true, true, true, true, true, true, true, true, true, true, true, true, true, true, true, true, true, true, true, true, true, true, true, true, true, true, true, true, false, false, false, false, false, false, false, false, false, false, false, false, false, false, false, false, false, false, false] rfl rfl (any_of HT_.out (by kernel_rfl)) (fun _ _ _ h => h) (Or.inl ⟨by rfl, ?_⟩) ?_ ?_
                            rotate_left
                            · intro w'
                              go_simp
                              with_reducible rfl
                            rotate_left
                            · simp only [Act.put, List.setIfInBounds_toArray, List.set_cons_zero, List.set_cons_succ, i64_w, i32_w]
                              rfl
                            refine pure_ (i := 36) (N := some 111) (v := ?_) (a' := ?_) #[true, true, true, true, true, true, true, true, true, true, true, true, true, true, true, true, true, true, true, true, true, true, true, true, true, true, true, true, true, true, true, true, true, true, true, true, true, false, false, false, false, false, false, false, false, false, false, false, false, false, false, false, false, false, false] rfl rfl (any_of HT_.out (by kernel_rfl)) (fun _ _ _ h => h) (Or.inl ⟨by rfl, ?_⟩) ?_ ?_
                            rotate_left
                            · intro w'
                              go_simp
                              with_reducible rfl
                            rotate_left
                            · simp only [Act.put, List.setIfInBounds_toArray, List.set_cons_zero, List.set_cons_succ, i64_w, i32_w]
                              rfl
                            refine pure_ (i := 37) (N := some 112) (v := ?_) (a' := ?_) #[true, true, true, true, true, true, true, true, true, true, true, true, true, true, true, true, true, true, true, true, true, true, true, true, true, true, true, true, true, true, true, true, true, true, true, true, true, true, false, false, false, false, false, false, false, false, false, false, false, false, false, false, false, false, false] rfl rfl (any_of HT_.out (by kernel_rfl)) (fun _ _ _ h => h) (Or.inl ⟨by rfl, ?_⟩) ?_ ?_
                            rotate_left
                            · intro w'
                              go_simp
                              with_reducible rfl
                            rotate_left
                            · simp only [Act.put, List.setIfInBounds_toArray, List.set_cons_zero, List.set_cons_succ, i64_w, i32_w]
                              rfl
                            refine pure_ (i := 38) (N := some 113) (v := ?_) (a' := ?_) #[true, true, true, true, true, true, true, true, true, true, true, true, true, true, true, true, true, true, true, true, true, true, true, true, true, true, true, true, true, true, true, true, true, true, true, true, true, true, true, false, false, false, false, false, false, false, false, false, false, false, false, false, false, false, false] rfl rfl (any_of HT_.out (by kernel_rfl)) (fun _ _ _ h => h) (Or.inl ⟨by rfl, ?_⟩) ?_ ?_
                            rotate_left
                            · intro w'
                              go_simp
                              with_reducible rfl
                            rotate_left
                            · simp only [Act.put, List.setIfInBounds_toArray, List.set_cons_zero, List.set_cons_succ, i64_w, i32_w]
                              rfl
                            refine pure_ (i := 39) (N := some 114) (v := ?_) (a' := ?_) #[true, true, true, true, true, true, true, true, true, true, true, true, true, true, true, true, true, true, true, true, true, true, true, true, true, true, true, true, true, true, true, true, true, true, true, true, true, true, true, true, false, false, false, false, false, false, false, false, false, false, false, false, false, false, false] rfl rfl (any_of HT_.out (by kernel_rfl)) (fun _ _ _ h => h) (Or.inl ⟨by rfl, ?_⟩) ?_ ?_
                            rotate_left
                            · intro w'
                              go_simp
                              with_reducible rfl
                            rotate_left
                            · simp only [Act.put, List.setIfInBounds_toArray, List.set_cons_zero, List.set_cons_succ, i64_w, i32_w]
                              rfl
                            refine take_ (i := 40) (N := some 115) (v := ?_) (a' := ?_) #[true, true, true, true, true, true, true, true, true, true, true, true, true, true, true, true, true, true, true, true, true, true, true, true, true, true, true, true, true, true, true, true, true, true, true, true, true, true, true, true, true, false, false, false, false, false, false, false, false, false, false, false, false, false, false] rfl rfl (take_ofW HT_.out HW_.out (by kernel_rfl)) (fun _ _ _ h => h) (Or.inl ⟨by rfl, ?_⟩) hHeld ?_ ?_
                            rotate_left
                            · rintro w' ⟨s0, s1, s2, s3, s4, s5, s6, s7⟩
                              go_simp
                              with_reducible rfl
                            rotate_left
                            · simp only [Act.put, List.setIfInBounds_toArray, List.set_cons_zero, List.set_cons_succ, i64_w, i32_w]
                              rfl
                            refine take_ (i := 41) (N := some 116) (v := ?_) (a' := ?_) #[true, true, true, true, true, true, true, true, true, true, true, true, true, true, true, true, true, true, true, true, true, true, true, true, true, true, true, true, true, true, true, true, true, true, true, true, true, true, true, true, true, true, false, false, false, false, false, false, false, false, false, false, false, false, false] rfl rfl (take_ofW HT_.out HW_.out (by kernel_rfl)) (fun _ _ _ h => h) (Or.inl ⟨by rfl, ?_⟩) hHeld ?_ ?_
                            rotate_left
                            · rintro w' ⟨s0, s1, s2, s3, s4, s5, s6, s7⟩
                              go_simp
                              with_reducible rfl
                            rotate_left
                            · simp only [Act.put, List.setIfInBounds_toArray, List.set_cons_zero, List.set_cons_succ, i64_w, i32_w]
                              rfl
                            refine pure_ (i := 42) (N := some 117) (v := ?_) (a' := ?_) #[true, true, true, true, true, true, true, true, true, true, true, true, true, true, true, true, true, true, true, true, true, true, true, true, true, true, true, true, true, true, true, true, true, true, true, true, true, true, true, true, true, true, true, false, false, false, false, false, false, false, false, false, false, false, false] rfl rfl (any_of HT_.out (by kernel_rfl)) (fun _ _ _ h => h) (Or.inl ⟨by rfl, ?_⟩) ?_ ?_
                            rotate_left
                            · intro w'
                              go_simp
                              with_reducible rfl
                            rotate_left
                            · simp only [Act.put, List.setIfInBounds_toArray, List.set_cons_zero, List.set_cons_succ, i64_w, i32_w]
                              rfl
                            refine pure_ (i := 43) (N := some 118) (v := ?_) (a' := ?_) #[true, true, true, true, true, true, true, true, true, true, true, true, true, true, true, true, true, true, true, true, true, true, true, true, true, true, true, true, true, true, true, true, true, true, true, true, true, true, true, true, true, true, true, true, false, false, false, false, false, false, false, false, false, false, false] rfl rfl (any_of HT_.out (by kernel_rfl)) (fun _ _ _ h => h) (Or.inl ⟨by rfl, ?_⟩) ?_ ?_
                            rotate_left
                            · intro w'
                              go_simp
                              with_reducible rfl
                            rotate_left
                            · simp only [Act.put, List.setIfInBounds_toArray, List.set_cons_zero, List.set_cons_succ, i64_w, i32_w]
                              rfl
                            refine pure_ (i := 44) (N := some 119) (v := ?_) (a' := ?_) #[true, true, true, true, true, true, true, true, true, true, true, true, true, true, true, true, true, true, true, true, true, true, true, true, true, true, true, true, true, true, true, true, true, true, true, true, true, true, true, true, true, true, true, true, true, false, false, false, false, false, false, false, false, false, false] rfl rfl (any_of HT_.out (by kernel_rfl)) (fun _ _ _ h => h) (Or.inl ⟨by rfl, ?_⟩) ?_ ?_
                            rotate_left
                            · intro w'
                              go_simp
                              with_reducible rfl
                            rotate_left
                            · simp only [Act.put, List.setIfInBounds_toArray, List.set_cons_zero, List.set_cons_succ, i64_w, i32_w]
                              rfl
                            refine pure_ (i := 45) (N := some 120) (v := ?_) (a' := ?_) #[true, true, true, true, true, true, true, true, true, true, true, true, true, true, true, true, true, true, true, true, true, true, true, true, true, true, true, true, true, true, true, true, true, true, true, true, true, true, true, true, true, true, true, true, true, true, false, false, false, false, false, false, false, false, false] rfl rfl (any_of HT_.out (by kernel_rfl)) (fun _ _ _ h => h) (Or.inl ⟨by rfl, ?_⟩) ?_ ?_
                            rotate_left
                            · intro w'
                              go_simp
                              with_reducible rfl
                            rotate_left
                            · simp only [Act.put, List.setIfInBounds_toArray, List.set_cons_zero, List.set_cons_succ, i64_w, i32_w]
                              rfl
                            refine pure_ (i := 47) (N := some 122) (v := ?_) (a' := ?_) #[true, true, true, true, true, true, true, true, true, true, true, true, true, true, true, true, true, true, true, true, true, true, true, true, true, true, true, true, true, true, true, true, true, true, true, true, true, true, true, true, true, true, true, true, true, true, false, true, false, false, false, false, false, false, false] rfl rfl (any_of HT_.out (by kernel_rfl)) (fun _ _ _ h => h) (Or.inl ⟨by rfl, ?_⟩) ?_ ?_
                            rotate_left
                            · intro w'
                              go_simp
                              with_reducible rfl
                            rotate_left
                            · simp only [Act.put, List.setIfInBounds_toArray, List.set_cons_zero, List.set_cons_succ, i64_w, i32_w]
                              rfl
                            refine pure_ (i := 49) (N := some 124) (v := ?_) (a' := ?_) #[true, true, true, true, true, true, true, true, true, true, true, true, true, true, true, true, true, true, true, true, true, true, true, true, true, true, true, true, true, true, true, true, true, true, true, true, true, true, true, true, true, true, true, true, true, true, false, true, false, true, false, false, false, false, false] rfl rfl (any_of HT_.out (by kernel_rfl)) (fun _ _ _ h => h) (Or.inl ⟨by rfl, ?_⟩) ?_ ?_
                            rotate_left
                            · intro w'
                              go_simp
                              with_reducible rfl
                            rotate_left
                            · simp only [Act.put, List.setIfInBounds_toArray, List.set_cons_zero, List.set_cons_succ, i64_w, i32_w]
                              rfl
                            refine pure_ (i := 50) (N := some 125) (v := ?_) (a' := ?_) #[true, true, true, true, true, true, true, true, true, true, true, true, true, true, true, true, true, true, true, true, true, true, true, true, true, true, true, true, true, true, true, true, true, true, true, true, true, true, true, true, true, true, true, true, true, true, false, true, false, true, true, false, false, false, false] rfl rfl (any_of HT_.out (by kernel_rfl)) (fun _ _ _ h => h) (Or.inl ⟨by rfl, ?_⟩) ?_ ?_
                            rotate_left
                            · intro w'
                              go_simp
                              with_reducible rfl
                            rotate_left
                            · simp only [Act.put, List.setIfInBounds_toArray, List.set_cons_zero, List.set_cons_succ, i64_w, i32_w]
                              rfl
                            refine take_ (i := 46) (N := some 121) (v := ?_) (a' := ?_) #[true, true, true, true, true, true, true, true, true, true, true, true, true, true, true, true, true, true, true, true, true, true, true, true, true, true, true, true, true, true, true, true, true, true, true, true, true, true, true, true, true, true, true, true, true, true, true, true, false, true, true, false, false, false, false] rfl rfl (take_ofW HT_.out HW_.out (by kernel_rfl)) (fun _ _ _ h => h) (Or.inl ⟨by rfl, ?_⟩) hHeld ?_ ?_
                            rotate_left
                            · rintro w' ⟨s0, s1, s2, s3, s4, s5, s6, s7⟩
                              go_simp
                              with_reducible rfl
                            rotate_left
                            · simp only [Act.put, List.setIfInBounds_toArray, List.set_cons_zero, List.set_cons_succ, i64_w, i32_w]
                              rfl
                            refine one_ (i := 48) (N := some 123) #[true, true, true, true, true, true, true, true, true, true, true, true, true, true, true, true, true, true, true, true, true, true, true, true, true, true, true, true, true, true, true, true, true, true, true, true, true, true, true, true, true, true, true, true, true, true, true, true, true, true, true, false, false, false, false] rfl rfl (one_of HT_.out (by kernel_rfl)) (by decide) (fun K hK => ?_)
                            refine goes_ Try.func30 (by kernel_rfl) rfl #[.string t472] (by rfl) rfl rfl (by (try simp only [List.map_toArray, List.map_cons, List.map_nil]); first | done | rfl | (simp only [List.length_drop, List.length_take]; rfl)) ?_
                            with_reducible refine (digest_Sum.calls k t472 t485 _ A31.out).mono ?_
                            rintro e w' ⟨rfl, ⟨nd, rfl⟩⟩
                            refine ⟨_, rfl, ?_⟩
                            refine hK.out _ _ ⟨(blk_cell BK480.out 0).trans rfl, (blk_cell BK480.out 1).trans rfl, (blk_cell BK466.out 0).trans rfl, (blk_cell BK466.out 1).trans rfl, (blk_cell BK471.out 0).trans rfl, (blk_cell BK471.out 1).trans rfl, (blk_cell BK484.out 0).trans rfl, (blk_cell BK484.out 1).trans rfl⟩ (fun hHeld => ?_)
                            clear hK K
                            refine norm_ (a' := ?_) ?_ ?_
                            rotate_left
                            · show Act.put _ (some 123) _ = _
                              simp only [Act.put, List.setIfInBounds_toArray, List.set_cons_zero, List.set_cons_succ, i64_w, i32_w]
                              rfl
                            refine pure_ (i := 51) (N := some 126) (v := ?_) (a' := ?_) #[true, true, true, true, true, true, true, true, true, true, true, true, true, true, true, true, true, true, true, true, true, true, true, true, true, true, true, true, true, true, true, true, true, true, true, true, true, true, true, true, true, true, true, true, true, true, true, true, true, true, true, true, false, false, false] rfl rfl (any_of HT_.out (by kernel_rfl)) (fun _ _ _ h => h) (Or.inl ⟨by rfl, ?_⟩) ?_ ?_
                            rotate_left
                            · intro w'
                              go_simp
                              with_reducible rfl
                            rotate_left
                            · simp only [Act.put, List.setIfInBounds_toArray, List.set_cons_zero, List.set_cons_succ, i64_w, i32_w]
                              rfl
                            refine pure_ (i := 52) (N := some 127) (v := ?_) (a' := ?_) #[true, true, true, true, true, true, true, true, true, true, true, true, true, true, true, true, true, true, true, true, true, true, true, true, true, true, true, true, true, true, true, true, true, true, true, true, true, true, true, true, true, true, true, true, true, true, true, true, true, true, true, true, true, false, false] rfl rfl (any_of HT_.out (by kernel_rfl)) (fun _ _ _ h => h) (Or.inl ⟨by rfl, ?_⟩) ?_ ?_
                            rotate_left
                            · intro w'
                              go_simp
                              with_reducible rfl
                            rotate_left
                            · simp only [Act.put, List.setIfInBounds_toArray, List.set_cons_zero, List.set_cons_succ, i64_w, i32_w]
                              rfl
                            refine pure_ (i := 53) (N := some 128) (v := ?_) (a' := ?_) #[true, true, true, true, true, true, true, true, true, true, true, true, true, true, true, true, true, true, true, true, true, true, true, true, true, true, true, true, true, true, true, true, true, true, true, true, true, true, true, true, true, true, true, true, true, true, true, true, true, true, true, true, true, true, false] rfl rfl (any_of HT_.out (by kernel_rfl)) (fun _ _ _ h => h) (Or.inl ⟨by rfl, ?_⟩) ?_ ?_
                            rotate_left
                            · intro w'
                              go_simp
                              with_reducible rfl
                            rotate_left
                            · simp only [Act.put, List.setIfInBounds_toArray, List.set_cons_zero, List.set_cons_succ, i64_w, i32_w]
                              rfl
                            refine pure_ (i := 54) (N := some 12) (v := ?_) (a' := ?_) #[true, true, true, true, true, true, true, true, true, true, true, true, true, true, true, true, true, true, true, true, true, true, true, true, true, true, true, true, true, true, true, true, true, true, true, true, true, true, true, true, true, true, true, true, true, true, true, true, true, true, true, true, true, true, true] rfl rfl (any_of HT_.out (by kernel_rfl)) (fun _ _ _ h => h) (Or.inl ⟨by rfl, ?_⟩) ?_ ?_
                            rotate_left
                            · intro w'
                              go_simp
                              with_reducible rfl
                            rotate_left
                            · simp only [Act.put, List.setIfInBounds_toArray, List.set_cons_zero, List.set_cons_succ, i64_w, i32_w]
                              rfl
                            refine done_ (done_of HT_.out (by kernel_rfl)) ?_
                            try go_wp2
                            go_ret
                            exact ⟨by first | rfl | (simp [errW_none, errW_some] <;> rfl) | (simp [*, errW_none, errW_some] <;> rfl), by repeat (first | (with_reducible first | exact HB.out | apply below_alloc | apply pw_below_drewN | apply below_drew1 | refine below_set ?_ GE466.out | refine below_set ?_ GE471.out | refine below_set ?_ GE480.out | refine below_set ?_ GE484.out) | exact HB.out)⟩
                          · rw [if_neg c30] at H
                            have c30b0 : ((t472.toList == t474.toList) == (t463 == t468 && (t464.toList == t469.toList))) = false := by simpa using c30
                            (try (have c30b1 : decide ((t472.toList == t474.toList) = (t463 == t468 && (t464.toList == t469.toList))) = false := by simpa using c30))
                            (try (have c30b2 : ((t472.toList == t474.toList) == (t463 == t468 && (t464.toList == t469.toList))) = false := by simpa using c30))
                            (try (have c30b3 : ¬ ((t472.toList == t474.toList) = (t463 == t468 && (t464.toList == t469.toList))) := by simpa using c30))
                            clear c30
                            exact absurd (H.trans (congrArg some RT_.out)) (by simp)
                        · rw [if_neg c29] at H
                          have c29b0 : (t478 == (wrap64 ((a2.size : Int) + (t472.size : Int)))) = false := beq_eq_false_iff_ne.mpr c29
                          have c29b1 : (t478 != (wrap64 ((a2.size : Int) + (t472.size : Int)))) = true := bne_iff_ne.mpr c29
                          exact absurd (H.trans (congrArg some RT_.out)) (by simp)
                      · rw [if_neg c28] at H
                        have c28b0 : (t476 == t463 && (t477.toList == t464.toList)) = false := by simpa using c28
                        (try (have c28b1 : decide (t476 = t463 && (t477.toList == t464.toList)) = false := by simpa using c28))
                        (try (have c28b2 : (t476 == t463 && (t477.toList == t464.toList)) = false := by simpa using c28))
                        (try (have c28b3 : ¬ (t476 = t463 && (t477.toList == t464.toList)) := by simpa using c28))
                        clear c28
                        exact absurd (H.trans (congrArg some RT_.out)) (by simp)
                    · rw [if_neg c27] at H
                      have c27b0 : (t483 == 0) = false := beq_eq_false_iff_ne.mpr c27
                      have c27b1 : (t483 != 0) = true := bne_iff_ne.mpr c27
                      exact absurd (H.trans (congrArg some RT_.out)) (by simp)
                  · rw [if_neg c26] at H
                    have c26b0 : (t479 == 0) = false := beq_eq_false_iff_ne.mpr c26
                    have c26b1 : (t479 != 0) = true := bne_iff_ne.mpr c26
                    exact absurd (H.trans (congrArg some RT_.out)) (by simp)
                · rw [if_neg c25] at H
                  have c25b0 : (t475 == 0) = false := beq_eq_false_iff_ne.mpr c25
                  have c25b1 : (t475 != 0) = true := bne_iff_ne.mpr c25
                  exact absurd (H.trans (congrArg some RT_.out)) (by simp)
              · rw [if_neg c24] at H
                have c24b0 : (t473 == 0) = false := beq_eq_false_iff_ne.mpr c24
                have c24b1 : (t473 != 0) = true := bne_iff_ne.mpr c24
                exact absurd (H.trans (congrArg some RT_.out)) (by simp)
            · rw [if_neg c23] at H
              have c23b0 : (t470 == 0) = false := beq_eq_false_iff_ne.mpr c23
              have c23b1 : (t470 != 0) = true := bne_iff_ne.mpr c23
              exact absurd (H.trans (congrArg some RT_.out)) (by simp)
          · rw [if_neg c22] at H
            have c22b0 : (t465 == 0) = false := beq_eq_false_iff_ne.mpr c22
            have c22b1 : (t465 != 0) = true := bne_iff_ne.mpr c22
            exact absurd (H.trans (congrArg some RT_.out)) (by simp)
        · rw [if_neg c19] at H
          exact absurd H (by simp)
      · rw [if_neg c17] at H
        exact absurd H (by simp)
  · replace c8 := Bool.eq_false_iff.mpr c8
    subst c8
    have H1 : (some false) = some r := by rw [if_neg (show ¬ (false = true) by decide)] at H; exact H
    clear H
    have H := H1
    clear H1
    exact absurd (H.trans (congrArg some RT_.out)) (by simp)

/-- THE ONE PURE STATEMENT of storagebarterlaw03_SealBack: yours. -/
def storagebarterlaw03_SealBack.Pure : Prop := ∀ (a0 : ByteArray) (a1 : ByteArray) (a2 : ByteArray) (a3 : ByteArray) (a4 : Int) (a5 : Int), a0.size ≤ 140737488351232 → a1.size ≤ 140737488351232 → a2.size ≤ 140737488351232 → a3.size ≤ 140737488351232 → (Lit.int .i64 a4).wf = true → (Lit.int .i64 a5).wf = true → ∃ k, storagebarterlaw03_SealBack.f k a0 a1 a2 a3 a4 a5 = some true
theorem storagebarterlaw03_SealBack.walk (P : storagebarterlaw03_SealBack.Pure) (a0 : ByteArray) (a1 : ByteArray) (a2 : ByteArray) (a3 : ByteArray) (a4 : Int) (a5 : Int) (w : World) (w0 : a0.size ≤ 140737488351232) (w1 : a1.size ≤ 140737488351232) (w2 : a2.size ≤ 140737488351232) (w3 : a3.size ≤ 140737488351232) (w4 : (Lit.int .i64 a4).wf = true) (w5 : (Lit.int .i64 a5).wf = true) :
    Calls Try.prog 12 #[.string a0, .string a1, .string a2, .string a3, .int .i64 a4, .int .i64 a5] w fun e w' => e = .returned (.bool true) ∧ Below w.heap.size w w' := by
  obtain ⟨k, h⟩ := P a0 a1 a2 a3 a4 a5 w0 w1 w2 w3 w4 w5
  refine (storagebarterlaw03_SealBack.calls k a0 a1 a2 a3 a4 a5 true w h rfl).mono ?_
  rintro e w' ⟨rfl, hd⟩
  exact ⟨rfl, hd⟩

end Go.Proofs.Ytpebhbhdkmpjeaa.Q

namespace Go.Proofs.Ytpebhbhdkmpjeaa.Q
open Go.RowKit Go.Proofs.YtpebhbhdkmpjeaaW.PrintWords Go.Proofs.YtpebhbhdkmpjeaaW.PrintLast Go.Proofs.YtpebhbhdkmpjeaaW.PrintMore Go.Proofs.Ytpebhbhdkmpjeaa.Gput Go.Proofs.Ytpebhbhdkmpjeaa.Gputl
attribute [local go_sem] max2_int min2_int max_two min_two max_three min_three max_four min_four   -- for this text's walks alone
set_option linter.unusedVariables false
set_option linter.unusedSimpArgs false

/-! ### storagebarterref01_Int: function 17 -/
mutual
def storagebarterref01_Int.j0 : Nat → ByteArray → Int → Bool → Option (Int × Int × Int)
  | 0, _, _, _ => none
  | k + 1, x0, x1, x18 => if x18 = true then (some (0, 0, 1)) else (storagebarterref01_Int.l0 k x0 x1 0 0)
def storagebarterref01_Int.l0 : Nat → ByteArray → Int → Int → Int → Option (Int × Int × Int)
  | 0, _, _, _, _ => none
  | k + 1, x0, x1, x7, x8 => if (wrap64 (x1 + x8)) ≥ (x0.size : Int) then (some (0, 0, 3)) else (if 0 ≤ (wrap64 (x1 + x8)) then (if (wrap64 (x1 + x8)) < (x0.size : Int) then (if x8 = 9 then (storagebarterref01_Int.j2 k x0 x1 x7 x8 (bt x0 (wrap64 (x1 + x8))) (decide ((bt x0 (wrap64 (x1 + x8))) > 1))) else (storagebarterref01_Int.j2 k x0 x1 x7 x8 (bt x0 (wrap64 (x1 + x8))) false)) else (none)) else (none))
def storagebarterref01_Int.j2 : Nat → ByteArray → Int → Int → Int → Int → Bool → Option (Int × Int × Int)
  | 0, _, _, _, _, _, _ => none
  | k + 1, x0, x1, x7, x8, x9, x37 => if x37 = true then (some (0, 0, 2)) else (if 0 ≤ (IntKind.u64.wrap (wrap64 (7 * x8))) then (if x9 > 127 then (storagebarterref01_Int.l0 k x0 x1 (Go.bits .or .u64 x7 (shl .u64 (IntKind.u64.wrap (Go.bits .and .u8 x9 127)) (IntKind.u64.wrap (wrap64 (7 * x8))))) (wrap64 (x8 + 1))) else (if x9 = 0 then (storagebarterref01_Int.j3 k x1 (Go.bits .or .u64 x7 (shl .u64 (IntKind.u64.wrap (Go.bits .and .u8 x9 127)) (IntKind.u64.wrap (wrap64 (7 * x8))))) x8 (decide (x8 > 0))) else (storagebarterref01_Int.j3 k x1 (Go.bits .or .u64 x7 (shl .u64 (IntKind.u64.wrap (Go.bits .and .u8 x9 127)) (IntKind.u64.wrap (wrap64 (7 * x8))))) x8 false))) else (none))
def storagebarterref01_Int.j3 : Nat → Int → Int → Int → Bool → Option (Int × Int × Int)
  | 0, _, _, _, _ => none
  | k + 1, x1, x7, x8, x54 => if x54 = true then (some (0, 0, 2)) else (if (Go.bits .and .u64 x7 1) = 1 then (some (wrap64 ((wrap64 (-(wrap64 (x7 / 2)))) - 1), wrap64 ((wrap64 (x1 + x8)) + 1), 0)) else (some (wrap64 (x7 / 2), wrap64 ((wrap64 (x1 + x8)) + 1), 0)))
end
def storagebarterref01_Int.f (k : Nat) (a0 : ByteArray) (a1 : Int) : Option (Int × Int × Int) := if a1 < 0 then (storagebarterref01_Int.j0 k a0 a1 true) else (storagebarterref01_Int.j0 k a0 a1 (decide (a1 > (a0.size : Int))))
theorem storagebarterref01_Int.mono_l : ∀ k, (∀ y0 y1 y2, LeO (storagebarterref01_Int.j0 k y0 y1 y2) (storagebarterref01_Int.j0 (k + 1) y0 y1 y2)) ∧ (∀ y0 y1 y2 y3, LeO (storagebarterref01_Int.l0 k y0 y1 y2 y3) (storagebarterref01_Int.l0 (k + 1) y0 y1 y2 y3)) ∧ (∀ y0 y1 y2 y3 y4 y5, LeO (storagebarterref01_Int.j2 k y0 y1 y2 y3 y4 y5) (storagebarterref01_Int.j2 (k + 1) y0 y1 y2 y3 y4 y5)) ∧ (∀ y0 y1 y2 y3, LeO (storagebarterref01_Int.j3 k y0 y1 y2 y3) (storagebarterref01_Int.j3 (k + 1) y0 y1 y2 y3))
  | 0 => ⟨fun _ _ _ r h => by simp [storagebarterref01_Int.j0] at h, fun _ _ _ _ r h => by simp [storagebarterref01_Int.l0] at h, fun _ _ _ _ _ _ r h => by simp [storagebarterref01_Int.j2] at h, fun _ _ _ _ r h => by simp [storagebarterref01_Int.j3] at h⟩
  | k + 1 => by
    obtain ⟨ih0, ih1, ih2, ih3⟩ := storagebarterref01_Int.mono_l k
    refine ⟨?_, ?_, ?_, ?_⟩
    · intro y0 y1 y2
      unfold storagebarterref01_Int.j0
      repeat' first
      | (with_reducible exact ih0 _ _ _)
      | (with_reducible exact ih1 _ _ _ _)
      | (with_reducible exact ih2 _ _ _ _ _ _)
      | (with_reducible exact ih3 _ _ _ _)
      | (with_reducible exact LeO.refl _)
      | (with_reducible exact LeO.none _)
      | (with_reducible refine LeO.ite ?_ ?_)
      | (with_reducible refine LeO.bind ?_ (fun _ => ?_))
      | exact ih0 _ _ _
      | exact ih1 _ _ _ _
      | exact ih2 _ _ _ _ _ _
      | exact ih3 _ _ _ _
      | exact LeO.none _
      | refine LeO.ite ?_ ?_
      | refine LeO.bind ?_ (fun _ => ?_)
    · intro y0 y1 y2 y3
      unfold storagebarterref01_Int.l0
      repeat' first
      | (with_reducible exact ih0 _ _ _)
      | (with_reducible exact ih1 _ _ _ _)
      | (with_reducible exact ih2 _ _ _ _ _ _)
      | (with_reducible exact ih3 _ _ _ _)
      | (with_reducible exact LeO.refl _)
      | (with_reducible exact LeO.none _)
      | (with_reducible refine LeO.ite ?_ ?_)
      | (with_reducible refine LeO.bind ?_ (fun _ => ?_))
      | exact ih0 _ _ _
      | exact ih1 _ _ _ _
      | exact ih2 _ _ _ _ _ _
      | exact ih3 _ _ _ _
      | exact LeO.none _
      | refine LeO.ite ?_ ?_
      | refine LeO.bind ?_ (fun _ => ?_)
    · intro y0 y1 y2 y3 y4 y5
      unfold storagebarterref01_Int.j2
      repeat' first
      | (with_reducible exact ih0 _ _ _)
      | (with_reducible exact ih1 _ _ _ _)
      | (with_reducible exact ih2 _ _ _ _ _ _)
      | (with_reducible exact ih3 _ _ _ _)
      | (with_reducible exact LeO.refl _)
      | (with_reducible exact LeO.none _)
      | (with_reducible refine LeO.ite ?_ ?_)
      | (with_reducible refine LeO.bind ?_ (fun _ => ?_))
      | exact ih0 _ _ _
      | exact ih1 _ _ _ _
      | exact ih2 _ _ _ _ _ _
      | exact ih3 _ _ _ _
      | exact LeO.none _
      | refine LeO.ite ?_ ?_
      | refine LeO.bind ?_ (fun _ => ?_)
    · intro y0 y1 y2 y3
      unfold storagebarterref01_Int.j3
      repeat' first
      | (with_reducible exact ih0 _ _ _)
      | (with_reducible exact ih1 _ _ _ _)
      | (with_reducible exact ih2 _ _ _ _ _ _)
      | (with_reducible exact ih3 _ _ _ _)
      | (with_reducible exact LeO.refl _)
      | (with_reducible exact LeO.none _)
      | (with_reducible refine LeO.ite ?_ ?_)
      | (with_reducible refine LeO.bind ?_ (fun _ => ?_))
      | exact ih0 _ _ _
      | exact ih1 _ _ _ _
      | exact ih2 _ _ _ _ _ _
      | exact ih3 _ _ _ _
      | exact LeO.none _
      | refine LeO.ite ?_ ?_
      | refine LeO.bind ?_ (fun _ => ?_)
theorem storagebarterref01_Int.mono : ∀ a0 a1 k, LeO (storagebarterref01_Int.f k a0 a1) (storagebarterref01_Int.f (k + 1) a0 a1) := by
  intro a0 a1 k
  obtain ⟨ih0, ih1, ih2, ih3⟩ := storagebarterref01_Int.mono_l k
  unfold storagebarterref01_Int.f
  repeat' first
      | (with_reducible exact ih0 _ _ _)
      | (with_reducible exact ih1 _ _ _ _)
      | (with_reducible exact ih2 _ _ _ _ _ _)
      | (with_reducible exact ih3 _ _ _ _)
      | (with_reducible exact LeO.refl _)
      | (with_reducible exact LeO.none _)
      | (with_reducible refine LeO.ite ?_ ?_)
      | (with_reducible refine LeO.bind ?_ (fun _ => ?_))
      | exact ih0 _ _ _
      | exact ih1 _ _ _ _
      | exact ih2 _ _ _ _ _ _
      | exact ih3 _ _ _ _
      | exact LeO.none _
      | refine LeO.ite ?_ ?_
      | refine LeO.bind ?_ (fun _ => ?_)
set_option maxHeartbeats 8000000 in
set_option maxRecDepth 100000 in
theorem storagebarterref01_Int.calls (k : Nat) (a0 : ByteArray) (a1 : Int) (r1 : Int) (r2 : Int) (r3 : Int) (w : World) (h : storagebarterref01_Int.f k a0 a1 = some (r1, r2, r3)) :
    Calls Try.prog 17 #[.string a0, .int .i64 a1] w fun e w' => e = .returned (.tuple #[.int .i64 r1, .int .i64 r2, .int .i64 r3]) ∧ Drawn0 w w' := by
  have H : (if a1 < 0 then (storagebarterref01_Int.j0 k a0 a1 true) else (storagebarterref01_Int.j0 k a0 a1 (decide (a1 > (a0.size : Int))))) = some (r1, r2, r3) := h
  clear h
  have HC3 := Aside0.mk H
  clear H
  go_enter Try.func17, Try.ntmps17
  go_upto_region 1 with (fail)
  go_cut [18] (fun v18 wc => ∃ (kq : Nat) (x18_2 : Bool), v18 = .bool x18_2 ∧ Aside0 (storagebarterref01_Int.j0 kq a0 a1 x18_2 = some (r1, r2, r3)) ∧ Aside0 (kq ≤ k) ∧ Drawn0 w wc)
  case first =>
    have H := HC3.out
    clear HC3
    by_cases c4 : a1 < 0
    · rw [if_pos c4] at H
      have c4b0 : decide (a1 < 0) = true := decide_eq_true c4
      clear c4
      (first | rw [c4b0] | (simp only [i64_w, i32_w]; rw [c4b0]) | skip)
      have H' := Aside0.mk H
      clear H
      go_wp2
      go_meet
      case rel => exact ⟨_, (true), (by first | rfl | (simp; done) | (simp [*]; done)), H', ⟨by first | omega | exact Nat.le_refl _⟩, by repeat (first | exact Drawn0.refl _ | apply Drawn0.step)⟩
    · rw [if_neg c4] at H
      have c4b0 : decide (a1 < 0) = false := decide_eq_false c4
      clear c4
      (first | rw [c4b0] | (simp only [i64_w, i32_w]; rw [c4b0]) | skip)
      have H' := Aside0.mk H
      clear H
      go_wp2
      go_meet
      case rel => exact ⟨_, (decide (a1 > (a0.size : Int))), (by first | rfl | (simp; done) | (simp [*]; done)), H', ⟨by first | omega | exact Nat.le_refl _⟩, by repeat (first | exact Drawn0.refl _ | apply Drawn0.step)⟩
  case rest =>
    clear HC3
    try clear c1
    try clear p2
    try clear c4
    try clear c4b0
    obtain ⟨kq, x18_2, rfl, HA, HJ2, ⟨mc2, rfl⟩⟩ := hcut
    cases kq with
    | zero => exact absurd HA.out (by simp [storagebarterref01_Int.j0])
    | succ kj2 =>
      have H := HA.out
      clear HA
      simp only [storagebarterref01_Int.j0] at H
      by_cases c5 : x18_2 = true
      · subst c5
        have H1 : (some (0, 0, 1)) = some (r1, r2, r3) := by rw [if_pos rfl] at H; exact H
        clear H
        have H := H1
        clear H1
        simp only [Option.some.injEq, Prod.mk.injEq] at H
        obtain ⟨rfl, rfl, rfl⟩ := H
        go_wp2
        go_ret3
        exact ⟨by first | rfl | (simp; done) | (simp [*]; done), by repeat (first | exact Drawn0.refl _ | apply Drawn0.step)⟩
      · replace c5 := Bool.eq_false_iff.mpr c5
        subst c5
        have H1 : (storagebarterref01_Int.l0 kj2 a0 a1 0 0) = some (r1, r2, r3) := by rw [if_neg (show ¬ (false = true) by decide)] at H; exact H
        clear H
        have H := H1
        clear H1
        have H' := Aside0.mk H
        clear H
        go_wp2
        go_loopg [7, 8] kj2 (fun kq v7 v8 w' => ∃ (x7_2 : Int) (x8_2 : Int), v7 = .int .u64 x7_2 ∧ v8 = .int .i64 x8_2 ∧ Aside0 (storagebarterref01_Int.l0 kq a0 a1 x7_2 x8_2 = some (r1, r2, r3)) ∧ Aside0 (kq ≤ kj2) ∧ Drawn0 w w')
        case atStart => exact ⟨(0), (0), (by first | rfl | (simp; done) | (simp [*]; done)), (by first | rfl | (simp; done) | (simp [*]; done)), H', ⟨Nat.le_refl _⟩, by repeat (first | exact Drawn0.refl _ | apply Drawn0.step)⟩
        case round =>
          clear H'
          try clear c1
          try clear c2
          try clear p2
          try clear c4
          try clear c4b0
          try clear c5
          try clear p2
          obtain ⟨x7_2, x8_2, rfl, rfl, HA, HK2, ⟨m2, rfl⟩⟩ := hrel
          cases gk with
          | zero => exact absurd HA.out (by simp [storagebarterref01_Int.l0])
          | succ k2 =>
            have H := HA.out
            clear HA
            simp only [storagebarterref01_Int.l0] at H
            by_cases c6 : (wrap64 (a1 + x8_2)) ≥ (a0.size : Int)
            · rw [if_pos c6] at H
              have c6b0 : decide ((a0.size : Int) ≤ (wrap64 (a1 + x8_2))) = true := decide_eq_true c6
              clear c6
              simp only [Option.some.injEq, Prod.mk.injEq] at H
              obtain ⟨rfl, rfl, rfl⟩ := H
              go_wp2
              go_ret3
              exact ⟨by first | rfl | (simp; done) | (simp [*]; done), by repeat (first | exact Drawn0.refl _ | apply Drawn0.step)⟩
            · rw [if_neg c6] at H
              have c6b0 : decide ((a0.size : Int) ≤ (wrap64 (a1 + x8_2))) = false := decide_eq_false c6
              clear c6
              obtain ⟨ji7, hji7⟩ : ∃ j_ : Int, (wrap64 (a1 + x8_2)) = j_ := ⟨_, rfl⟩
              replace H : (if 0 ≤ (ji7) then (if (ji7) < (a0.size : Int) then (if x8_2 = 9 then (storagebarterref01_Int.j2 k2 a0 a1 x7_2 x8_2 (bt a0 (ji7)) (decide ((bt a0 (ji7)) > 1))) else (storagebarterref01_Int.j2 k2 a0 a1 x7_2 x8_2 (bt a0 (ji7)) false)) else (none)) else (none)) = some (r1, r2, r3) := by first | (rw [hji7] at H; exact H) | (simp only [hji7] at H ⊢; exact H)
              (try rw [hji7] at c6b0)
              have hji7w : (IntKind.i64.wrap (a1 + x8_2)) = ji7 := (i64_w _).trans hji7
              by_cases c8 : 0 ≤ (ji7)
              · rw [if_pos c8] at H
                have c8b0 : decide (0 ≤ (ji7)) = true := decide_eq_true c8
                clear c8
                by_cases c9 : (ji7) < (a0.size : Int)
                · rw [if_pos c9] at H
                  have c9b0 : decide ((ji7) < (a0.size : Int)) = true := decide_eq_true c9
                  clear c9
                  have HC11 := Aside0.mk H
                  clear H
                  have p10 : 0 ≤ ((ji7) : Int) := of_decide_eq_true (by first | (with_reducible assumption) | assumption)
                  have q10 : (ji7) < (a0.size : Int) := of_decide_eq_true (by first | (with_reducible assumption) | assumption)
                  have hx10 := bt_at a0 (ji7)
                  replace p10 := eq_true p10
                  replace q10 := eq_true q10
                  go_upto_region 9 with (fail)
                  go_cut [37] (fun v37 wc => ∃ (kq : Nat) (x37_10 : Bool), v37 = .bool x37_10 ∧ Aside0 (storagebarterref01_Int.j2 kq a0 a1 x7_2 x8_2 (bt a0 (ji7)) x37_10 = some (r1, r2, r3)) ∧ Aside0 (kq ≤ k2) ∧ Drawn0 w wc)
                  case first =>
                    have H := HC11.out
                    clear HC11
                    by_cases c12 : x8_2 = 9
                    · rw [if_pos c12] at H
                      have c12b0 : (x8_2 == 9) = true := beq_iff_eq.mpr c12
                      have c12b1 : (x8_2 != 9) = false := bne_eq_false_iff_eq.mpr c12
                      clear c12
                      (first | rw [c12b0] | (simp only [i64_w, i32_w]; rw [c12b0]) | skip)
                      have H' := Aside0.mk H
                      clear H
                      go_wp2
                      go_meet
                      case rel => exact ⟨_, (decide ((bt a0 (ji7)) > 1)), (by first | rfl | (simp; done) | (simp only [← hji7] <;> (first | rfl | simp)) | (simp [*]; done)), H', ⟨by have := HJ2.out; have := HK2.out; first | omega | exact Nat.le_refl _⟩, by repeat (first | exact Drawn0.refl _ | apply Drawn0.step)⟩
                    · rw [if_neg c12] at H
                      have c12b0 : (x8_2 == 9) = false := beq_eq_false_iff_ne.mpr c12
                      have c12b1 : (x8_2 != 9) = true := bne_iff_ne.mpr c12
                      (first | rw [c12b0] | (simp only [i64_w, i32_w]; rw [c12b0]) | skip)
                      have H' := Aside0.mk H
                      clear H
                      go_wp2
                      go_meet
                      case rel => exact ⟨_, (false), (by first | rfl | (simp; done) | (simp [*]; done)), H', ⟨by have := HJ2.out; have := HK2.out; first | omega | exact Nat.le_refl _⟩, by repeat (first | exact Drawn0.refl _ | apply Drawn0.step)⟩
                  case rest =>
                    clear HC11
                    try clear c1
                    try clear p1
                    try clear q1
                    try clear hx1
                    try clear c2
                    try clear p2
                    try clear c4
                    try clear c4b0
                    try clear c5
                    try clear c6
                    try clear c6b0
                    try clear p6
                    try clear c8
                    try clear c8b0
                    try clear c9
                    try clear c9b0
                    try clear p10
                    try clear q10
                    try clear hx10
                    try clear c12
                    try clear c12b0
                    try clear c12b1
                    try clear p10
                    try clear p2
                    try clear q10
                    obtain ⟨kq, x37_10, rfl, HA, HJ10, ⟨mc10, rfl⟩⟩ := hcut
                    cases kq with
                    | zero => exact absurd HA.out (by simp [storagebarterref01_Int.j2])
                    | succ kj10 =>
                      have H := HA.out
                      clear HA
                      simp only [storagebarterref01_Int.j2] at H
                      by_cases c13 : x37_10 = true
                      · subst c13
                        have H1 : (some (0, 0, 2)) = some (r1, r2, r3) := by rw [if_pos rfl] at H; exact H
                        clear H
                        have H := H1
                        clear H1
                        simp only [Option.some.injEq, Prod.mk.injEq] at H
                        obtain ⟨rfl, rfl, rfl⟩ := H
                        go_wp2
                        go_ret3
                        exact ⟨by first | rfl | (simp; done) | (simp only [← hji7] <;> (first | rfl | simp)) | (simp [*]; done), by repeat (first | exact Drawn0.refl _ | apply Drawn0.step)⟩
                      · replace c13 := Bool.eq_false_iff.mpr c13
                        subst c13
                        have H1 : (if 0 ≤ (IntKind.u64.wrap (wrap64 (7 * x8_2))) then (if (bt a0 (ji7)) > 127 then (storagebarterref01_Int.l0 kj10 a0 a1 (Go.bits .or .u64 x7_2 (shl .u64 (IntKind.u64.wrap (Go.bits .and .u8 (bt a0 (ji7)) 127)) (IntKind.u64.wrap (wrap64 (7 * x8_2))))) (wrap64 (x8_2 + 1))) else (if (bt a0 (ji7)) = 0 then (storagebarterref01_Int.j3 kj10 a1 (Go.bits .or .u64 x7_2 (shl .u64 (IntKind.u64.wrap (Go.bits .and .u8 (bt a0 (ji7)) 127)) (IntKind.u64.wrap (wrap64 (7 * x8_2))))) x8_2 (decide (x8_2 > 0))) else (storagebarterref01_Int.j3 kj10 a1 (Go.bits .or .u64 x7_2 (shl .u64 (IntKind.u64.wrap (Go.bits .and .u8 (bt a0 (ji7)) 127)) (IntKind.u64.wrap (wrap64 (7 * x8_2))))) x8_2 false))) else (none)) = some (r1, r2, r3) := by rw [if_neg (show ¬ (false = true) by decide)] at H; exact H
                        clear H
                        have H := H1
                        clear H1
                        obtain ⟨ji14, hji14⟩ : ∃ j_ : Int, (IntKind.u64.wrap (wrap64 (7 * x8_2))) = j_ := ⟨_, rfl⟩
                        replace H : (if 0 ≤ (ji14) then (if (bt a0 (ji7)) > 127 then (storagebarterref01_Int.l0 kj10 a0 a1 (Go.bits .or .u64 x7_2 (shl .u64 (IntKind.u64.wrap (Go.bits .and .u8 (bt a0 (ji7)) 127)) (ji14))) (wrap64 (x8_2 + 1))) else (if (bt a0 (ji7)) = 0 then (storagebarterref01_Int.j3 kj10 a1 (Go.bits .or .u64 x7_2 (shl .u64 (IntKind.u64.wrap (Go.bits .and .u8 (bt a0 (ji7)) 127)) (ji14))) x8_2 (decide (x8_2 > 0))) else (storagebarterref01_Int.j3 kj10 a1 (Go.bits .or .u64 x7_2 (shl .u64 (IntKind.u64.wrap (Go.bits .and .u8 (bt a0 (ji7)) 127)) (ji14))) x8_2 false))) else (none)) = some (r1, r2, r3) := by first | (rw [hji14] at H; exact H) | (simp only [hji14] at H ⊢; exact H)
                        by_cases c15 : 0 ≤ (ji14)
                        · rw [if_pos c15] at H
                          have c15b0 := eq_true c15
                          have c15b1 : decide (0 ≤ (ji14)) = true := decide_eq_true c15
                          clear c15
                          obtain ⟨ji16, hji16⟩ : ∃ j_ : Int, (shl .u64 (IntKind.u64.wrap (Go.bits .and .u8 (bt a0 (ji7)) 127)) (ji14)) = j_ := ⟨_, rfl⟩
                          replace H : (if (bt a0 (ji7)) > 127 then (storagebarterref01_Int.l0 kj10 a0 a1 (Go.bits .or .u64 x7_2 (ji16)) (wrap64 (x8_2 + 1))) else (if (bt a0 (ji7)) = 0 then (storagebarterref01_Int.j3 kj10 a1 (Go.bits .or .u64 x7_2 (ji16)) x8_2 (decide (x8_2 > 0))) else (storagebarterref01_Int.j3 kj10 a1 (Go.bits .or .u64 x7_2 (ji16)) x8_2 false))) = some (r1, r2, r3) := by first | (rw [hji16] at H; exact H) | (simp only [hji16] at H ⊢; exact H)
                          have hji16_ : (IntKind.u64.wrap ((IntKind.u64.wrap (Go.bits .and .u8 (bt a0 (ji7)) 127)) * 2 ^ min (ji14).toNat 64)) = ji16 := hji16
                          have hji16z : (ji14) ≤ 64 → (IntKind.u64.wrap ((IntKind.u64.wrap (Go.bits .and .u8 (bt a0 (ji7)) 127)) * 2 ^ (ji14).toNat)) = ji16 := shl_small hji16
                          by_cases c17 : (bt a0 (ji7)) > 127
                          · rw [if_pos c17] at H
                            have c17b0 : decide (127 < (bt a0 (ji7))) = true := decide_eq_true c17
                            clear c17
                            have H' := Aside0.mk H
                            clear H
                            go_wp2
                            go_roundg kj10
                            case measure => have := HJ2.out; have := HK2.out; have := HJ10.out; omega
                            case rel => exact ⟨(Go.bits .or .u64 x7_2 (ji16)), (wrap64 (x8_2 + 1)), (by first | rfl | (simp; done) | (simp only [← hji16] <;> (first | rfl | simp)) | (simp [*]; done)), (by first | rfl | (simp; done) | (simp [*]; done)), H', ⟨by have := HJ2.out; have := HK2.out; have := HJ10.out; omega⟩, by repeat (first | exact Drawn0.refl _ | apply Drawn0.step)⟩
                          · rw [if_neg c17] at H
                            have c17b0 : decide (127 < (bt a0 (ji7))) = false := decide_eq_false c17
                            clear c17
                            have HC18 := Aside0.mk H
                            clear H
                            go_upto_region 13 with (fail)
                            go_cut [54] (fun v54 wc => ∃ (kq : Nat) (x54_17 : Bool), v54 = .bool x54_17 ∧ Aside0 (storagebarterref01_Int.j3 kq a1 (Go.bits .or .u64 x7_2 (ji16)) x8_2 x54_17 = some (r1, r2, r3)) ∧ Aside0 (kq ≤ kj10) ∧ Drawn0 w wc)
                            case first =>
                              have H := HC18.out
                              clear HC18
                              by_cases c19 : (bt a0 (ji7)) = 0
                              · rw [if_pos c19] at H
                                have c19b0 : ((bt a0 (ji7)) == 0) = true := beq_iff_eq.mpr c19
                                have c19b1 : ((bt a0 (ji7)) != 0) = false := bne_eq_false_iff_eq.mpr c19
                                clear c19
                                (first | rw [c19b0] | (simp only [i64_w, i32_w]; rw [c19b0]) | skip)
                                have H' := Aside0.mk H
                                clear H
                                go_wp2
                                go_meet
                                case rel => exact ⟨_, (decide (x8_2 > 0)), (by first | rfl | (simp; done) | (simp [*]; done)), H', ⟨by have := HJ2.out; have := HK2.out; have := HJ10.out; first | omega | exact Nat.le_refl _⟩, by repeat (first | exact Drawn0.refl _ | apply Drawn0.step)⟩
                              · rw [if_neg c19] at H
                                have c19b0 : ((bt a0 (ji7)) == 0) = false := beq_eq_false_iff_ne.mpr c19
                                have c19b1 : ((bt a0 (ji7)) != 0) = true := bne_iff_ne.mpr c19
                                (first | rw [c19b0] | (simp only [i64_w, i32_w]; rw [c19b0]) | skip)
                                have H' := Aside0.mk H
                                clear H
                                go_wp2
                                go_meet
                                case rel => exact ⟨_, (false), (by first | rfl | (simp; done) | (simp [*]; done)), H', ⟨by have := HJ2.out; have := HK2.out; have := HJ10.out; first | omega | exact Nat.le_refl _⟩, by repeat (first | exact Drawn0.refl _ | apply Drawn0.step)⟩
                            case rest =>
                              clear HC18
                              try clear c1
                              try clear p1
                              try clear q1
                              try clear hx1
                              try clear c2
                              try clear p2
                              try clear c4
                              try clear c4b0
                              try clear c5
                              try clear c6
                              try clear c6b0
                              try clear p6
                              try clear c8
                              try clear c8b0
                              try clear c9
                              try clear c9b0
                              try clear c10
                              try clear p10
                              try clear q10
                              try clear hx10
                              try clear c12
                              try clear c12b0
                              try clear c12b1
                              try clear c13
                              try clear c15
                              try clear c15b0
                              try clear c15b1
                              try clear c17
                              try clear c17b0
                              try clear c19
                              try clear c19b0
                              try clear c19b1
                              try clear p1
                              try clear p10
                              try clear p2
                              try clear p6
                              try clear q1
                              try clear q10
                              obtain ⟨kq, x54_17, rfl, HA, HJ17, ⟨mc17, rfl⟩⟩ := hcut
                              cases kq with
                              | zero => exact absurd HA.out (by simp [storagebarterref01_Int.j3])
                              | succ kj17 =>
                                have H := HA.out
                                clear HA
                                simp only [storagebarterref01_Int.j3] at H
                                by_cases c20 : x54_17 = true
                                · subst c20
                                  have H1 : (some (0, 0, 2)) = some (r1, r2, r3) := by rw [if_pos rfl] at H; exact H
                                  clear H
                                  have H := H1
                                  clear H1
                                  simp only [Option.some.injEq, Prod.mk.injEq] at H
                                  obtain ⟨rfl, rfl, rfl⟩ := H
                                  go_wp2
                                  go_ret3
                                  exact ⟨by first | rfl | (simp; done) | (simp only [← hji7, ← hji14, ← hji16] <;> (first | rfl | simp)) | (simp [*]; done), by repeat (first | exact Drawn0.refl _ | apply Drawn0.step)⟩
                                · replace c20 := Bool.eq_false_iff.mpr c20
                                  subst c20
                                  have H1 : (if (Go.bits .and .u64 (Go.bits .or .u64 x7_2 (ji16)) 1) = 1 then (some (wrap64 ((wrap64 (-(wrap64 ((Go.bits .or .u64 x7_2 (ji16)) / 2)))) - 1), wrap64 ((wrap64 (a1 + x8_2)) + 1), 0)) else (some (wrap64 ((Go.bits .or .u64 x7_2 (ji16)) / 2), wrap64 ((wrap64 (a1 + x8_2)) + 1), 0))) = some (r1, r2, r3) := by rw [if_neg (show ¬ (false = true) by decide)] at H; exact H
                                  clear H
                                  have H := H1
                                  clear H1
                                  by_cases c21 : (Go.bits .and .u64 (Go.bits .or .u64 x7_2 (ji16)) 1) = 1
                                  · rw [if_pos c21] at H
                                    have c21b0 : ((Go.bits .and .u64 (Go.bits .or .u64 x7_2 (ji16)) 1) == 1) = true := beq_iff_eq.mpr c21
                                    have c21b1 : ((Go.bits .and .u64 (Go.bits .or .u64 x7_2 (ji16)) 1) != 1) = false := bne_eq_false_iff_eq.mpr c21
                                    clear c21
                                    simp only [Option.some.injEq, Prod.mk.injEq] at H
                                    obtain ⟨rfl, rfl, rfl⟩ := H
                                    go_wp2
                                    go_ret3
                                    exact ⟨by first | rfl | (simp; done) | (simp only [← hji7, ← hji14, ← hji16] <;> (first | rfl | simp)) | (simp [*]; done), by repeat (first | exact Drawn0.refl _ | apply Drawn0.step)⟩
                                  · rw [if_neg c21] at H
                                    have c21b0 : ((Go.bits .and .u64 (Go.bits .or .u64 x7_2 (ji16)) 1) == 1) = false := beq_eq_false_iff_ne.mpr c21
                                    have c21b1 : ((Go.bits .and .u64 (Go.bits .or .u64 x7_2 (ji16)) 1) != 1) = true := bne_iff_ne.mpr c21
                                    simp only [Option.some.injEq, Prod.mk.injEq] at H
                                    obtain ⟨rfl, rfl, rfl⟩ := H
                                    go_wp2
                                    go_ret3
                                    exact ⟨by first | rfl | (simp; done) | (simp only [← hji7, ← hji14, ← hji16] <;> (first | rfl | simp)) | (simp [*]; done), by repeat (first | exact Drawn0.refl _ | apply Drawn0.step)⟩
                        · rw [if_neg c15] at H
                          exact absurd H (by simp)
                · rw [if_neg c9] at H
                  exact absurd H (by simp)
              · rw [if_neg c8] at H
                exact absurd H (by simp)

end Go.Proofs.Ytpebhbhdkmpjeaa.Q

namespace Go.Proofs.Ytpebhbhdkmpjeaa.Q
open Go.RowKit Go.Proofs.YtpebhbhdkmpjeaaW.PrintWords Go.Proofs.YtpebhbhdkmpjeaaW.PrintLast Go.Proofs.YtpebhbhdkmpjeaaW.PrintMore Go.Proofs.Ytpebhbhdkmpjeaa.Gput Go.Proofs.Ytpebhbhdkmpjeaa.Gputl
attribute [local go_sem] max2_int min2_int max_two min_two max_three min_three max_four min_four   -- for this text's walks alone
set_option linter.unusedVariables false
set_option linter.unusedSimpArgs false

/-! ### storagebarterref01_PutInt: function 15 -/
def storagebarterref01_PutInt.l0 : Nat → ByteArray → Int → Option (ByteArray)
  | 0, _, _ => none
  | k + 1, x0, x5 => if x5 > 127 then ((some (([Go.bits .or .u8 ((x5) % 256) 128] : List Int) : List Int)).bind fun y109 => (if x0.size + (strOfNums y109).size ≤ 9223372036854775807 then (storagebarterref01_PutInt.l0 k (x0 ++ (strOfNums y109)) (x5 / 128)) else (none))) else ((some (([(x5) % 256] : List Int) : List Int)).bind fun y112 => (if x0.size + (strOfNums y112).size ≤ 9223372036854775807 then (some (x0 ++ (strOfNums y112))) else (none)))
def storagebarterref01_PutInt.f (k : Nat) (a0 : ByteArray) (a1 : Int) : Option (ByteArray) := storagebarterref01_PutInt.l0 k a0 (Go.bits .xor .u64 (IntKind.u64.wrap ((IntKind.u64.wrap (a1)) * 2)) (IntKind.u64.wrap (a1 / 9223372036854775808)))
theorem storagebarterref01_PutInt.mono_l : ∀ k, (∀ y0 y1, LeO (storagebarterref01_PutInt.l0 k y0 y1) (storagebarterref01_PutInt.l0 (k + 1) y0 y1))
  | 0 => fun _ _ r h => by simp [storagebarterref01_PutInt.l0] at h
  | k + 1 => by
    have ih0 := storagebarterref01_PutInt.mono_l k
    · intro y0 y1
      unfold storagebarterref01_PutInt.l0
      repeat' first
      | (with_reducible exact ih0 _ _)
      | (with_reducible exact LeO.refl _)
      | (with_reducible exact LeO.none _)
      | (with_reducible refine LeO.ite ?_ ?_)
      | (with_reducible refine LeO.bind ?_ (fun _ => ?_))
      | exact ih0 _ _
      | exact LeO.none _
      | refine LeO.ite ?_ ?_
      | refine LeO.bind ?_ (fun _ => ?_)
theorem storagebarterref01_PutInt.mono : ∀ a0 a1 k, LeO (storagebarterref01_PutInt.f k a0 a1) (storagebarterref01_PutInt.f (k + 1) a0 a1) := by
  intro a0 a1 k
  have ih0 := storagebarterref01_PutInt.mono_l k
  unfold storagebarterref01_PutInt.f
  repeat' first
      | (with_reducible exact ih0 _ _)
      | (with_reducible exact LeO.refl _)
      | (with_reducible exact LeO.none _)
      | (with_reducible refine LeO.ite ?_ ?_)
      | (with_reducible refine LeO.bind ?_ (fun _ => ?_))
      | exact ih0 _ _
      | exact LeO.none _
      | refine LeO.ite ?_ ?_
      | refine LeO.bind ?_ (fun _ => ?_)
set_option maxHeartbeats 8000000 in
set_option maxRecDepth 100000 in
theorem storagebarterref01_PutInt.calls (k : Nat) (a0 : ByteArray) (a1 : Int) (r : ByteArray) (w : World) (h : storagebarterref01_PutInt.f k a0 a1 = some r) :
    Calls Try.prog 15 #[.string a0, .int .i64 a1] w fun e w' => e = .returned (.string r) ∧ Below w.heap.size w w' := by
  have HB := Aside0.mk (Below.refl w.heap.size w)
  have H : (storagebarterref01_PutInt.l0 k a0 (Go.bits .xor .u64 (IntKind.u64.wrap ((IntKind.u64.wrap (a1)) * 2)) (IntKind.u64.wrap (a1 / 9223372036854775808)))) = some r := h
  clear h
  have H' := Aside0.mk H
  clear H
  go_enter Try.func15, Try.ntmps15
  go_wp2
  go_loopg [0, 5] k (fun kq v0 v5 w' => ∃ (x0_1 : ByteArray) (x5_1 : Int), v0 = .string x0_1 ∧ v5 = .int .u64 x5_1 ∧ Aside0 (storagebarterref01_PutInt.l0 kq x0_1 x5_1 = some r) ∧ Aside0 (kq ≤ k) ∧ Aside0 (Below w.heap.size w w'))
  case atStart => exact ⟨(a0), (Go.bits .xor .u64 (IntKind.u64.wrap ((IntKind.u64.wrap (a1)) * 2)) (IntKind.u64.wrap (a1 / 9223372036854775808))), (by first | rfl | (simp; done) | (simp [*]; done)), (by first | rfl | (simp; done) | (simp [*]; done)), H', ⟨Nat.le_refl _⟩, ⟨by repeat (first | (with_reducible first | exact HB.out | apply below_alloc | apply pw_below_drewN | apply below_drew1) | exact HB.out)⟩⟩
  case round =>
    clear H'
    try clear c1
    try clear p2
    obtain ⟨x0_1, x5_1, rfl, rfl, HA, HK1, HB⟩ := hrel
    cases gk with
    | zero => exact absurd HA.out (by simp [storagebarterref01_PutInt.l0])
    | succ k1 =>
      have H := HA.out
      clear HA
      simp only [storagebarterref01_PutInt.l0] at H
      by_cases c3 : x5_1 > 127
      · rw [if_pos c3] at H
        have c3b0 : decide (127 < x5_1) = true := decide_eq_true c3
        clear c3
        obtain ⟨y109, hy109⟩ : ∃ y_ : List Int, y_ = (([Go.bits .or .u8 ((x5_1) % 256) 128] : List Int)) := ⟨_, rfl⟩
        replace H : (if x0_1.size + (strOfNums y109).size ≤ 9223372036854775807 then (storagebarterref01_PutInt.l0 k1 (x0_1 ++ (strOfNums y109)) (x5_1 / 128)) else (none)) = some r := by first | (rw [hy109]; with_reducible exact H) | (have H2_ := (Option.bind_some _ _).symm.trans H; rw [hy109]; with_reducible exact H2_) | (have H2_ := (Option.bind_some _ _).symm.trans H; with_reducible exact H2_) | with_reducible exact H | (rw [hy109]; exact H) | exact H
        have Ny109 := Aside0.mk hy109
        clear hy109
        by_cases c4 : x0_1.size + (strOfNums y109).size ≤ 9223372036854775807
        · rw [if_pos c4] at H
          have c4b0 := eq_true c4
          have c4b1 : decide (x0_1.size + (strOfNums y109).size ≤ 9223372036854775807) = true := decide_eq_true c4
          try have c4b2 : (9223372036854775807 < x0_1.size + (strOfNums y109).size) = False := eq_false (Nat.not_lt.2 c4)
          have H' := Aside0.mk H
          clear H
          go_wp2_with (first | ((with_reducible refine gate_dst (N := 19) rfl ?_); refine Kd.R_lit (Kd.int .u8) _ 5 ?hg (N := 19) ?hd (xs := ([Go.bits .or .u8 ((x5_1) % 256) 128] : List Int)) (inner := [.int .u8 (Go.bits .or .u8 ((x5_1) % 256) 128)]) (ok := fun _ => True) (okp := fun _ => True) ?hr ?hp (fun _ hk => hk) trivial (Below.refl _ _) (Nat.le_refl _) (by simp) ?_; (case hd => rfl); (case hg => rfl); (case hr => first | (go_simp; done) | (go_simp; rfl)); (case hp => exact (Reps.one (show Kd.M (Kd.int .u8) _ _ _ (Go.bits .or .u8 ((x5_1) % 256) 128) [.int .u8 (Go.bits .or .u8 ((x5_1) % 256) 128)] from rfl) (Reps.none _ _))); intro v110 w5 ho6 hb hg_ hnew_; clear hg_ hnew_; (first | rw [← Ny109.out] at ho6 | (simp only [Int.reduceToNat] at ho6; rw [← Ny109.out] at ho6)); have n0_ := Aside0.mk (Kd.R_lower ho6 (below_size (by repeat (first | (with_reducible first | exact HB.out | apply below_alloc | apply pw_below_drewN | apply below_drew1) | exact HB.out)))); have n1_ := Aside0.mk (below_step (by repeat (first | (with_reducible first | exact HB.out | apply below_alloc | apply pw_below_drewN | apply below_drew1) | exact HB.out)) hb); clear HB; have HO111 := n0_; have HB := n1_; clear n0_ n1_; clear hb ho6; have hcv7 := own_string (P := Try.prog) Try.underlying24 Try.underlying5 Try.underlying9 (Kd.own_of_R HO111.out)))
          go_roundg k1
          case measure => have := HK1.out; omega
          case rel => exact ⟨(x0_1 ++ (strOfNums y109)), (x5_1 / 128), (by first | rfl | (simp; done) | (simp [*]; done)), (by first | rfl | (simp; done) | (simp [*]; done)), H', ⟨by have := HK1.out; omega⟩, ⟨by repeat (first | (with_reducible first | exact HB.out | apply below_alloc | apply pw_below_drewN | apply below_drew1) | exact HB.out)⟩⟩
        · rw [if_neg c4] at H
          exact absurd H (by simp)
      · rw [if_neg c3] at H
        have c3b0 : decide (127 < x5_1) = false := decide_eq_false c3
        clear c3
        obtain ⟨y112, hy112⟩ : ∃ y_ : List Int, y_ = (([(x5_1) % 256] : List Int)) := ⟨_, rfl⟩
        replace H : (if x0_1.size + (strOfNums y112).size ≤ 9223372036854775807 then (some (x0_1 ++ (strOfNums y112))) else (none)) = some r := by first | (rw [hy112]; with_reducible exact H) | (have H2_ := (Option.bind_some _ _).symm.trans H; rw [hy112]; with_reducible exact H2_) | (have H2_ := (Option.bind_some _ _).symm.trans H; with_reducible exact H2_) | with_reducible exact H | (rw [hy112]; exact H) | exact H
        have Ny112 := Aside0.mk hy112
        clear hy112
        by_cases c8 : x0_1.size + (strOfNums y112).size ≤ 9223372036854775807
        · rw [if_pos c8] at H
          have c8b0 := eq_true c8
          have c8b1 : decide (x0_1.size + (strOfNums y112).size ≤ 9223372036854775807) = true := decide_eq_true c8
          try have c8b2 : (9223372036854775807 < x0_1.size + (strOfNums y112).size) = False := eq_false (Nat.not_lt.2 c8)
          obtain rfl := Option.some.inj H
          go_wp2_with (first | ((with_reducible refine gate_dst (N := 27) rfl ?_); refine Kd.R_lit (Kd.int .u8) _ 5 ?hg (N := 27) ?hd (xs := ([(x5_1) % 256] : List Int)) (inner := [.int .u8 ((x5_1) % 256)]) (ok := fun _ => True) (okp := fun _ => True) ?hr ?hp (fun _ hk => hk) trivial (Below.refl _ _) (Nat.le_refl _) (by simp) ?_; (case hd => rfl); (case hg => rfl); (case hr => first | (go_simp; done) | (go_simp; rfl)); (case hp => exact (Reps.one (show Kd.M (Kd.int .u8) _ _ _ ((x5_1) % 256) [.int .u8 ((x5_1) % 256)] from rfl) (Reps.none _ _))); intro v113 w9 ho10 hb hg_ hnew_; clear hg_ hnew_; (first | rw [← Ny112.out] at ho10 | (simp only [Int.reduceToNat] at ho10; rw [← Ny112.out] at ho10)); have n0_ := Aside0.mk (Kd.R_lower ho10 (below_size (by repeat (first | (with_reducible first | exact HB.out | apply below_alloc | apply pw_below_drewN | apply below_drew1) | exact HB.out)))); have n1_ := Aside0.mk (below_step (by repeat (first | (with_reducible first | exact HB.out | apply below_alloc | apply pw_below_drewN | apply below_drew1) | exact HB.out)) hb); clear HB; have HO114 := n0_; have HB := n1_; clear n0_ n1_; clear hb ho10; have hcv11 := own_string (P := Try.prog) Try.underlying24 Try.underlying5 Try.underlying9 (Kd.own_of_R HO114.out)))
          go_ret
          exact ⟨by first | rfl | (simp [errW_none, errW_some] <;> rfl) | (simp [*, errW_none, errW_some] <;> rfl), by repeat (first | (with_reducible first | exact HB.out | apply below_alloc | apply pw_below_drewN | apply below_drew1) | exact HB.out)⟩
        · rw [if_neg c8] at H
          exact absurd H (by simp)

end Go.Proofs.Ytpebhbhdkmpjeaa.Q

/- The printed functions of 'wire' and of its reference, in plain words: what bytes mean as a number. -/
namespace Go.Proofs.Ytpebhbhdkmpjeaa.Gwa
open Go Go.RowKit Go.Proofs.Ytpebhbhdkmpjeaa.Gm Go.Proofs.Ytpebhbhdkmpjeaa.Q Go.Proofs.Ytpebhbhdkmpjeaa.Gput Go.Proofs.YtpebhbhdkmpjeaaW.PrintWords Go.Proofs.YtpebhbhdkmpjeaaW.PrintLast Go.Proofs.YtpebhbhdkmpjeaaW.PrintMore
set_option linter.unusedVariables false

theorem wrap_u64 (x : Int) : IntKind.u64.wrap x = x % 18446744073709551616 := by simp [IntKind.wrap, IntKind.bits, IntKind.signed]
theorem wraps_u64 (n : Int) (h₀ : 0 ≤ n) (h₁ : n < 2 ^ 64) : IntKind.u64.wrap n = n := by rw [wrap_u64]; omega

theorem w64 {x : Int} (h : -9223372036854775808 ≤ x ∧ x ≤ 9223372036854775807) : wrap64 x = x := by unfold wrap64; omega

theorem u8_and127 (x : Int) (h₀ : 0 ≤ x) (h₁ : x < 256) : bits .and .u8 x 127 = x % 128 := bits_mask .u8 8 (by decide) wraps_u8 7 (by decide) x h₀ h₁
theorem u64_and1 (x : Int) (h₀ : 0 ≤ x) (h₁ : x < 18446744073709551616) : bits .and .u64 x 1 = x % 2 := bits_mask .u64 64 (by decide) wraps_u64 1 (by decide) x h₀ h₁

theorem or_comm64 (a b : Nat) (ha : a < 2 ^ 64) (hb : b < 2 ^ 64) : bits .or .u64 (a : Int) (b : Int) = bits .or .u64 (b : Int) (a : Int) := by
  rw [(bits_nat .u64 64 (by decide) wraps_u64 a b ha hb).2, (bits_nat .u64 64 (by decide) wraps_u64 b a hb ha).2, Nat.or_comm]

theorem pow128 (i : Nat) : (128 : Nat) ^ i = 2 ^ (7 * i) := by rw [Nat.pow_mul]

theorem mul_lt64 {i b : Nat} (hi : i ≤ 9) (hb : i = 9 → b ≤ 1) : b % 128 * 128 ^ i + 128 ^ i ≤ 18446744073709551616 := by
  obtain ⟨m, hm, hm2, hm9⟩ := pow_split hi
  rw [hm, ← Nat.succ_mul, Nat.mul_comm]
  refine Nat.mul_le_mul_left _ ?_
  rcases Nat.lt_or_ge i 9 with h | h
  · have := hm9 h; omega
  · have := hb (by omega); omega

theorem shl_part (b i : Nat) (h256 : b < 256) (hi : i ≤ 9) (hb : i = 9 → b ≤ 1) : shl .u64 (IntKind.u64.wrap (bits .and .u8 (b : Int) 127)) (wrap64 (7 * (i : Int))) = ((b % 128 * 128 ^ i : Nat) : Int) := by
  have hlt := mul_lt64 hi hb
  have hpos : 0 < 128 ^ i := Nat.pow_pos (by decide)
  rw [u8_and127 _ (by omega) (by omega), w64 (by omega), wrap_u64]
  unfold shl
  have e1 : ((b : Int) % 128 % 18446744073709551616) = ((b % 128 : Nat) : Int) := by omega
  have e2 : min (7 * (i : Int)).toNat IntKind.u64.bits = 7 * i := by
    have : IntKind.u64.bits = 64 := rfl
    omega
  rw [e1, e2, wrap_u64]
  have e3 : ((b % 128 : Nat) : Int) * 2 ^ (7 * i) = ((b % 128 * 128 ^ i : Nat) : Int) := by
    rw [pow128, Int.natCast_mul, Int.natCast_pow]
    rfl
  rw [e3]
  omega

theorem or_part (u b i : Nat) (h256 : b < 256) (hi : i ≤ 9) (hb : i = 9 → b ≤ 1) (hu : u < 128 ^ i) :
    bits .or .u64 (u : Int) ((b % 128 * 128 ^ i : Nat) : Int) = ((u + b % 128 * 128 ^ i : Nat) : Int) := by
  have hlt := mul_lt64 hi hb
  have hpos : 0 < 128 ^ i := Nat.pow_pos (by decide)
  have h64 : (18446744073709551616 : Nat) = 2 ^ 64 := by decide
  have hx : b % 128 * 128 ^ i < 2 ^ 64 := by rw [← h64]; omega
  have hu64 : u < 2 ^ 64 := by rw [← h64]; omega
  rw [or_comm64 _ _ hu64 hx]
  have hj := bits_join .u64 64 (by decide) wraps_u64 (7 * i) ((b % 128 * 128 ^ i : Nat) : Int) (u : Int) (by omega)
    (by rw [pow128]; have : ((2 : Int) ^ (7 * i)) = ((2 ^ (7 * i) : Nat) : Int) := by simp
        rw [this, ← Int.natCast_emod, Nat.mul_mod_left]; rfl)
    (by exact_mod_cast hx) (by omega) (by rw [pow128] at hu; exact_mod_cast hu) (by exact_mod_cast hu64)
  rw [hj]
  omega

theorem bits_xor64i (a b : Int) : bits .xor .i64 a b = IntKind.i64.wrap ((BitVec.ofInt 64 a ^^^ BitVec.ofInt 64 b).toNat : Int) := rfl

theorem unzig_bits (U : Nat) (h : U < 18446744073709551616) : bits .xor .i64 (wrap64 ((U : Int) / 2)) (wrap64 (-(wrap64 (bits .and .u64 (U : Int) 1)))) = unzig U := by
  rw [u64_and1 _ (by omega) (by omega), w64 (x := (U : Int) / 2) (by omega), w64 (x := (U : Int) % 2) (by omega), w64 (by omega)]
  have ex : ((U : Int) / 2) = ((U / 2 : Nat) : Int) := by omega
  rw [ex, bits_xor64i, BitVec.ofInt_natCast]
  have hlt : U / 2 < 2 ^ 64 := by omega
  unfold unzig
  rcases Nat.mod_two_eq_zero_or_one U with h0 | h1
  · have e0 : (-((U : Int) % 2)) = ((0 : Nat) : Int) := by omega
    rw [e0, BitVec.ofInt_natCast, BitVec.toNat_xor, BitVec.toNat_ofNat, BitVec.toNat_ofNat, Nat.mod_eq_of_lt hlt, Nat.zero_mod, Nat.xor_zero, IntKind.wrap_i64, if_pos h0]
    omega
  · have e1 : (-((U : Int) % 2)) = -1 := by omega
    have hn : BitVec.ofInt 64 (-1) = BitVec.allOnes 64 := by decide
    rw [e1, hn, BitVec.xor_allOnes, BitVec.toNat_not, BitVec.toNat_ofNat, Nat.mod_eq_of_lt hlt, IntKind.wrap_i64, if_neg (by omega)]
    omega

/-- What is told of the bytes from an index on. -/
def told (a : Int) : Nat × Nat × Nat → Int × Int × Int
  | (u, n, 0) => (unzig u, a + n, 0)
  | (_, _, e) => (0, 0, e)

def intAt (s : ByteArray) (a : Int) : Int × Int × Int :=
  if a < 0 ∨ a > s.size then (0, 0, 1) else told a (rdU 0 0 (s.data.toList.drop a.toNat))

theorem bt_at (s : ByteArray) (a : Nat) (h : a < s.size) : bt s (a : Int) = ((s.data.toList.drop a).headD 0).toNat := by
  have h' : a < s.data.size := h
  unfold bt
  rw [dif_pos (by simpa using h)]
  simp only [Int.toNat_natCast]
  rw [List.drop_eq_getElem_cons (by simpa using h')]
  rfl

theorem drop_at (s : ByteArray) (a : Nat) (h : a < s.size) : s.data.toList.drop a = UInt8.ofNat (bt s (a : Int)).toNat :: s.data.toList.drop (a + 1) := by
  have h' : a < s.data.size := h
  rw [bt_at s a h, List.drop_eq_getElem_cons (by simpa using h')]
  simp

theorem bt_lt (s : ByteArray) (i : Int) : 0 ≤ bt s i ∧ bt s i < 256 := by
  unfold bt
  split
  · have := (s[i.toNat]).toNat_lt; omega
  · omega

set_option maxHeartbeats 1000000 in
theorem wire_Int_l0 (s : ByteArray) (a : Nat) (hs : s.size ≤ 9223372036854775000) : ∀ (d i u k : Nat), 9 - i = d → i ≤ 9 → a + i ≤ s.size → u < 128 ^ i → 2 * d + 3 ≤ k →
    wire_Int.l0 k s a u i = some (told a (rdU i u (s.data.toList.drop (a + i)))) := by
  intro d
  induction d with
  | zero =>
    intro i u k hd hi ha hu hk
    obtain rfl : i = 9 := by omega
    obtain ⟨k, rfl⟩ : ∃ m, k = m + 2 := ⟨k - 2, by omega⟩
    have ew : wrap64 ((a : Int) + ((9 : Nat) : Int)) = ((a + 9 : Nat) : Int) := by rw [w64 (by omega)]; omega
    simp only [wire_Int.l0]
    rw [ew]
    by_cases hend : a + 9 = s.size
    · rw [if_pos (by omega), List.drop_of_length_le (by rw [Array.length_toList]; exact Nat.le_of_eq hend.symm)]
      rfl
    · have hlt : a + 9 < s.size := by omega
      have hb := bt_lt s ((a + 9 : Nat) : Int)
      obtain ⟨b, hbn⟩ : ∃ b : Nat, bt s ((a + 9 : Nat) : Int) = b := ⟨(bt s ((a + 9 : Nat) : Int)).toNat, by omega⟩
      rw [if_neg (by omega), if_pos (by omega), if_pos (by omega), drop_at s _ hlt, hbn, rdU, Int.toNat_natCast, u8_ofNat b (by omega), if_pos (by omega)]
      by_cases h1 : 1 < b
      · rw [if_pos (by omega), if_pos (.inl ⟨rfl, h1⟩)]
        simp only [wire_Int.j2]
        rfl
      · rw [if_neg (by omega), if_pos (by omega)]
        by_cases h0 : b = 0
        · rw [if_pos (.inr ⟨by omega, h0⟩)]
          subst h0
          simp only [wire_Int.j2]
          rfl
        · have hb0 : ((b : Int) == 0) = false := by simp; omega
          rw [if_neg (by omega), if_pos (by omega), hb0]
          simp only [wire_Int.j2]
          rw [if_neg (by simp), if_pos (by rw [w64 (by omega)]; omega), if_pos (by omega), shl_part b 9 (by omega) (by omega) (fun _ => by omega), or_part u b 9 (by omega) (by omega) (fun _ => by omega) hu]
          have hlt := mul_lt64 (i := 9) (b := b) (by omega) (fun _ => by omega)
          rw [unzig_bits _ (by omega), ew, w64 (by omega), Nat.mod_eq_of_lt (show b < 128 by omega)]
          simp only [told]
          rfl
  | succ d ih =>
    intro i u k hd hi ha hu hk
    obtain ⟨k, rfl⟩ : ∃ m, k = m + 2 := ⟨k - 2, by omega⟩
    have ew : wrap64 ((a : Int) + (i : Int)) = ((a + i : Nat) : Int) := by rw [w64 (by omega)]; omega
    simp only [wire_Int.l0]
    rw [ew]
    by_cases hend : a + i = s.size
    · rw [if_pos (by omega), List.drop_of_length_le (by rw [Array.length_toList]; exact Nat.le_of_eq hend.symm)]
      rfl
    · have hlt : a + i < s.size := by omega
      have hb := bt_lt s ((a + i : Nat) : Int)
      obtain ⟨b, hbn⟩ : ∃ b : Nat, bt s ((a + i : Nat) : Int) = b := ⟨(bt s ((a + i : Nat) : Int)).toNat, by omega⟩
      have key : ∀ z : Bool, z = decide (0 < i ∧ b = 0) → wire_Int.j2 (k + 1) s a u i b z = some (told a (if (i = 9 ∧ 1 < b) ∨ (0 < i ∧ b = 0) then (0, 0, 2) else if b < 128 then (u + b * 128 ^ i, i + 1, 0) else rdU (i + 1) (u + b % 128 * 128 ^ i) (s.data.toList.drop (a + i + 1)))) := by
        intro z hz
        simp only [wire_Int.j2]
        by_cases hc : 0 < i ∧ b = 0
        · rw [if_pos (by rw [hz]; simp [hc]), if_pos (.inr hc)]
          rfl
        · rw [if_neg (by rw [hz]; simpa using hc), if_neg (show ¬ ((i = 9 ∧ 1 < b) ∨ (0 < i ∧ b = 0)) by rintro (⟨h9, -⟩ | h); omega; exact hc h), if_pos (show 0 ≤ wrap64 (7 * (i : Int)) by rw [w64 (by omega)]; omega), shl_part b i (by omega) hi (fun _ => by omega), or_part u b i (by omega) hi (fun _ => by omega) hu]
          have hlt := mul_lt64 hi (b := b) (fun _ => by omega)
          by_cases h128 : b < 128
          · rw [if_pos (by omega), if_pos h128, unzig_bits _ (by omega), ew, w64 (by omega), Nat.mod_eq_of_lt h128]
            simp only [told]
            rfl
          · rw [if_neg (by omega), if_neg h128, w64 (by omega)]
            have h2 : u + b % 128 * 128 ^ i < 128 ^ (i + 1) := by
              have h3 : b % 128 * 128 ^ i ≤ 127 * 128 ^ i := Nat.mul_le_mul_right _ (by omega)
              have h4 : 128 ^ (i + 1) = 128 ^ i * 128 := Nat.pow_succ 128 i
              omega
            have := ih (i + 1) (u + b % 128 * 128 ^ i) (k) (by omega) (by omega) (by omega) h2 (by omega)
            rw [show ((i + 1 : Nat) : Int) = (i : Int) + 1 by omega] at this
            rw [this, Nat.add_assoc]
      rw [if_neg (by omega), if_pos (by omega), if_pos (by omega), drop_at s _ hlt, hbn, rdU, Int.toNat_natCast, u8_ofNat b (by omega), if_neg (by omega)]
      by_cases hi0 : 0 < i
      · rw [if_pos (by omega)]
        refine key _ ?_
        rw [Bool.eq_iff_iff]; simp; omega
      · rw [if_neg (by omega)]
        exact key _ (by simp; omega)

theorem wire_Int_eq (s : ByteArray) (a : Int) (k : Nat) (hs : s.size ≤ 9223372036854775000) (hk : 24 ≤ k) : wire_Int.f k s a = some (intAt s a) := by
  obtain ⟨k, rfl⟩ : ∃ m, k = m + 1 := ⟨k - 1, by omega⟩
  unfold wire_Int.f intAt
  by_cases h0 : a < 0
  · rw [if_pos h0, if_pos (.inl h0)]
    simp only [wire_Int.j0]
    rfl
  · rw [if_neg h0]
    simp only [wire_Int.j0]
    by_cases h1 : a > (s.size : Int)
    · rw [if_pos (by simpa using h1), if_pos (.inr h1)]
    · rw [if_neg (by simpa using h1), if_neg (by omega)]
      obtain ⟨n, rfl⟩ : ∃ n : Nat, a = n := ⟨a.toNat, by omega⟩
      exact wire_Int_l0 s n hs 9 0 0 k rfl (by omega) (by omega) (by simp) (by omega)

end Go.Proofs.Ytpebhbhdkmpjeaa.Gwa

namespace Go.Proofs.Ytpebhbhdkmpjeaa.Q
open Go.RowKit Go.Proofs.YtpebhbhdkmpjeaaW.PrintWords Go.Proofs.YtpebhbhdkmpjeaaW.PrintLast Go.Proofs.YtpebhbhdkmpjeaaW.PrintMore Go.Proofs.Ytpebhbhdkmpjeaa.Gput Go.Proofs.Ytpebhbhdkmpjeaa.Gputl
attribute [local go_sem] max2_int min2_int max_two min_two max_three min_three max_four min_four   -- for this text's walks alone
set_option linter.unusedVariables false
set_option linter.unusedSimpArgs false

/-! ### storagebarterref01_Text: function 36 -/
def storagebarterref01_Text.f (k : Nat) (a0 : ByteArray) (a1 : Int) (a2 : Int) : Option (ByteArray × Int × Int) := (storagebarterref01_Int.f k a0 a1).bind fun bt250 => (if bt250.2.2 = 0 then (if bt250.1 < 0 then (some ((⟨#[]⟩ : ByteArray), 0, 2)) else (if bt250.1 > a2 then (some ((⟨#[]⟩ : ByteArray), 0, 4)) else (if bt250.1 > (wrap64 ((a0.size : Int) - bt250.2.1)) then (some ((⟨#[]⟩ : ByteArray), 0, 3)) else (if 0 ≤ bt250.2.1 then (if bt250.2.1 ≤ (wrap64 (bt250.2.1 + bt250.1)) then (if (wrap64 (bt250.2.1 + bt250.1)) ≤ (a0.size : Int) then (some (a0.extract (bt250.2.1 : Int).toNat ((wrap64 (bt250.2.1 + bt250.1)) : Int).toNat, wrap64 (bt250.2.1 + bt250.1), 0)) else (none)) else (none)) else (none))))) else (some ((⟨#[]⟩ : ByteArray), 0, bt250.2.2)))
theorem storagebarterref01_Text.mono : ∀ a0 a1 a2 k, LeO (storagebarterref01_Text.f k a0 a1 a2) (storagebarterref01_Text.f (k + 1) a0 a1 a2) := by
  intro a0 a1 a2 k
  unfold storagebarterref01_Text.f
  repeat' first
      | (with_reducible exact storagebarterref01_Int.mono _ _ _)
      | (with_reducible exact LeO.refl _)
      | (with_reducible exact LeO.none _)
      | (with_reducible refine LeO.ite ?_ ?_)
      | (with_reducible refine LeO.bind ?_ (fun _ => ?_))
      | exact storagebarterref01_Int.mono _ _ _
      | exact LeO.none _
      | refine LeO.ite ?_ ?_
      | refine LeO.bind ?_ (fun _ => ?_)
set_option maxHeartbeats 8000000 in
set_option maxRecDepth 100000 in
theorem storagebarterref01_Text.calls (k : Nat) (a0 : ByteArray) (a1 : Int) (a2 : Int) (r1 : ByteArray) (r2 : Int) (r3 : Int) (w : World) (h : storagebarterref01_Text.f k a0 a1 a2 = some (r1, r2, r3)) :
    Calls Try.prog 36 #[.string a0, .int .i64 a1, .int .i64 a2] w fun e w' => e = .returned (.tuple #[.string r1, .int .i64 r2, .int .i64 r3]) ∧ Drawn0 w w' := by
  have H : ((storagebarterref01_Int.f k a0 a1).bind fun bt250 => (if bt250.2.2 = 0 then (if bt250.1 < 0 then (some ((⟨#[]⟩ : ByteArray), 0, 2)) else (if bt250.1 > a2 then (some ((⟨#[]⟩ : ByteArray), 0, 4)) else (if bt250.1 > (wrap64 ((a0.size : Int) - bt250.2.1)) then (some ((⟨#[]⟩ : ByteArray), 0, 3)) else (if 0 ≤ bt250.2.1 then (if bt250.2.1 ≤ (wrap64 (bt250.2.1 + bt250.1)) then (if (wrap64 (bt250.2.1 + bt250.1)) ≤ (a0.size : Int) then (some (a0.extract (bt250.2.1 : Int).toNat ((wrap64 (bt250.2.1 + bt250.1)) : Int).toNat, wrap64 (bt250.2.1 + bt250.1), 0)) else (none)) else (none)) else (none))))) else (some ((⟨#[]⟩ : ByteArray), 0, bt250.2.2)))) = some (r1, r2, r3) := h
  clear h
  replace H := Option.bind_eq_some_iff.mp H
  obtain ⟨⟨t250, t251, t252⟩, A40, H⟩ := H
  replace H : (if t252 = 0 then (if t250 < 0 then (some ((⟨#[]⟩ : ByteArray), 0, 2)) else (if t250 > a2 then (some ((⟨#[]⟩ : ByteArray), 0, 4)) else (if t250 > (wrap64 ((a0.size : Int) - t251)) then (some ((⟨#[]⟩ : ByteArray), 0, 3)) else (if 0 ≤ t251 then (if t251 ≤ (wrap64 (t251 + t250)) then (if (wrap64 (t251 + t250)) ≤ (a0.size : Int) then (some (a0.extract (t251 : Int).toNat ((wrap64 (t251 + t250)) : Int).toNat, wrap64 (t251 + t250), 0)) else (none)) else (none)) else (none))))) else (some ((⟨#[]⟩ : ByteArray), 0, t252))) = some (r1, r2, r3) := H
  have A4 := Aside0.mk A40
  clear A40
  by_cases c5 : t252 = 0
  · rw [if_pos c5] at H
    have c5b0 : (t252 == 0) = true := beq_iff_eq.mpr c5
    have c5b1 : (t252 != 0) = false := bne_eq_false_iff_eq.mpr c5
    clear c5
    by_cases c6 : t250 < 0
    · rw [if_pos c6] at H
      have c6b0 : decide (t250 < 0) = true := decide_eq_true c6
      clear c6
      simp only [Option.some.injEq, Prod.mk.injEq] at H
      obtain ⟨rfl, rfl, rfl⟩ := H
      go_enter Try.func36, Try.ntmps36
      go_wp2_with (first | ((with_reducible refine gate_callee (f := 17) rfl ?_); refine goesL_ (some 15) rfl rfl Try.func17 (by kernel_rfl) rfl #[.string a0, .int .i64 a1] rfl (by (try simp only [List.map_toArray, List.map_cons, List.map_nil]); first | done | rfl | (simp only [List.length_drop, List.length_take]; rfl)) ?_; (with_reducible refine (storagebarterref01_Int.calls k a0 a1 t250 t251 t252 _ A4.out).mono ?_); rintro e w' ⟨rfl, ⟨nd, rfl⟩⟩; refine ⟨_, rfl, ?_⟩))
      go_ret3
      exact ⟨by first | rfl | (simp; done) | (simp [*]; done), by repeat (first | exact Drawn0.refl _ | apply Drawn0.step)⟩
    · rw [if_neg c6] at H
      have c6b0 : decide (t250 < 0) = false := decide_eq_false c6
      clear c6
      by_cases c7 : t250 > a2
      · rw [if_pos c7] at H
        have c7b0 : decide (a2 < t250) = true := decide_eq_true c7
        clear c7
        simp only [Option.some.injEq, Prod.mk.injEq] at H
        obtain ⟨rfl, rfl, rfl⟩ := H
        go_enter Try.func36, Try.ntmps36
        go_wp2_with (first | ((with_reducible refine gate_callee (f := 17) rfl ?_); refine goesL_ (some 15) rfl rfl Try.func17 (by kernel_rfl) rfl #[.string a0, .int .i64 a1] rfl (by (try simp only [List.map_toArray, List.map_cons, List.map_nil]); first | done | rfl | (simp only [List.length_drop, List.length_take]; rfl)) ?_; (with_reducible refine (storagebarterref01_Int.calls k a0 a1 t250 t251 t252 _ A4.out).mono ?_); rintro e w' ⟨rfl, ⟨nd, rfl⟩⟩; refine ⟨_, rfl, ?_⟩))
        go_ret3
        exact ⟨by first | rfl | (simp; done) | (simp [*]; done), by repeat (first | exact Drawn0.refl _ | apply Drawn0.step)⟩
      · rw [if_neg c7] at H
        have c7b0 : decide (a2 < t250) = false := decide_eq_false c7
        clear c7
        by_cases c8 : t250 > (wrap64 ((a0.size : Int) - t251))
        · rw [if_pos c8] at H
          have c8b0 : decide ((wrap64 ((a0.size : Int) - t251)) < t250) = true := decide_eq_true c8
          clear c8
          simp only [Option.some.injEq, Prod.mk.injEq] at H
          obtain ⟨rfl, rfl, rfl⟩ := H
          go_enter Try.func36, Try.ntmps36
          go_wp2_with (first | ((with_reducible refine gate_callee (f := 17) rfl ?_); refine goesL_ (some 15) rfl rfl Try.func17 (by kernel_rfl) rfl #[.string a0, .int .i64 a1] rfl (by (try simp only [List.map_toArray, List.map_cons, List.map_nil]); first | done | rfl | (simp only [List.length_drop, List.length_take]; rfl)) ?_; (with_reducible refine (storagebarterref01_Int.calls k a0 a1 t250 t251 t252 _ A4.out).mono ?_); rintro e w' ⟨rfl, ⟨nd, rfl⟩⟩; refine ⟨_, rfl, ?_⟩))
          go_ret3
          exact ⟨by first | rfl | (simp; done) | (simp [*]; done), by repeat (first | exact Drawn0.refl _ | apply Drawn0.step)⟩
        · rw [if_neg c8] at H
          have c8b0 : decide ((wrap64 ((a0.size : Int) - t251)) < t250) = false := decide_eq_false c8
          clear c8
          by_cases c9 : 0 ≤ t251
          · rw [if_pos c9] at H
            have c9b0 := eq_true c9
            have c9b1 : decide (0 ≤ t251) = true := decide_eq_true c9
            clear c9
            by_cases c10 : t251 ≤ (wrap64 (t251 + t250))
            · rw [if_pos c10] at H
              have c10b0 := eq_true c10
              have c10b1 : decide (t251 ≤ (wrap64 (t251 + t250))) = true := decide_eq_true c10
              by_cases c11 : (wrap64 (t251 + t250)) ≤ (a0.size : Int)
              · rw [if_pos c11] at H
                have c11b0 := eq_true c11
                have c11b1 : decide ((wrap64 (t251 + t250)) ≤ (a0.size : Int)) = true := decide_eq_true c11
                simp only [Option.some.injEq, Prod.mk.injEq] at H
                obtain ⟨rfl, rfl, rfl⟩ := H
                go_enter Try.func36, Try.ntmps36
                go_wp2_with (first | ((with_reducible refine gate_callee (f := 17) rfl ?_); refine goesL_ (some 15) rfl rfl Try.func17 (by kernel_rfl) rfl #[.string a0, .int .i64 a1] rfl (by (try simp only [List.map_toArray, List.map_cons, List.map_nil]); first | done | rfl | (simp only [List.length_drop, List.length_take]; rfl)) ?_; (with_reducible refine (storagebarterref01_Int.calls k a0 a1 t250 t251 t252 _ A4.out).mono ?_); rintro e w' ⟨rfl, ⟨nd, rfl⟩⟩; refine ⟨_, rfl, ?_⟩))
                go_ret3
                exact ⟨by first | rfl | (simp; done) | (simp [*]; done), by repeat (first | exact Drawn0.refl _ | apply Drawn0.step)⟩
              · rw [if_neg c11] at H
                exact absurd H (by simp)
            · rw [if_neg c10] at H
              exact absurd H (by simp)
          · rw [if_neg c9] at H
            exact absurd H (by simp)
  · rw [if_neg c5] at H
    have c5b0 : (t252 == 0) = false := beq_eq_false_iff_ne.mpr c5
    have c5b1 : (t252 != 0) = true := bne_iff_ne.mpr c5
    simp only [Option.some.injEq, Prod.mk.injEq] at H
    obtain ⟨rfl, rfl, rfl⟩ := H
    go_enter Try.func36, Try.ntmps36
    go_wp2_with (first | ((with_reducible refine gate_callee (f := 17) rfl ?_); refine goesL_ (some 15) rfl rfl Try.func17 (by kernel_rfl) rfl #[.string a0, .int .i64 a1] rfl (by (try simp only [List.map_toArray, List.map_cons, List.map_nil]); first | done | rfl | (simp only [List.length_drop, List.length_take]; rfl)) ?_; (with_reducible refine (storagebarterref01_Int.calls k a0 a1 t250 t251 t252 _ A4.out).mono ?_); rintro e w' ⟨rfl, ⟨nd, rfl⟩⟩; refine ⟨_, rfl, ?_⟩))
    go_ret3
    exact ⟨by first | rfl | (simp; done) | (simp [*]; done), by repeat (first | exact Drawn0.refl _ | apply Drawn0.step)⟩

end Go.Proofs.Ytpebhbhdkmpjeaa.Q

namespace Go.Proofs.Ytpebhbhdkmpjeaa.Q
open Go.RowKit Go.Proofs.YtpebhbhdkmpjeaaW.PrintWords Go.Proofs.YtpebhbhdkmpjeaaW.PrintLast Go.Proofs.YtpebhbhdkmpjeaaW.PrintMore Go.Proofs.Ytpebhbhdkmpjeaa.Gput Go.Proofs.Ytpebhbhdkmpjeaa.Gputl
attribute [local go_sem] max2_int min2_int max_two min_two max_three min_three max_four min_four   -- for this text's walks alone
set_option linter.unusedVariables false
set_option linter.unusedSimpArgs false

/-! ### storagebarterref01_PutText: function 32 -/
def storagebarterref01_PutText.f (k : Nat) (a0 : ByteArray) (a1 : ByteArray) : Option (ByteArray) := (storagebarterref01_PutInt.f k a0 (a1.size : Int)).bind fun t240 => (if t240.size + a1.size ≤ 9223372036854775807 then (some (t240 ++ a1)) else (none))
theorem storagebarterref01_PutText.mono : ∀ a0 a1 k, LeO (storagebarterref01_PutText.f k a0 a1) (storagebarterref01_PutText.f (k + 1) a0 a1) := by
  intro a0 a1 k
  unfold storagebarterref01_PutText.f
  repeat' first
      | (with_reducible exact storagebarterref01_PutInt.mono _ _ _)
      | (with_reducible exact LeO.refl _)
      | (with_reducible exact LeO.none _)
      | (with_reducible refine LeO.ite ?_ ?_)
      | (with_reducible refine LeO.bind ?_ (fun _ => ?_))
      | exact storagebarterref01_PutInt.mono _ _ _
      | exact LeO.none _
      | refine LeO.ite ?_ ?_
      | refine LeO.bind ?_ (fun _ => ?_)
set_option maxHeartbeats 8000000 in
set_option maxRecDepth 100000 in
theorem storagebarterref01_PutText.calls (k : Nat) (a0 : ByteArray) (a1 : ByteArray) (r : ByteArray) (w : World) (h : storagebarterref01_PutText.f k a0 a1 = some r) :
    Calls Try.prog 32 #[.string a0, .string a1] w fun e w' => e = .returned (.string r) ∧ Below w.heap.size w w' := by
  have HB := Aside0.mk (Below.refl w.heap.size w)
  have H : ((storagebarterref01_PutInt.f k a0 (a1.size : Int)).bind fun t240 => (if t240.size + a1.size ≤ 9223372036854775807 then (some (t240 ++ a1)) else (none))) = some r := h
  clear h
  replace H := Option.bind_eq_some_iff.mp H
  obtain ⟨t240, A30, H⟩ := H
  replace H : (if t240.size + a1.size ≤ 9223372036854775807 then (some (t240 ++ a1)) else (none)) = some r := H
  have A3 := Aside0.mk A30
  clear A30
  by_cases c4 : t240.size + a1.size ≤ 9223372036854775807
  · rw [if_pos c4] at H
    have c4b0 := eq_true c4
    have c4b1 : decide (t240.size + a1.size ≤ 9223372036854775807) = true := decide_eq_true c4
    try have c4b2 : (9223372036854775807 < t240.size + a1.size) = False := eq_false (Nat.not_lt.2 c4)
    obtain rfl := Option.some.inj H
    go_enter Try.func32, Try.ntmps32
    go_wp2_with (first | ((with_reducible refine gate_callee (f := 15) rfl ?_); refine goesL_ (some 8) rfl rfl Try.func15 (by kernel_rfl) rfl #[.string a0, .int .i64 (a1.size : Int)] rfl (by (try simp only [List.map_toArray, List.map_cons, List.map_nil]); first | done | rfl | (simp only [List.length_drop, List.length_take]; rfl)) ?_; (with_reducible refine (storagebarterref01_PutInt.calls k a0 (a1.size : Int) t240 _ A3.out).mono ?_); rintro e w5 ⟨rfl, hb⟩; refine ⟨_, rfl, ?_⟩; have n0_ := Aside0.mk (below_step (by repeat (first | (with_reducible first | exact HB.out | apply below_alloc | apply pw_below_drewN | apply below_drew1) | exact HB.out)) hb); clear HB; have HB := n0_; clear n0_; (try clear hb); (try clear hb2); (try clear hk); (try clear hi)))
    go_ret
    exact ⟨by first | rfl | (simp [errW_none, errW_some] <;> rfl) | (simp [*, errW_none, errW_some] <;> rfl), by repeat (first | (with_reducible first | exact HB.out | apply below_alloc | apply pw_below_drewN | apply below_drew1) | exact HB.out)⟩
  · rw [if_neg c4] at H
    exact absurd H (by simp)

end Go.Proofs.Ytpebhbhdkmpjeaa.Q

namespace Go.Proofs.Ytpebhbhdkmpjeaa.Q
open Go.RowKit Go.Proofs.YtpebhbhdkmpjeaaW.PrintWords Go.Proofs.YtpebhbhdkmpjeaaW.PrintLast Go.Proofs.YtpebhbhdkmpjeaaW.PrintMore Go.Proofs.Ytpebhbhdkmpjeaa.Gput Go.Proofs.Ytpebhbhdkmpjeaa.Gputl
attribute [local go_sem] max2_int min2_int max_two min_two max_three min_three max_four min_four   -- for this text's walks alone
set_option linter.unusedVariables false
set_option linter.unusedSimpArgs false

/-! ### storagebarterref01_PutList: function 34 -/
def storagebarterref01_PutList.l0 : Nat → ByteArray → List Int → Int → Int → Option (ByteArray)
  | 0, _, _, _, _ => none
  | k + 1, x0, x11, x12, x13 => if x13 < x12 then (if 0 ≤ x13 then (if x13 < (x11.length : Int) then ((storagebarterref01_PutInt.f k x0 (rd x11 x13)).bind fun t243 => (storagebarterref01_PutList.l0 k t243 x11 x12 (wrap64 (x13 + 1)))) else (none)) else (none)) else (some x0)
def storagebarterref01_PutList.f (k : Nat) (a0 : ByteArray) (l1 : List Int) : Option (ByteArray) := (storagebarterref01_PutInt.f k a0 (l1.length : Int)).bind fun t241 => (storagebarterref01_PutList.l0 k t241 l1 (l1.length : Int) 0)
theorem storagebarterref01_PutList.mono_l : ∀ k, (∀ y0 y1 y2 y3, LeO (storagebarterref01_PutList.l0 k y0 y1 y2 y3) (storagebarterref01_PutList.l0 (k + 1) y0 y1 y2 y3))
  | 0 => fun _ _ _ _ r h => by simp [storagebarterref01_PutList.l0] at h
  | k + 1 => by
    have ih0 := storagebarterref01_PutList.mono_l k
    · intro y0 y1 y2 y3
      unfold storagebarterref01_PutList.l0
      repeat' first
      | (with_reducible exact ih0 _ _ _ _)
      | (with_reducible exact storagebarterref01_PutInt.mono _ _ _)
      | (with_reducible exact LeO.refl _)
      | (with_reducible exact LeO.none _)
      | (with_reducible refine LeO.ite ?_ ?_)
      | (with_reducible refine LeO.bind ?_ (fun _ => ?_))
      | exact ih0 _ _ _ _
      | exact storagebarterref01_PutInt.mono _ _ _
      | exact LeO.none _
      | refine LeO.ite ?_ ?_
      | refine LeO.bind ?_ (fun _ => ?_)
theorem storagebarterref01_PutList.mono : ∀ a0 a1 k, LeO (storagebarterref01_PutList.f k a0 a1) (storagebarterref01_PutList.f (k + 1) a0 a1) := by
  intro a0 a1 k
  have ih0 := storagebarterref01_PutList.mono_l k
  unfold storagebarterref01_PutList.f
  repeat' first
      | (with_reducible exact ih0 _ _ _ _)
      | (with_reducible exact storagebarterref01_PutInt.mono _ _ _)
      | (with_reducible exact LeO.refl _)
      | (with_reducible exact LeO.none _)
      | (with_reducible refine LeO.ite ?_ ?_)
      | (with_reducible refine LeO.bind ?_ (fun _ => ?_))
      | exact ih0 _ _ _ _
      | exact storagebarterref01_PutInt.mono _ _ _
      | exact LeO.none _
      | refine LeO.ite ?_ ?_
      | refine LeO.bind ?_ (fun _ => ?_)
set_option maxHeartbeats 8000000 in
set_option maxRecDepth 100000 in
theorem storagebarterref01_PutList.calls (k : Nat) (a0 : ByteArray) (A1 : Option Addr) (c1 : Nat) (l1 : List Int) (r : ByteArray) (w : World) (hr1 : Kd.C (Kd.int .i64) w A1 l1.length l1) (hc1 : l1.length ≤ c1) (h : storagebarterref01_PutList.f k a0 l1 = some r) :
    Calls Try.prog 34 #[.string a0, .slice A1 l1.length c1] w fun e w' => e = .returned (.string r) ∧ Below w.heap.size w w' := by
  have HR1 := Aside0.mk hr1
  have HC1 := Aside0.mk hc1
  clear hr1 hc1
  have HB := Aside0.mk (Below.refl w.heap.size w)
  have H : ((storagebarterref01_PutInt.f k a0 (l1.length : Int)).bind fun t241 => (storagebarterref01_PutList.l0 k t241 l1 (l1.length : Int) 0)) = some r := h
  clear h
  replace H := Option.bind_eq_some_iff.mp H
  obtain ⟨t241, A30, H⟩ := H
  replace H : (storagebarterref01_PutList.l0 k t241 l1 (l1.length : Int) 0) = some r := H
  have A3 := Aside0.mk A30
  clear A30
  have H' := Aside0.mk H
  clear H
  go_enter Try.func34, Try.ntmps34
  go_wp2_with (first | ((with_reducible refine gate_callee (f := 15) rfl ?_); refine goesL_ (some 10) rfl rfl Try.func15 (by kernel_rfl) rfl #[.string a0, .int .i64 (l1.length : Int)] rfl (by (try simp only [List.map_toArray, List.map_cons, List.map_nil]); first | done | rfl | (simp only [List.length_drop, List.length_take]; rfl)) ?_; (with_reducible refine (storagebarterref01_PutInt.calls k a0 (l1.length : Int) t241 _ A3.out).mono ?_); rintro e w4 ⟨rfl, hb⟩; refine ⟨_, rfl, ?_⟩; have n0_ := Aside0.mk (below_step (by repeat (first | (with_reducible first | exact HB.out | apply below_alloc | apply pw_below_drewN | apply below_drew1) | exact HB.out)) hb); clear HB; have HB := n0_; clear n0_; (try clear hb); (try clear hb2); (try clear hk); (try clear hi)))
  go_loopg [0, 13] k (fun kq v0 v13 w' => ∃ (x0_1 : ByteArray) (x13_1 : Int), v0 = .string x0_1 ∧ v13 = .int .i64 x13_1 ∧ Aside0 (storagebarterref01_PutList.l0 kq x0_1 l1 (l1.length : Int) x13_1 = some r) ∧ Aside0 (kq ≤ k) ∧ Aside0 (Below w.heap.size w w'))
  case atStart => exact ⟨(t241), (0), (by first | rfl | (simp; done) | (simp [*]; done)), (by first | rfl | (simp; done) | (simp [*]; done)), H', ⟨Nat.le_refl _⟩, ⟨by repeat (first | (with_reducible first | exact HB.out | apply below_alloc | apply pw_below_drewN | apply below_drew1) | exact HB.out)⟩⟩
  case round =>
    clear H'
    try clear c1
    try clear p2
    try clear c3
    obtain ⟨x0_1, x13_1, rfl, rfl, HA, HK1, HB⟩ := hrel
    cases gk with
    | zero => exact absurd HA.out (by simp [storagebarterref01_PutList.l0])
    | succ k1 =>
      have H := HA.out
      clear HA
      simp only [storagebarterref01_PutList.l0] at H
      by_cases c5 : x13_1 < (l1.length : Int)
      · rw [if_pos c5] at H
        have c5b0 : decide (x13_1 < (l1.length : Int)) = true := decide_eq_true c5
        clear c5
        by_cases c6 : 0 ≤ x13_1
        · rw [if_pos c6] at H
          have c6b0 : decide (0 ≤ x13_1) = true := decide_eq_true c6
          clear c6
          by_cases c7 : x13_1 < (l1.length : Int)
          · rw [if_pos c7] at H
            have c7b0 : decide (x13_1 < (l1.length : Int)) = true := decide_eq_true c7
            clear c7
            replace H := Option.bind_eq_some_iff.mp H
            obtain ⟨t243, A80, H⟩ := H
            replace H : (storagebarterref01_PutList.l0 k1 t243 l1 (l1.length : Int) (wrap64 (x13_1 + 1))) = some r := H
            have A8 := Aside0.mk A80
            clear A80
            have H' := Aside0.mk H
            clear H
            have p242 : 0 ≤ (x13_1 : Int) := of_decide_eq_true (by first | (with_reducible assumption) | assumption)
            have q242 : x13_1 < (l1.length : Int) := of_decide_eq_true (by first | (with_reducible assumption) | assumption)
            obtain ⟨ad242, e242, hx242_0⟩ := Kd.at_int HR1.out x13_1 p242 q242
            cases e242
            replace hx242_0 := (HB.out.cell (World.block_lt_of_cell? w _ hx242_0)).trans hx242_0
            replace p242 := eq_true p242
            replace q242 := eq_true q242
            go_wp2_with (first | ((with_reducible refine gate_callee (f := 15) rfl ?_); refine goesL_ (some 19) rfl rfl Try.func15 (by kernel_rfl) rfl #[.string x0_1, .int .i64 (rd l1 x13_1)] rfl (by (try simp only [List.map_toArray, List.map_cons, List.map_nil]); first | done | rfl | (simp only [List.length_drop, List.length_take]; rfl)) ?_; (with_reducible refine (storagebarterref01_PutInt.calls k1 x0_1 (rd l1 x13_1) t243 _ A8.out).mono ?_); rintro e w9 ⟨rfl, hb⟩; refine ⟨_, rfl, ?_⟩; have n0_ := Aside0.mk (below_step (by repeat (first | (with_reducible first | exact HB.out | apply below_alloc | apply pw_below_drewN | apply below_drew1) | exact HB.out)) hb); clear HB; have HB := n0_; clear n0_; (try clear hb); (try clear hb2); (try clear hk); (try clear hi)))
            go_roundg k1
            case measure => have := HK1.out; omega
            case rel => exact ⟨(t243), (wrap64 (x13_1 + 1)), (by first | rfl | (simp; done) | (simp [*]; done)), (by first | rfl | (simp; done) | (simp [*]; done)), H', ⟨by have := HK1.out; omega⟩, ⟨by repeat (first | (with_reducible first | exact HB.out | apply below_alloc | apply pw_below_drewN | apply below_drew1) | exact HB.out)⟩⟩
          · rw [if_neg c7] at H
            exact absurd H (by simp)
        · rw [if_neg c6] at H
          exact absurd H (by simp)
      · rw [if_neg c5] at H
        have c5b0 : decide (x13_1 < (l1.length : Int)) = false := decide_eq_false c5
        clear c5
        obtain rfl := Option.some.inj H
        go_wp2
        go_ret
        exact ⟨by first | rfl | (simp [errW_none, errW_some] <;> rfl) | (simp [*, errW_none, errW_some] <;> rfl), by repeat (first | (with_reducible first | exact HB.out | apply below_alloc | apply pw_below_drewN | apply below_drew1) | exact HB.out)⟩

end Go.Proofs.Ytpebhbhdkmpjeaa.Q

/- The printed functions of 'wire' and of its reference, in plain words: numbers, texts and lists. -/
namespace Go.Proofs.Ytpebhbhdkmpjeaa.Gwb
open Go Go.RowKit Go.Proofs.Ytpebhbhdkmpjeaa.Gm Go.Proofs.Ytpebhbhdkmpjeaa.Gwa Go.Proofs.Ytpebhbhdkmpjeaa.Q Go.Proofs.Ytpebhbhdkmpjeaa.Gput Go.Proofs.Ytpebhbhdkmpjeaa.Gputl Go.Proofs.YtpebhbhdkmpjeaaW.PrintWords Go.Proofs.YtpebhbhdkmpjeaaW.PrintLast Go.Proofs.YtpebhbhdkmpjeaaW.PrintMore
set_option linter.unusedVariables false

theorem intAt_B (l : List UInt8) (a : Int) : intAt (B l) a = if a < 0 ∨ a > l.length then (0, 0, 1) else told a (rdU 0 0 (l.drop a.toNat)) := by
  unfold intAt
  rw [B_size, B_data]

/-- The next index lies in the text, and behind; the number fits. -/
theorem intAt_ok {l : List UInt8} {a x n : Int} (h : intAt (B l) a = (x, n, 0)) : 0 ≤ a ∧ a < n ∧ n ≤ l.length ∧ n ≤ a + 10 ∧ -9223372036854775808 ≤ x ∧ x ≤ 9223372036854775807 ∧ (l.drop a.toNat).take (n - a).toNat = putI x ∧ ((putI x).length : Int) = n - a := by
  rw [intAt_B] at h
  split at h
  · simp at h
  rename_i hn
  rcases hr : rdU 0 0 (l.drop a.toNat) with ⟨u, c, e⟩
  rw [hr] at h
  cases e with
  | succ e => simp [told] at h; omega
  | zero =>
    simp only [told, Prod.mk.injEq, and_true] at h
    obtain ⟨rfl, rfl⟩ := h
    obtain ⟨v, hu, hc, ht, hl, -, hv⟩ := rdU_inv _ 0 0 u c (by omega) hr
    simp only [Nat.pow_zero, Nat.mul_one, Nat.zero_add] at hu hc hv
    subst hu
    subst hc
    have h10 := grp_len10 u hv
    have hp := grp_pos u
    have hrg := unzig_range hv
    simp only [List.length_drop] at hl
    have e1 : (a + ((grp u).length : Int) - a).toNat = (grp u).length := by omega
    have e2 : putI (unzig u) = grp u := by unfold putI; rw [zig_unzig]
    rw [e1, e2]
    exact ⟨by omega, by omega, by omega, by omega, hrg.1, hrg.2, ht, by omega⟩

theorem intAt_err {l : List UInt8} {a x n e : Int} (h : intAt (B l) a = (x, n, e)) : (e = 0 ∨ (x = 0 ∧ n = 0)) ∧ 0 ≤ e ∧ e ≤ 3 := by
  rw [intAt_B] at h
  split at h
  · simp at h; omega
  rcases hr : rdU 0 0 (l.drop a.toNat) with ⟨u, c, e'⟩
  rw [hr] at h
  have he : ∀ (l : List UInt8) (k u : Nat), (rdU k u l).2.2 ≤ 3 := by
    intro l
    induction l with
    | nil => intro k u; simp [rdU]
    | cons b l ih =>
      intro k u
      rw [rdU]
      split
      · simp
      · split
        · simp
        · exact ih _ _
  have := he (l.drop a.toNat) 0 0
  rw [hr] at this
  cases e' with
  | zero => simp only [told, Prod.mk.injEq] at h; omega
  | succ e' => simp only [told, Prod.mk.injEq] at h; simp at this; omega

/-- What was put is read back. -/
theorem intAt_put (p q : List UInt8) (n : Int) (hn : -9223372036854775808 ≤ n ∧ n ≤ 9223372036854775807) : intAt (B (p ++ (putI n ++ q))) p.length = (n, ((p.length + (putI n).length : Nat) : Int), 0) := by
  rw [intAt_B, if_neg (by simp; omega)]
  simp only [Int.toNat_natCast, List.drop_left']
  have h := rdU_grp q (zig n) 0 0 (by omega) (by simpa using zig_range hn)
  unfold putI
  rw [h]
  simp [told, unzig_zig]

theorem wf64 {n : Int} (h : -9223372036854775808 ≤ n ∧ n ≤ 9223372036854775807) : (Lit.int .i64 n).wf = true := Go.WalkArith.wf_i64 h

theorem wire_PutInt_eq (l : List UInt8) (n : Int) (hl : l.length + 10 ≤ 140737488355328) (hn : -9223372036854775808 ≤ n ∧ n ≤ 9223372036854775807) : wire_PutInt.f (B l) n = some (B (l ++ putI n)) := by
  unfold wire_PutInt.f
  rw [if_pos ⟨by rw [B_size]; exact hl, wf64 hn⟩]
  rfl

theorem strOfNums_one (n : Nat) : strOfNums [(n : Int)] = B [UInt8.ofNat n] := by
  unfold strOfNums B
  simp

theorem ref_PutInt_l0 : ∀ (u : Nat) (l : List UInt8) (k : Nat), l.length + (grp u).length ≤ 9223372036854775807 → (grp u).length ≤ k → storagebarterref01_PutInt.l0 k (B l) u = some (B (l ++ grp u)) := by
  intro u
  induction u using Nat.strongRecOn with
  | _ u ih =>
  intro l k hl hk
  by_cases h127 : 127 < u
  · rw [grp_more h127] at hl hk ⊢
    simp only [List.length_cons] at hl hk
    obtain ⟨k, rfl⟩ : ∃ m, k = m + 1 := ⟨k - 1, by omega⟩
    simp only [storagebarterref01_PutInt.l0]
    rw [if_pos (by omega), or128, Option.bind_some, strOfNums_one, if_pos (by rw [B_size, B_size]; simp; omega), B_append]
    have := ih (u / 128) (by omega) (l ++ [UInt8.ofNat (u % 128 + 128)]) k (by simp; omega) (by omega)
    rw [show ((u : Int) / 128) = ((u / 128 : Nat) : Int) by omega, this]
    simp
  · rw [grp_last h127] at hl hk ⊢
    simp only [List.length_singleton] at hl hk
    obtain ⟨k, rfl⟩ : ∃ m, k = m + 1 := ⟨k - 1, by omega⟩
    simp only [storagebarterref01_PutInt.l0]
    rw [if_neg (by omega), show ((u : Int) % 256) = (u : Int) by omega, Option.bind_some, strOfNums_one, if_pos (by rw [B_size, B_size]; simp; omega), B_append]

theorem ref_PutInt_eq (l : List UInt8) (n : Int) (k : Nat) (hl : l.length + 10 ≤ 9223372036854775807) (hn : -9223372036854775808 ≤ n ∧ n ≤ 9223372036854775807) (hk : 10 ≤ k) : storagebarterref01_PutInt.f k (B l) n = some (B (l ++ putI n)) := by
  unfold storagebarterref01_PutInt.f
  rw [zig_bits n (wf64 hn)]
  have := putI_len hn
  unfold putI at this ⊢
  exact ref_PutInt_l0 (zig n) l k (by omega) (by omega)

set_option maxHeartbeats 1000000 in
theorem ref_Int_l0 (s : ByteArray) (a : Nat) (hs : s.size ≤ 9223372036854775000) : ∀ (d i u k : Nat), 9 - i = d → i ≤ 9 → a + i ≤ s.size → u < 128 ^ i → 3 * d + 4 ≤ k →
    storagebarterref01_Int.l0 k s a u i = some (told a (rdU i u (s.data.toList.drop (a + i)))) := by
  intro d
  induction d with
  | zero =>
    intro i u k hd hi ha hu hk
    obtain rfl : i = 9 := by omega
    obtain ⟨k, rfl⟩ : ∃ m, k = m + 3 := ⟨k - 3, by omega⟩
    have ew : wrap64 ((a : Int) + ((9 : Nat) : Int)) = ((a + 9 : Nat) : Int) := by rw [w64 (by omega)]; omega
    simp only [storagebarterref01_Int.l0]
    rw [ew]
    by_cases hend : a + 9 = s.size
    · rw [if_pos (by omega), List.drop_of_length_le (by rw [Array.length_toList]; exact Nat.le_of_eq hend.symm)]
      rfl
    · have hlt : a + 9 < s.size := by omega
      have hb := bt_lt s ((a + 9 : Nat) : Int)
      obtain ⟨b, hbn⟩ : ∃ b : Nat, bt s ((a + 9 : Nat) : Int) = b := ⟨(bt s ((a + 9 : Nat) : Int)).toNat, by omega⟩
      rw [if_neg (by omega), if_pos (by omega), if_pos (by omega), drop_at s _ hlt, hbn, rdU, Int.toNat_natCast, u8_ofNat b (by omega), if_pos (by omega)]
      have e7 : IntKind.u64.wrap (wrap64 (7 * ((9 : Nat) : Int))) = wrap64 (7 * ((9 : Nat) : Int)) := by rw [w64 (by omega), wrap_u64]; omega
      by_cases h1 : 1 < b
      · rw [if_pos (show (9 = 9 ∧ 1 < b) ∨ (0 < 9 ∧ b = 0) from .inl ⟨rfl, h1⟩), show decide ((b : Int) > 1) = true by simp; omega]
        simp only [storagebarterref01_Int.j2]
        rfl
      · rw [show decide ((b : Int) > 1) = false by simp; omega]
        simp only [storagebarterref01_Int.j2]
        have hlt2 := mul_lt64 (i := 9) (b := b) (by omega) (fun _ => by omega)
        rw [if_neg (show ¬ (false = true) by simp), e7, if_pos (show 0 ≤ wrap64 (7 * ((9 : Nat) : Int)) by rw [w64 (by omega)]; omega), if_neg (show ¬ ((b : Int) > 127) by omega), shl_part b 9 (by omega) (by omega) (fun _ => by omega), or_part u b 9 (by omega) (by omega) (fun _ => by omega) hu]
        by_cases h0 : b = 0
        · rw [if_pos (show (True ∧ 1 < b) ∨ (0 < 9 ∧ b = 0) from .inr ⟨by omega, h0⟩), if_pos (show (b : Int) = 0 by omega)]
          simp only [storagebarterref01_Int.j3]
          rfl
        · rw [if_neg (show ¬ ((True ∧ 1 < b) ∨ (0 < 9 ∧ b = 0)) by omega), if_neg (show ¬ (b : Int) = 0 by omega), if_pos (show b < 128 by omega)]
          simp only [storagebarterref01_Int.j3]
          rw [if_neg (show ¬ (false = true) by simp), u64_and1 _ (by omega) (by omega), ew, w64 (x := ((a + 9 : Nat) : Int) + 1) (by omega), w64 (x := ((u + b % 128 * 128 ^ 9 : Nat) : Int) / 2) (by omega), Nat.mod_eq_of_lt (show b < 128 by omega)]
          rw [Nat.mod_eq_of_lt (show b < 128 by omega)] at hlt2
          simp only [told]
          unfold unzig
          split
          · rw [w64 (x := -(((u + b * 128 ^ 9 : Nat) : Int) / 2)) (by omega), w64 (by omega), if_neg (by omega)]
            rfl
          · rw [if_pos (by omega)]
            rfl
  | succ d ih =>
    intro i u k hd hi ha hu hk
    obtain ⟨k, rfl⟩ : ∃ m, k = m + 3 := ⟨k - 3, by omega⟩
    have ew : wrap64 ((a : Int) + (i : Int)) = ((a + i : Nat) : Int) := by rw [w64 (by omega)]; omega
    simp only [storagebarterref01_Int.l0]
    rw [ew]
    by_cases hend : a + i = s.size
    · rw [if_pos (by omega), List.drop_of_length_le (by rw [Array.length_toList]; exact Nat.le_of_eq hend.symm)]
      rfl
    · have hlt : a + i < s.size := by omega
      have hb := bt_lt s ((a + i : Nat) : Int)
      obtain ⟨b, hbn⟩ : ∃ b : Nat, bt s ((a + i : Nat) : Int) = b := ⟨(bt s ((a + i : Nat) : Int)).toNat, by omega⟩
      have e7 : IntKind.u64.wrap (wrap64 (7 * (i : Int))) = wrap64 (7 * (i : Int)) := by rw [w64 (by omega), wrap_u64]; omega
      have hlt2 := mul_lt64 (i := i) (b := b) (by omega) (fun _ => by omega)
      rw [if_neg (show ¬ (((a + i : Nat) : Int) ≥ (s.size : Int)) by omega), if_pos (show 0 ≤ ((a + i : Nat) : Int) by omega), if_pos (show ((a + i : Nat) : Int) < (s.size : Int) by omega), drop_at s _ hlt, hbn, rdU, Int.toNat_natCast, u8_ofNat b (by omega), if_neg (show ¬ ((i : Int) = 9) by omega)]
      simp only [storagebarterref01_Int.j2]
      rw [if_neg (show ¬ (false = true) by simp), e7, if_pos (show 0 ≤ wrap64 (7 * (i : Int)) by rw [w64 (by omega)]; omega), shl_part b i (by omega) (by omega) (fun _ => by omega), or_part u b i (by omega) (by omega) (fun _ => by omega) hu]
      by_cases h128 : b < 128
      · rw [if_neg (show ¬ ((b : Int) > 127) by omega), Nat.mod_eq_of_lt h128]
        rw [Nat.mod_eq_of_lt h128] at hlt2
        have key : ∀ z : Bool, z = decide (0 < i ∧ b = 0) → storagebarterref01_Int.j3 (k + 1) a ((u + b * 128 ^ i : Nat) : Int) i z = some (told a (if (i = 9 ∧ 1 < b) ∨ (0 < i ∧ b = 0) then (0, 0, 2) else if b < 128 then (u + b * 128 ^ i, i + 1, 0) else rdU (i + 1) (u + b * 128 ^ i) (s.data.toList.drop (a + i + 1)))) := by
          intro z hz
          simp only [storagebarterref01_Int.j3]
          by_cases hc : 0 < i ∧ b = 0
          · rw [if_pos (show z = true by rw [hz]; simp [hc]), if_pos (show (i = 9 ∧ 1 < b) ∨ (0 < i ∧ b = 0) from .inr hc)]
            rfl
          · rw [if_neg (show ¬ z = true by rw [hz]; simpa using hc), if_neg (show ¬ ((i = 9 ∧ 1 < b) ∨ (0 < i ∧ b = 0)) by rintro (⟨h9, -⟩ | h); omega; exact hc h), if_pos h128, u64_and1 _ (by omega) (by omega), ew, w64 (x := ((a + i : Nat) : Int) + 1) (by omega), w64 (x := ((u + b * 128 ^ i : Nat) : Int) / 2) (by omega)]
            simp only [told]
            unfold unzig
            split
            · rw [w64 (x := -(((u + b * 128 ^ i : Nat) : Int) / 2)) (by omega), w64 (by omega), if_neg (by omega)]
              rfl
            · rw [if_pos (by omega)]
              rfl
        by_cases hb0 : b = 0
        · rw [if_pos (show (b : Int) = 0 by omega)]
          refine key _ ?_
          rw [Bool.eq_iff_iff]; simp; omega
        · rw [if_neg (show ¬ (b : Int) = 0 by omega)]
          refine key _ ?_
          simp; omega
      · rw [if_pos (show ((b : Int) > 127) by omega), if_neg (show ¬ ((i = 9 ∧ 1 < b) ∨ (0 < i ∧ b = 0)) by omega), if_neg h128, w64 (by omega)]
        have h2 : u + b % 128 * 128 ^ i < 128 ^ (i + 1) := by
          have h3 : b % 128 * 128 ^ i ≤ 127 * 128 ^ i := Nat.mul_le_mul_right _ (by omega)
          have h4 : 128 ^ (i + 1) = 128 ^ i * 128 := Nat.pow_succ 128 i
          omega
        have := ih (i + 1) (u + b % 128 * 128 ^ i) (k + 1) (by omega) (by omega) (by omega) h2 (by omega)
        rw [show ((i + 1 : Nat) : Int) = (i : Int) + 1 by omega] at this
        rw [this, Nat.add_assoc]

theorem ref_Int_eq (s : ByteArray) (a : Int) (k : Nat) (hs : s.size ≤ 9223372036854775000) (hk : 34 ≤ k) : storagebarterref01_Int.f k s a = some (intAt s a) := by
  obtain ⟨k, rfl⟩ : ∃ m, k = m + 1 := ⟨k - 1, by omega⟩
  unfold storagebarterref01_Int.f intAt
  by_cases h0 : a < 0
  · rw [if_pos h0, if_pos (.inl h0)]
    simp only [storagebarterref01_Int.j0]
    rfl
  · rw [if_neg h0]
    simp only [storagebarterref01_Int.j0]
    by_cases h1 : a > (s.size : Int)
    · rw [if_pos (by simpa using h1), if_pos (.inr h1)]
    · rw [if_neg (by simpa using h1), if_neg (by omega)]
      obtain ⟨n, rfl⟩ : ∃ n : Nat, a = n := ⟨a.toNat, by omega⟩
      exact ref_Int_l0 s n hs 9 0 0 k rfl (by omega) (by omega) (by simp) (by omega)

/-! ### Texts -/

def countAt (l : List UInt8) (a most : Int) : Int × Int × Int :=
  if (intAt (B l) a).2.2 = 0 then (if (intAt (B l) a).1 < 0 then (0, 0, 2) else if (intAt (B l) a).1 > most then (0, 0, 4) else ((intAt (B l) a).1, (intAt (B l) a).2.1, 0)) else (0, 0, (intAt (B l) a).2.2)

theorem wire_count_eq (l : List UInt8) (a m : Int) (k : Nat) (hs : l.length ≤ 9223372036854775000) (hk : 24 ≤ k) : wire_count.f k (B l) a m = some (countAt l a m) := by
  unfold wire_count.f countAt
  rw [wire_Int_eq (B l) a k (by rw [B_size]; exact hs) hk, Option.bind_some]
  split
  · split
    · rfl
    · split <;> rfl
  · rfl

def textAt (l : List UInt8) (a most : Int) : ByteArray × Int × Int :=
  if (countAt l a most).2.2 = 0 then
    (if (countAt l a most).1 > l.length - (countAt l a most).2.1 then (B [], 0, 3)
     else (B ((l.drop (countAt l a most).2.1.toNat).take (countAt l a most).1.toNat), (countAt l a most).2.1 + (countAt l a most).1, 0))
  else (B [], 0, (countAt l a most).2.2)

theorem countAt_ok {l : List UInt8} {a m x n : Int} (h : countAt l a m = (x, n, 0)) : intAt (B l) a = (x, n, 0) ∧ 0 ≤ x ∧ x ≤ m := by
  unfold countAt at h
  rcases hr : intAt (B l) a with ⟨y, c, e⟩
  rw [hr] at h
  simp only at h
  split at h
  · split at h
    · simp at h
    · split at h
      · simp at h
      · simp only [Prod.mk.injEq, and_true] at h
        obtain ⟨rfl, rfl⟩ := h
        rename_i he _ _
        exact ⟨by rw [he], by omega, by omega⟩
  · simp only [Prod.mk.injEq] at h; omega

theorem take_drop_swap (l : List UInt8) (i n : Nat) : (l.take (i + n)).drop i = (l.drop i).take n := by
  rw [List.drop_take]
  congr 1
  omega

theorem text_core (l : List UInt8) (x n : Int) (hs : l.length ≤ 9223372036854775000) (hx : 0 ≤ x ∧ x ≤ 9223372036854775807) (hn : 0 ≤ n ∧ n ≤ l.length) :
    (if x > (wrap64 (((B l).size : Int) - n)) then (some ((⟨#[]⟩ : ByteArray), (0 : Int), (3 : Int))) else (if 0 ≤ n then (if n ≤ (wrap64 (n + x)) then (if (wrap64 (n + x)) ≤ ((B l).size : Int) then (some ((B l).extract (n : Int).toNat ((wrap64 (n + x)) : Int).toNat, wrap64 (n + x), (0 : Int))) else (none)) else (none)) else (none))) =
    some (if x > l.length - n then (B [], 0, 3) else (B ((l.drop n.toNat).take x.toNat), n + x, 0)) := by
  rw [B_size, w64 (by omega)]
  by_cases h : x > (l.length : Int) - n
  · rw [if_pos h, if_pos h]; rfl
  · rw [if_neg h, if_neg h, w64 (by omega), if_pos (by omega), if_pos (by omega), if_pos (by omega), B_extract, ← take_drop_swap, Int.toNat_add (by omega) (by omega)]

theorem wire_Text_eq (l : List UInt8) (a m : Int) (k : Nat) (hs : l.length ≤ 9223372036854775000) (hk : 24 ≤ k) : wire_Text.f k (B l) a m = some (textAt l a m) := by
  unfold wire_Text.f textAt
  rw [wire_count_eq l a m k hs hk, Option.bind_some]
  rcases hc : countAt l a m with ⟨x, n, e⟩
  simp only
  by_cases he : e = 0
  · subst he
    rw [if_pos rfl, if_pos rfl]
    obtain ⟨h1, h2, h3⟩ := countAt_ok hc
    obtain ⟨h4, h5, h6, h7, h8, h9, -⟩ := intAt_ok h1
    exact text_core l x n hs ⟨h2, h9⟩ ⟨by omega, h6⟩
  · rw [if_neg he, if_neg he]
    rfl

theorem ref_Text_eq (l : List UInt8) (a m : Int) (k : Nat) (hs : l.length ≤ 9223372036854775000) (hk : 34 ≤ k) : storagebarterref01_Text.f k (B l) a m = some (textAt l a m) := by
  unfold storagebarterref01_Text.f textAt countAt
  rw [ref_Int_eq (B l) a k (by rw [B_size]; exact hs) hk, Option.bind_some]
  rcases hc : intAt (B l) a with ⟨x, n, e⟩
  simp only
  by_cases he : e = 0
  · subst he
    obtain ⟨h4, h5, h6, h7, h8, h9, -⟩ := intAt_ok hc
    simp only [if_true]
    by_cases h0 : x < 0
    · rw [if_pos h0]; simp only [if_pos h0]; rfl
    · rw [if_neg h0]; simp only [if_neg h0]
      by_cases h1 : x > m
      · rw [if_pos h1]; simp only [if_pos h1]; rfl
      · rw [if_neg h1]; simp only [if_neg h1, if_true]
        exact text_core l x n hs ⟨by omega, h9⟩ ⟨by omega, h6⟩
  · rw [if_neg he]
    simp only [if_neg he]
    rfl

theorem wire_PutText_eq (l t : List UInt8) (hl : l.length + 10 ≤ 140737488355328) (ht : t.length ≤ 140737488355328) : wire_PutText.f (B l) (B t) = some (B (l ++ (putI t.length ++ t))) := by
  unfold wire_PutText.f
  have hr : -9223372036854775808 ≤ (t.length : Int) ∧ (t.length : Int) ≤ 9223372036854775807 := by omega
  have := putI_len hr
  rw [B_size, wire_PutInt_eq l _ hl hr, Option.bind_some, if_pos (by rw [B_size, List.length_append]; omega), B_append, List.append_assoc]

theorem ref_PutText_eq (l t : List UInt8) (k : Nat) (hl : l.length ≤ 4611686018427387903) (ht : t.length ≤ 4611686018427387000) (hk : 10 ≤ k) : storagebarterref01_PutText.f k (B l) (B t) = some (B (l ++ (putI t.length ++ t))) := by
  unfold storagebarterref01_PutText.f
  have hr : -9223372036854775808 ≤ (t.length : Int) ∧ (t.length : Int) ≤ 9223372036854775807 := by omega
  have := putI_len hr
  rw [B_size, ref_PutInt_eq l _ k (by omega) hr hk, Option.bind_some, if_pos (by rw [B_size, List.length_append]; omega), B_append, List.append_assoc]

end Go.Proofs.Ytpebhbhdkmpjeaa.Gwb

namespace Go.Proofs.Ytpebhbhdkmpjeaa.Q
open Go.RowKit Go.Proofs.YtpebhbhdkmpjeaaW.PrintWords Go.Proofs.YtpebhbhdkmpjeaaW.PrintLast Go.Proofs.YtpebhbhdkmpjeaaW.PrintMore Go.Proofs.Ytpebhbhdkmpjeaa.Gput Go.Proofs.Ytpebhbhdkmpjeaa.Gputl
attribute [local go_sem] max2_int min2_int max_two min_two max_three min_three max_four min_four   -- for this text's walks alone
set_option linter.unusedVariables false
set_option linter.unusedSimpArgs false

/-! ### seal_Convergent: function 28 -/
def seal_Convergent.f (k : Nat) (a0 : ByteArray) : Option (Int) := (digest_Sum.f k a0).bind fun t181 => (some (wrap64 (2 * t181)))
theorem seal_Convergent.mono : ∀ a0 k, LeO (seal_Convergent.f k a0) (seal_Convergent.f (k + 1) a0) := by
  intro a0 k
  unfold seal_Convergent.f
  repeat' first
      | (with_reducible exact digest_Sum.mono _ _)
      | (with_reducible exact LeO.refl _)
      | (with_reducible exact LeO.none _)
      | (with_reducible refine LeO.ite ?_ ?_)
      | (with_reducible refine LeO.bind ?_ (fun _ => ?_))
      | exact digest_Sum.mono _ _
      | exact LeO.none _
      | refine LeO.ite ?_ ?_
      | refine LeO.bind ?_ (fun _ => ?_)
set_option maxHeartbeats 8000000 in
set_option maxRecDepth 100000 in
theorem seal_Convergent.calls (k : Nat) (a0 : ByteArray) (r : Int) (w : World) (h : seal_Convergent.f k a0 = some r) :
    Calls Try.prog 28 #[.string a0] w fun e w' => e = .returned (.int .i64 r) ∧ Drawn0 w w' := by
  have H : ((digest_Sum.f k a0).bind fun t181 => (some (wrap64 (2 * t181)))) = some r := h
  clear h
  replace H := Option.bind_eq_some_iff.mp H
  obtain ⟨t181, A20, H⟩ := H
  replace H : (some (wrap64 (2 * t181))) = some r := H
  have A2 := Aside0.mk A20
  clear A20
  obtain rfl := Option.some.inj H
  go_enter Try.func28, Try.ntmps28
  go_wp2_with (first | ((with_reducible refine gate_callee (f := 30) rfl ?_); refine goesL_ (some 4) rfl rfl Try.func30 (by kernel_rfl) rfl #[.string a0] rfl (by (try simp only [List.map_toArray, List.map_cons, List.map_nil]); first | done | rfl | (simp only [List.length_drop, List.length_take]; rfl)) ?_; (with_reducible refine (digest_Sum.calls k a0 t181 _ A2.out).mono ?_); rintro e w' ⟨rfl, ⟨nd, rfl⟩⟩; refine ⟨_, rfl, ?_⟩))
  go_ret
  exact ⟨by first | rfl | (simp; done) | (simp [*]; done), by repeat (first | exact Drawn0.refl _ | apply Drawn0.step)⟩

end Go.Proofs.Ytpebhbhdkmpjeaa.Q

/- The printed functions of 'seal' and of its reference, in plain words: keys, locks, sealing and opening. -/
namespace Go.Proofs.Ytpebhbhdkmpjeaa.Gsa
open Go Go.RowKit Go.Proofs.Ytpebhbhdkmpjeaa.Gm Go.Proofs.Ytpebhbhdkmpjeaa.Gwa Go.Proofs.Ytpebhbhdkmpjeaa.Gwb Go.Proofs.Ytpebhbhdkmpjeaa.Q Go.Proofs.Ytpebhbhdkmpjeaa.Gput Go.Proofs.YtpebhbhdkmpjeaaW.PrintWords Go.Proofs.YtpebhbhdkmpjeaaW.PrintLast Go.Proofs.YtpebhbhdkmpjeaaW.PrintMore
set_option linter.unusedVariables false

theorem tmod_mod (a m : Int) (hm : 0 < m) : (Int.tmod a m + m) % m = a % m := by
  have h := Int.mul_tdiv_add_tmod a m
  have e : Int.tmod a m + m = a + m * (1 - Int.tdiv a m) := by rw [Int.mul_sub]; omega
  rw [e, Int.add_mul_emod_self_left]

theorem tmod_range (a m : Int) (hm : 0 < m) : -m < Int.tmod a m ∧ Int.tmod a m < m := by
  refine ⟨?_, Int.tmod_lt_of_pos a hm⟩
  rcases Int.le_total 0 a with h | h
  · have := Int.tmod_nonneg m h; omega
  · have h1 := Int.tmod_nonneg m (show 0 ≤ -a by omega)
    have h2 := Int.tmod_lt_of_pos (-a) hm
    rw [Int.neg_tmod] at h1 h2
    omega

theorem mod_eq (a m : Int) (hm : 0 < m) (hb : m ≤ 4294967296) : storagebartermake_Mod.f a m = some (a % m) := by
  unfold storagebartermake_Mod.f
  have hr := tmod_range a m hm
  rw [if_neg (by omega), w64 (by omega), Int.tmod_eq_emod_of_nonneg (by omega), tmod_mod a m hm]

def isKey (k : Int) : Prop := 0 ≤ k ∧ k < 4294967294
instance (k : Int) : Decidable (isKey k) := by unfold isKey; exact inferInstance

theorem valid_eq (k : Int) : seal_key_valid.f k = some (decide (isKey k)) := by
  unfold seal_key_valid.f
  by_cases h : k ≥ 0
  · rw [if_pos h, decide_eq_decide.2 (show k < 4294967294 ↔ isKey k from ⟨fun z => ⟨h, z⟩, fun z => z.2⟩)]
  · rw [if_neg h, decide_eq_false (show ¬ isKey k from fun z => h z.1)]

theorem lock_eq (k : Int) (h : isKey k) : seal_key_lock.f k = some (3 * k + 1) := by
  unfold isKey at h
  unfold seal_key_lock.f
  rw [w64 (x := 3 * k) (by omega), w64 (by omega)]

theorem private_eq (k : Int) : seal_Private.f k = some (if 0 ≤ k ∧ k < 2147483647 then (2 * k + 1, 0) else (0, 1)) := by
  unfold seal_Private.f
  by_cases h : k < 0
  · rw [if_pos h, if_neg (by omega)]
  · rw [if_neg h]
    by_cases h2 : k ≥ 2147483647
    · rw [if_pos h2, if_neg (by omega)]
    · rw [if_neg h2, if_pos (by omega), w64 (x := 2 * k) (by omega), w64 (by omega)]

theorem Lock_eq (k : Int) : seal_Lock.f k = some (if isKey k then (3 * k + 1, 0) else (0, 1)) := by
  unfold seal_Lock.f
  rw [valid_eq, Option.bind_some]
  by_cases h : isKey k
  · rw [if_pos (by simpa using h), lock_eq k h, Option.bind_some, if_pos h]
  · rw [if_neg (by simpa using h), if_neg h]

theorem Seal_eq (l : List UInt8) (k : Int) : seal_Seal.f (B l) k = some (if isKey k then (if l.length > 16384 then (0, B [], 4) else (3 * k + 1, B l, 0)) else (0, B [], 1)) := by
  unfold seal_Seal.f
  rw [valid_eq, Option.bind_some]
  by_cases h : isKey k
  · rw [if_pos (by simpa using h), if_pos h, B_size]
    by_cases h2 : l.length > 16384
    · rw [if_pos (by omega), if_pos h2]; rfl
    · rw [if_neg (by omega), if_neg h2, lock_eq k h, Option.bind_some]
  · rw [if_neg (by simpa using h), if_neg h]; rfl

def isLock (n : Int) : Prop := 0 < n ∧ n % 3 = 1 ∧ isKey (n / 3)
instance (n : Int) : Decidable (isLock n) := by unfold isLock; exact inferInstance

theorem isLock_of (k : Int) (h : isKey k) : isLock (3 * k + 1) := by
  unfold isKey at h
  unfold isLock isKey
  omega

theorem keyOf_eq (n : Int) (hn : -9223372036854775808 ≤ n ∧ n ≤ 9223372036854775807) : ∃ x, seal_keyOf.f n = some (x, decide (isLock n)) := by
  unfold seal_keyOf.f
  by_cases h : n > 0
  · have e1 : Int.tmod n 3 = n % 3 := Int.tmod_eq_emod_of_nonneg (by omega)
    have e2 : Int.tdiv n 3 = n / 3 := Int.tdiv_eq_ediv_of_nonneg (by omega)
    rw [if_pos h, e1, e2, w64 (x := n / 3) (by omega)]
    by_cases h3 : n % 3 = 1
    · rw [if_pos h3, valid_eq, Option.bind_some]
      refine ⟨n / 3, ?_⟩
      have : (isLock n) ↔ isKey (n / 3) := ⟨fun z => z.2.2, fun z => ⟨h, h3, z⟩⟩
      rw [decide_eq_decide.2 this]
    · rw [if_neg h3]
      exact ⟨n / 3, by have : ¬ isLock n := fun z => h3 z.2.1
                       simp [this]⟩
  · rw [if_neg h]
    exact ⟨_, by have : ¬ isLock n := fun z => h z.1
                 simp [this]; rfl⟩

def isSealed (n : Int) (l : List UInt8) : Prop := isLock n ∧ l.length ≤ 16384
instance (n : Int) (l : List UInt8) : Decidable (isSealed n l) := by unfold isSealed; exact inferInstance

theorem sealed_eq (n : Int) (l : List UInt8) (hn : -9223372036854775808 ≤ n ∧ n ≤ 9223372036854775807) : seal_valid.f n (B l) = some (decide (isSealed n l)) := by
  unfold seal_valid.f
  obtain ⟨x, hx⟩ := keyOf_eq n hn
  rw [hx, Option.bind_some]
  unfold isSealed
  by_cases h : isLock n
  · rw [if_pos (by simpa using h), B_size]; simp [h]; omega
  · rw [if_neg (by simpa using h)]; simp [h]

theorem Open_eq (n : Int) (l : List UInt8) (k : Int) (hn : -9223372036854775808 ≤ n ∧ n ≤ 9223372036854775807) : seal_Open.f n (B l) k = some (if isSealed n l then (if isKey k then (if n = 3 * k + 1 then (B l, 0) else (B [], 9)) else (B [], 1)) else (B [], 2)) := by
  unfold seal_Open.f
  rw [sealed_eq n l hn, Option.bind_some]
  by_cases h : isSealed n l
  · rw [if_pos (by simpa using h), if_pos h, valid_eq, Option.bind_some]
    by_cases h2 : isKey k
    · rw [if_pos (by simpa using h2), if_pos h2, lock_eq k h2, Option.bind_some]
      split <;> rfl
    · rw [if_neg (by simpa using h2), if_neg h2]; rfl
  · rw [if_neg (by simpa using h), if_neg h]; rfl

theorem law03_sane : storagebarterlaw03_sane.f = some true := by
  unfold storagebarterlaw03_sane.f
  rw [private_eq, Option.bind_some]
  simp only [show (if (0 : Int) ≤ 1 ∧ (1 : Int) < 2147483647 then ((2 * 1 + 1 : Int), (0 : Int)) else (0, 1)) = (3, 0) by decide]
  rw [Lock_eq, Option.bind_some, show (⟨#[120]⟩ : ByteArray) = B [120] from rfl, Seal_eq, Option.bind_some]
  have k3 : isKey 3 := by decide
  have k5 : isKey 5 := by decide
  simp only [if_pos k3]
  rw [if_neg (by simp)]
  simp only
  rw [Open_eq _ _ _ (by omega), Option.bind_some, Open_eq _ _ _ (by omega), Option.bind_some]
  have h10 : isSealed (3 * 3 + 1) [120] := by decide
  simp only [if_pos h10, if_pos k3, if_pos k5, if_true]
  rw [if_pos (show (3 * 3 + 1 : Int) = 10 by decide), if_pos (by rw [B_toList])]
  rfl

/-! ### Digests -/

/-- The digest of bytes, from a value on. -/
def dg : Int → List UInt8 → Int
  | d, [] => d
  | d, b :: l => dg ((d * 1000003 + b.toNat + 1) % 2147483647) l

theorem dg_range : ∀ (l : List UInt8) (d : Int), 0 ≤ d ∧ d < 2147483647 → 0 ≤ dg d l ∧ dg d l < 2147483647
  | [], d, h => h
  | b :: l, d, h => dg_range l _ (by omega)

theorem dg_append (d : Int) (l m : List UInt8) : dg d (l ++ m) = dg (dg d l) m := by
  induction l generalizing d with
  | nil => rfl
  | cons b l ih => simp only [List.cons_append, dg]; exact ih _

theorem sum_step (s : ByteArray) (d : Int) (i : Nat) (hd : 0 ≤ d ∧ d < 2147483647) (hi : i < s.size) : Int.tmod (wrap64 ((wrap64 ((wrap64 (d * 1000003)) + (wrap64 (bt s i)))) + 1)) 2147483647 = (d * 1000003 + (s.data.toList[i]'(by simpa using hi)).toNat + 1) % 2147483647 := by
  have hb := bt_lt s i
  have hbt : bt s i = (s.data.toList[i]'(by simpa using hi)).toNat := by
    have h := Gwa.bt_at s i hi
    rw [List.drop_eq_getElem_cons (by simpa using hi)] at h
    exact h
  rw [w64 (x := d * 1000003) (by omega), w64 (x := bt s i) (by omega), w64 (x := d * 1000003 + bt s i) (by omega), w64 (by omega), Int.tmod_eq_emod_of_nonneg (by omega), hbt]

theorem Sum_l0 (s : ByteArray) (hs : s.size ≤ 9223372036854775000) : ∀ (n i k : Nat) (d : Int), s.size - i = n → i ≤ s.size → 0 ≤ d ∧ d < 2147483647 → n < k → digest_Sum.l0 k s d s.size i = some (dg d (s.data.toList.drop i)) := by
  intro n
  induction n with
  | zero =>
    intro i k d hn hi hd hk
    obtain ⟨k, rfl⟩ : ∃ m, k = m + 1 := ⟨k - 1, by omega⟩
    simp only [digest_Sum.l0]
    rw [if_neg (by omega), List.drop_of_length_le (by rw [Array.length_toList]; show s.size ≤ i; omega)]
    rfl
  | succ n ih =>
    intro i k d hn hi hd hk
    obtain ⟨k, rfl⟩ : ∃ m, k = m + 1 := ⟨k - 1, by omega⟩
    have hlt : i < s.size := by omega
    simp only [digest_Sum.l0]
    rw [if_pos (by omega), if_pos (by omega), if_pos (by omega), sum_step s d i hd hlt, w64 (by omega), show ((i : Int) + 1) = ((i + 1 : Nat) : Int) by omega, ih (i + 1) k _ (by omega) (by omega) (by omega) (by omega), List.drop_eq_getElem_cons (show i < s.data.toList.length by simpa using hlt)]
    rfl

theorem Sum_eq (l : List UInt8) (k : Nat) (hl : l.length ≤ 9223372036854775000) (hk : l.length < k) : digest_Sum.f k (B l) = some (dg 1 l) := by
  unfold digest_Sum.f
  exact Sum_l0 (B l) (by rw [B_size]; exact hl) l.length 0 k 1 (by rw [B_size]; omega) (by omega) (by omega) hk

theorem Convergent_eq (l : List UInt8) (k : Nat) (hl : l.length ≤ 9223372036854775000) (hk : l.length < k) : seal_Convergent.f k (B l) = some (2 * dg 1 l) := by
  unfold seal_Convergent.f
  have := dg_range l 1 (by omega)
  rw [Sum_eq l k hl hk, Option.bind_some, w64 (by omega)]

end Go.Proofs.Ytpebhbhdkmpjeaa.Gsa

namespace Go.Proofs.Ytpebhbhdkmpjeaa.Q
open Go.RowKit Go.Proofs.YtpebhbhdkmpjeaaW.PrintWords Go.Proofs.YtpebhbhdkmpjeaaW.PrintLast Go.Proofs.YtpebhbhdkmpjeaaW.PrintMore Go.Proofs.Ytpebhbhdkmpjeaa.Gput Go.Proofs.Ytpebhbhdkmpjeaa.Gputl
attribute [local go_sem] max2_int min2_int max_two min_two max_three min_three max_four min_four   -- for this text's walks alone
set_option linter.unusedVariables false
set_option linter.unusedSimpArgs false

/-! ### wire_List: function 37 -/
def wire_List.l0 : Nat → ByteArray → Int → List Int → Int → Int → Option (List Int × Int × Int)
  | 0, _, _, _, _, _ => none
  | k + 1, x0, x1, x11, x26, x27 => if x27 < x26 then ((wire_Int.f k x0 x1).bind fun bt256 => (if bt256.2.2 = 0 then (if x11.length < 17592186044416 then (wire_List.l0 k x0 bt256.2.1 (x11 ++ [bt256.1]) x26 (wrap64 (x27 + 1))) else (none)) else (some (([] : List Int), 0, bt256.2.2)))) else (some (x11, x1, 0))
def wire_List.f (k : Nat) (a0 : ByteArray) (a1 : Int) (a2 : Int) : Option (List Int × Int × Int) := (wire_count.f k a0 a1 a2).bind fun bt253 => (if bt253.2.2 = 0 then (wire_List.l0 k a0 bt253.2.1 ([] : List Int) bt253.1 0) else (some (([] : List Int), 0, bt253.2.2)))
theorem wire_List.mono_l : ∀ k, (∀ y0 y1 y2 y3 y4, LeO (wire_List.l0 k y0 y1 y2 y3 y4) (wire_List.l0 (k + 1) y0 y1 y2 y3 y4))
  | 0 => fun _ _ _ _ _ r h => by simp [wire_List.l0] at h
  | k + 1 => by
    have ih0 := wire_List.mono_l k
    · intro y0 y1 y2 y3 y4
      unfold wire_List.l0
      repeat' first
      | (with_reducible exact ih0 _ _ _ _ _)
      | (with_reducible exact wire_Int.mono _ _ _)
      | (with_reducible exact wire_count.mono _ _ _ _)
      | (with_reducible exact LeO.refl _)
      | (with_reducible exact LeO.none _)
      | (with_reducible refine LeO.ite ?_ ?_)
      | (with_reducible refine LeO.bind ?_ (fun _ => ?_))
      | exact ih0 _ _ _ _ _
      | exact wire_Int.mono _ _ _
      | exact wire_count.mono _ _ _ _
      | exact LeO.none _
      | refine LeO.ite ?_ ?_
      | refine LeO.bind ?_ (fun _ => ?_)
theorem wire_List.mono : ∀ a0 a1 a2 k, LeO (wire_List.f k a0 a1 a2) (wire_List.f (k + 1) a0 a1 a2) := by
  intro a0 a1 a2 k
  have ih0 := wire_List.mono_l k
  unfold wire_List.f
  repeat' first
      | (with_reducible exact ih0 _ _ _ _ _)
      | (with_reducible exact wire_Int.mono _ _ _)
      | (with_reducible exact wire_count.mono _ _ _ _)
      | (with_reducible exact LeO.refl _)
      | (with_reducible exact LeO.none _)
      | (with_reducible refine LeO.ite ?_ ?_)
      | (with_reducible refine LeO.bind ?_ (fun _ => ?_))
      | exact ih0 _ _ _ _ _
      | exact wire_Int.mono _ _ _
      | exact wire_count.mono _ _ _ _
      | exact LeO.none _
      | refine LeO.ite ?_ ?_
      | refine LeO.bind ?_ (fun _ => ?_)
set_option maxHeartbeats 8000000 in
set_option maxRecDepth 100000 in
theorem wire_List.calls (k : Nat) (a0 : ByteArray) (a1 : Int) (a2 : Int) (r1 : List Int) (r2 : Int) (r3 : Int) (w : World) (h : wire_List.f k a0 a1 a2 = some (r1, r2, r3)) :
    Calls Try.prog 37 #[.string a0, .int .i64 a1, .int .i64 a2] w fun e w' => ∃ v0_ : Value, e = .returned (.tuple #[v0_, .int .i64 r2, .int .i64 r3]) ∧ Kd.R (Kd.int .i64) 3 w' w.heap.size (fun _ => True) v0_ r1 ∧ Below w.heap.size w w' := by
  have HB := Aside0.mk (Below.refl w.heap.size w)
  have H : ((wire_count.f k a0 a1 a2).bind fun bt253 => (if bt253.2.2 = 0 then (wire_List.l0 k a0 bt253.2.1 ([] : List Int) bt253.1 0) else (some (([] : List Int), 0, bt253.2.2)))) = some (r1, r2, r3) := h
  clear h
  replace H := Option.bind_eq_some_iff.mp H
  obtain ⟨⟨t253, t254, t255⟩, A40, H⟩ := H
  replace H : (if t255 = 0 then (wire_List.l0 k a0 t254 ([] : List Int) t253 0) else (some (([] : List Int), 0, t255))) = some (r1, r2, r3) := H
  have A4 := Aside0.mk A40
  clear A40
  by_cases c5 : t255 = 0
  · rw [if_pos c5] at H
    have c5b0 : (t255 == 0) = true := beq_iff_eq.mpr c5
    have c5b1 : (t255 != 0) = false := bne_eq_false_iff_eq.mpr c5
    clear c5
    have H' := Aside0.mk H
    clear H
    go_enter Try.func37, Try.ntmps37
    go_wp2_with (first | ((with_reducible refine gate_callee (f := 53) rfl ?_); refine goesL_ (some 19) rfl rfl Try.func53 (by kernel_rfl) rfl #[.string a0, .int .i64 a1, .int .i64 a2] rfl (by (try simp only [List.map_toArray, List.map_cons, List.map_nil]); first | done | rfl | (simp only [List.length_drop, List.length_take]; rfl)) ?_; (with_reducible refine (wire_count.calls k a0 a1 a2 t253 t254 t255 _ A4.out).mono ?_); rintro e w' ⟨rfl, ⟨nd, rfl⟩⟩; refine ⟨_, rfl, ?_⟩))
    go_loopg [1, 11, 27] k (fun kq v1 v11 v27 w' => ∃ (x1_1 : Int) (x11_1 : List Int) (x27_1 : Int), v1 = .int .i64 x1_1 ∧ v27 = .int .i64 x27_1 ∧ Aside0 (wire_List.l0 kq a0 x1_1 x11_1 t253 x27_1 = some (r1, r2, r3)) ∧ Aside0 (kq ≤ k) ∧ Aside0 (Kd.R (Kd.int .i64) 3 w' w.heap.size (fun _ => True) v11 x11_1) ∧ Aside0 (Below w.heap.size w w'))
    case atStart => exact ⟨(t254), (([] : List Int)), (0), (by first | rfl | (simp; done) | (simp [*]; done)), (by first | rfl | (simp; done) | (simp [*]; done)), H', ⟨Nat.le_refl _⟩, ⟨by first | exact Kd.R_nil _ _ _ _ _ | exact Kd.N_nil _ _ _ _ _ | exact Kd.V_nil _ _ _ _ _ | exact Kd.Q_nil _ _ _ _ _ | exact Kd.S_nil _ _ _ _ _⟩, ⟨by repeat (first | (with_reducible first | exact HB.out | apply below_alloc | apply pw_below_drewN | apply below_drew1) | exact HB.out)⟩⟩
    case round =>
      clear H'
      try clear p2
      try clear c3
      try clear c5
      try clear c5b0
      try clear c5b1
      obtain ⟨x1_1, x11_1, x27_1, rfl, rfl, HA, HK1, HO_11, HB⟩ := hrel
      cases gk with
      | zero => exact absurd HA.out (by simp [wire_List.l0])
      | succ k1 =>
        have H := HA.out
        clear HA
        simp only [wire_List.l0] at H
        by_cases c6 : x27_1 < t253
        · rw [if_pos c6] at H
          have c6b0 : decide (x27_1 < t253) = true := decide_eq_true c6
          clear c6
          replace H := Option.bind_eq_some_iff.mp H
          obtain ⟨⟨t256, t257, t258⟩, A70, H⟩ := H
          replace H : (if t258 = 0 then (if x11_1.length < 17592186044416 then (wire_List.l0 k1 a0 t257 (x11_1 ++ [t256]) t253 (wrap64 (x27_1 + 1))) else (none)) else (some (([] : List Int), 0, t258))) = some (r1, r2, r3) := H
          have A7 := Aside0.mk A70
          clear A70
          by_cases c8 : t258 = 0
          · rw [if_pos c8] at H
            have c8b0 : (t258 == 0) = true := beq_iff_eq.mpr c8
            have c8b1 : (t258 != 0) = false := bne_eq_false_iff_eq.mpr c8
            clear c8
            by_cases c9 : x11_1.length < 17592186044416
            · rw [if_pos c9] at H
              have LMc9 := Aside0.mk c9
              clear c9
              obtain ⟨y259, hy259⟩ : ∃ y_ : List Int, y_ = (x11_1 ++ [t256]) := ⟨_, rfl⟩
              replace H : (wire_List.l0 k1 a0 t257 y259 t253 (wrap64 (x27_1 + 1))) = some (r1, r2, r3) := by first | (rw [hy259]; with_reducible exact H) | (have H2_ := (Option.bind_some _ _).symm.trans H; rw [hy259]; with_reducible exact H2_) | (have H2_ := (Option.bind_some _ _).symm.trans H; with_reducible exact H2_) | with_reducible exact H | (rw [hy259]; exact H) | exact H
              have Ny259 := Aside0.mk hy259
              clear hy259
              have H' := Aside0.mk H
              clear H
              go_wp2_with (first | ((with_reducible refine gate_callee (f := 16) rfl ?_); refine goesL_ (some 32) rfl rfl Try.func16 (by kernel_rfl) rfl #[.string a0, .int .i64 x1_1] rfl (by (try simp only [List.map_toArray, List.map_cons, List.map_nil]); first | done | rfl | (simp only [List.length_drop, List.length_take]; rfl)) ?_; (with_reducible refine (wire_Int.calls k1 a0 x1_1 t256 t257 t258 _ A7.out).mono ?_); rintro e w' ⟨rfl, ⟨nd, rfl⟩⟩; refine ⟨_, rfl, ?_⟩) | ((with_reducible refine gate_builtin (b := .append) (xs := #[.tmp 39, .tmp 41]) rfl ?_); at_builtin; refine Kd.R_append (Kd.int .i64) (w0 := w) w.heap.size rfl (.tmp 39) (.tmp 41) 27 3 (.int .i64 0) 8 rfl Try.underlying27 info3 rfl (by decide) (by omega) u11 x11_1 t256 [.int .i64 t256] (fun _ => True) (fun _ => False) rfl rfl ?aP (fun _ hk => hk.elim) ?aF ?aO ?aB ?aS ?aL ?_; (case aP => exact rfl); (case aB => exact (by repeat (first | (with_reducible first | exact HB.out | apply below_alloc | apply pw_below_drewN | apply below_drew1) | exact HB.out))); (case aF => exact (fun _ _ => trivial)); (case aO => exact (by (with_reducible repeat (first | apply Kd.R_alloc | apply Kd.R_drewN | apply Kd.R_drew)); exact HO_11.out)); (case aS => exact (below_size (by repeat (first | (with_reducible first | exact HB.out | apply below_alloc | apply pw_below_drewN | apply below_drew1) | exact HB.out)))); (case aL => have := LMc9.out; omega); intro v260 w10 ho hb hg hat; rw [← Ny259.out] at ho; have n0_ := Aside0.mk (hb); have n1_ := Aside0.mk (ho); clear HB; clear HO_11; have HB := n0_; have HO261 := n1_; clear n0_ n1_; clear ho hb hg hat))
              go_roundg k1
              case measure => have := HK1.out; omega
              case rel => exact ⟨(t257), (y259), (wrap64 (x27_1 + 1)), (by first | rfl | (simp; done) | (simp [*]; done)), (by first | rfl | (simp; done) | (simp [*]; done)), H', ⟨by have := HK1.out; omega⟩, ⟨by (with_reducible repeat (first | apply Kd.R_alloc | apply Kd.R_drewN | apply Kd.R_drew)); exact HO261.out⟩, ⟨by repeat (first | (with_reducible first | exact HB.out | apply below_alloc | apply pw_below_drewN | apply below_drew1) | exact HB.out)⟩⟩
            · rw [if_neg c9] at H
              exact absurd H (by simp)
          · rw [if_neg c8] at H
            have c8b0 : (t258 == 0) = false := beq_eq_false_iff_ne.mpr c8
            have c8b1 : (t258 != 0) = true := bne_iff_ne.mpr c8
            simp only [Option.some.injEq, Prod.mk.injEq] at H
            obtain ⟨rfl, rfl, rfl⟩ := H
            go_wp2_with (first | ((with_reducible refine gate_callee (f := 16) rfl ?_); refine goesL_ (some 32) rfl rfl Try.func16 (by kernel_rfl) rfl #[.string a0, .int .i64 x1_1] rfl (by (try simp only [List.map_toArray, List.map_cons, List.map_nil]); first | done | rfl | (simp only [List.length_drop, List.length_take]; rfl)) ?_; (with_reducible refine (wire_Int.calls k1 a0 x1_1 t256 t257 t258 _ A7.out).mono ?_); rintro e w' ⟨rfl, ⟨nd, rfl⟩⟩; refine ⟨_, rfl, ?_⟩))
            go_ret3
            exact ⟨_, by first | rfl | (simp [errW_none, errW_some] <;> rfl) | (simp [*, errW_none, errW_some] <;> rfl), by first | exact Kd.R_nil _ _ _ _ _ | exact Kd.N_nil _ _ _ _ _ | exact Kd.V_nil _ _ _ _ _ | exact Kd.Q_nil _ _ _ _ _ | exact Kd.S_nil _ _ _ _ _, by repeat (first | (with_reducible first | exact HB.out | apply below_alloc | apply pw_below_drewN | apply below_drew1) | exact HB.out)⟩
        · rw [if_neg c6] at H
          have c6b0 : decide (x27_1 < t253) = false := decide_eq_false c6
          clear c6
          simp only [Option.some.injEq, Prod.mk.injEq] at H
          obtain ⟨rfl, rfl, rfl⟩ := H
          go_wp2
          go_ret3
          exact ⟨_, by first | rfl | (simp [errW_none, errW_some] <;> rfl) | (simp [*, errW_none, errW_some] <;> rfl), by (with_reducible repeat (first | apply Kd.R_alloc | apply Kd.R_drewN | apply Kd.R_drew)); exact HO_11.out, by repeat (first | (with_reducible first | exact HB.out | apply below_alloc | apply pw_below_drewN | apply below_drew1) | exact HB.out)⟩
  · rw [if_neg c5] at H
    have c5b0 : (t255 == 0) = false := beq_eq_false_iff_ne.mpr c5
    have c5b1 : (t255 != 0) = true := bne_iff_ne.mpr c5
    simp only [Option.some.injEq, Prod.mk.injEq] at H
    obtain ⟨rfl, rfl, rfl⟩ := H
    go_enter Try.func37, Try.ntmps37
    go_wp2_with (first | ((with_reducible refine gate_callee (f := 53) rfl ?_); refine goesL_ (some 19) rfl rfl Try.func53 (by kernel_rfl) rfl #[.string a0, .int .i64 a1, .int .i64 a2] rfl (by (try simp only [List.map_toArray, List.map_cons, List.map_nil]); first | done | rfl | (simp only [List.length_drop, List.length_take]; rfl)) ?_; (with_reducible refine (wire_count.calls k a0 a1 a2 t253 t254 t255 _ A4.out).mono ?_); rintro e w' ⟨rfl, ⟨nd, rfl⟩⟩; refine ⟨_, rfl, ?_⟩))
    go_ret3
    exact ⟨_, by first | rfl | (simp [errW_none, errW_some] <;> rfl) | (simp [*, errW_none, errW_some] <;> rfl), by first | exact Kd.R_nil _ _ _ _ _ | exact Kd.N_nil _ _ _ _ _ | exact Kd.V_nil _ _ _ _ _ | exact Kd.Q_nil _ _ _ _ _ | exact Kd.S_nil _ _ _ _ _, by repeat (first | (with_reducible first | exact HB.out | apply below_alloc | apply pw_below_drewN | apply below_drew1) | exact HB.out)⟩

end Go.Proofs.Ytpebhbhdkmpjeaa.Q

namespace Go.Proofs.Ytpebhbhdkmpjeaa.Q
open Go.RowKit Go.Proofs.YtpebhbhdkmpjeaaW.PrintWords Go.Proofs.YtpebhbhdkmpjeaaW.PrintLast Go.Proofs.YtpebhbhdkmpjeaaW.PrintMore Go.Proofs.Ytpebhbhdkmpjeaa.Gput Go.Proofs.Ytpebhbhdkmpjeaa.Gputl
attribute [local go_sem] max2_int min2_int max_two min_two max_three min_three max_four min_four   -- for this text's walks alone
set_option linter.unusedVariables false
set_option linter.unusedSimpArgs false

/-! ### storagebarterref01_List: function 38 -/
def storagebarterref01_List.l0 : Nat → ByteArray → Int → Int → List Int → Option (List Int × Int × Int)
  | 0, _, _, _, _ => none
  | k + 1, x0, x9, x10, x12 => if (x12.length : Int) < x9 then ((storagebarterref01_Int.f k x0 x10).bind fun bt265 => (if bt265.2.2 = 0 then (if x12.length < 17592186044416 then (storagebarterref01_List.l0 k x0 x9 bt265.2.1 (x12 ++ [bt265.1])) else (none)) else (some (([] : List Int), 0, bt265.2.2)))) else (some (x12, x10, 0))
def storagebarterref01_List.f (k : Nat) (a0 : ByteArray) (a1 : Int) (a2 : Int) : Option (List Int × Int × Int) := (storagebarterref01_Int.f k a0 a1).bind fun bt262 => (if bt262.2.2 = 0 then (if bt262.1 < 0 then (some (([] : List Int), 0, 2)) else (if bt262.1 > a2 then (some (([] : List Int), 0, 4)) else (storagebarterref01_List.l0 k a0 bt262.1 bt262.2.1 ([] : List Int)))) else (some (([] : List Int), 0, bt262.2.2)))
theorem storagebarterref01_List.mono_l : ∀ k, (∀ y0 y1 y2 y3, LeO (storagebarterref01_List.l0 k y0 y1 y2 y3) (storagebarterref01_List.l0 (k + 1) y0 y1 y2 y3))
  | 0 => fun _ _ _ _ r h => by simp [storagebarterref01_List.l0] at h
  | k + 1 => by
    have ih0 := storagebarterref01_List.mono_l k
    · intro y0 y1 y2 y3
      unfold storagebarterref01_List.l0
      repeat' first
      | (with_reducible exact ih0 _ _ _ _)
      | (with_reducible exact storagebarterref01_Int.mono _ _ _)
      | (with_reducible exact LeO.refl _)
      | (with_reducible exact LeO.none _)
      | (with_reducible refine LeO.ite ?_ ?_)
      | (with_reducible refine LeO.bind ?_ (fun _ => ?_))
      | exact ih0 _ _ _ _
      | exact storagebarterref01_Int.mono _ _ _
      | exact LeO.none _
      | refine LeO.ite ?_ ?_
      | refine LeO.bind ?_ (fun _ => ?_)
theorem storagebarterref01_List.mono : ∀ a0 a1 a2 k, LeO (storagebarterref01_List.f k a0 a1 a2) (storagebarterref01_List.f (k + 1) a0 a1 a2) := by
  intro a0 a1 a2 k
  have ih0 := storagebarterref01_List.mono_l k
  unfold storagebarterref01_List.f
  repeat' first
      | (with_reducible exact ih0 _ _ _ _)
      | (with_reducible exact storagebarterref01_Int.mono _ _ _)
      | (with_reducible exact LeO.refl _)
      | (with_reducible exact LeO.none _)
      | (with_reducible refine LeO.ite ?_ ?_)
      | (with_reducible refine LeO.bind ?_ (fun _ => ?_))
      | exact ih0 _ _ _ _
      | exact storagebarterref01_Int.mono _ _ _
      | exact LeO.none _
      | refine LeO.ite ?_ ?_
      | refine LeO.bind ?_ (fun _ => ?_)
set_option maxHeartbeats 8000000 in
set_option maxRecDepth 100000 in
theorem storagebarterref01_List.calls (k : Nat) (a0 : ByteArray) (a1 : Int) (a2 : Int) (r1 : List Int) (r2 : Int) (r3 : Int) (w : World) (h : storagebarterref01_List.f k a0 a1 a2 = some (r1, r2, r3)) :
    Calls Try.prog 38 #[.string a0, .int .i64 a1, .int .i64 a2] w fun e w' => ∃ v0_ : Value, e = .returned (.tuple #[v0_, .int .i64 r2, .int .i64 r3]) ∧ Kd.R (Kd.int .i64) 3 w' w.heap.size (fun _ => True) v0_ r1 ∧ Below w.heap.size w w' := by
  have HB := Aside0.mk (Below.refl w.heap.size w)
  have H : ((storagebarterref01_Int.f k a0 a1).bind fun bt262 => (if bt262.2.2 = 0 then (if bt262.1 < 0 then (some (([] : List Int), 0, 2)) else (if bt262.1 > a2 then (some (([] : List Int), 0, 4)) else (storagebarterref01_List.l0 k a0 bt262.1 bt262.2.1 ([] : List Int)))) else (some (([] : List Int), 0, bt262.2.2)))) = some (r1, r2, r3) := h
  clear h
  replace H := Option.bind_eq_some_iff.mp H
  obtain ⟨⟨t262, t263, t264⟩, A40, H⟩ := H
  replace H : (if t264 = 0 then (if t262 < 0 then (some (([] : List Int), 0, 2)) else (if t262 > a2 then (some (([] : List Int), 0, 4)) else (storagebarterref01_List.l0 k a0 t262 t263 ([] : List Int)))) else (some (([] : List Int), 0, t264))) = some (r1, r2, r3) := H
  have A4 := Aside0.mk A40
  clear A40
  by_cases c5 : t264 = 0
  · rw [if_pos c5] at H
    have c5b0 : (t264 == 0) = true := beq_iff_eq.mpr c5
    have c5b1 : (t264 != 0) = false := bne_eq_false_iff_eq.mpr c5
    clear c5
    by_cases c6 : t262 < 0
    · rw [if_pos c6] at H
      have c6b0 : decide (t262 < 0) = true := decide_eq_true c6
      clear c6
      simp only [Option.some.injEq, Prod.mk.injEq] at H
      obtain ⟨rfl, rfl, rfl⟩ := H
      go_enter Try.func38, Try.ntmps38
      go_wp2_with (first | ((with_reducible refine gate_callee (f := 17) rfl ?_); refine goesL_ (some 19) rfl rfl Try.func17 (by kernel_rfl) rfl #[.string a0, .int .i64 a1] rfl (by (try simp only [List.map_toArray, List.map_cons, List.map_nil]); first | done | rfl | (simp only [List.length_drop, List.length_take]; rfl)) ?_; (with_reducible refine (storagebarterref01_Int.calls k a0 a1 t262 t263 t264 _ A4.out).mono ?_); rintro e w' ⟨rfl, ⟨nd, rfl⟩⟩; refine ⟨_, rfl, ?_⟩))
      go_ret3
      exact ⟨_, by first | rfl | (simp [errW_none, errW_some] <;> rfl) | (simp [*, errW_none, errW_some] <;> rfl), by first | exact Kd.R_nil _ _ _ _ _ | exact Kd.N_nil _ _ _ _ _ | exact Kd.V_nil _ _ _ _ _ | exact Kd.Q_nil _ _ _ _ _ | exact Kd.S_nil _ _ _ _ _, by repeat (first | (with_reducible first | exact HB.out | apply below_alloc | apply pw_below_drewN | apply below_drew1) | exact HB.out)⟩
    · rw [if_neg c6] at H
      have c6b0 : decide (t262 < 0) = false := decide_eq_false c6
      clear c6
      by_cases c7 : t262 > a2
      · rw [if_pos c7] at H
        have c7b0 : decide (a2 < t262) = true := decide_eq_true c7
        clear c7
        simp only [Option.some.injEq, Prod.mk.injEq] at H
        obtain ⟨rfl, rfl, rfl⟩ := H
        go_enter Try.func38, Try.ntmps38
        go_wp2_with (first | ((with_reducible refine gate_callee (f := 17) rfl ?_); refine goesL_ (some 19) rfl rfl Try.func17 (by kernel_rfl) rfl #[.string a0, .int .i64 a1] rfl (by (try simp only [List.map_toArray, List.map_cons, List.map_nil]); first | done | rfl | (simp only [List.length_drop, List.length_take]; rfl)) ?_; (with_reducible refine (storagebarterref01_Int.calls k a0 a1 t262 t263 t264 _ A4.out).mono ?_); rintro e w' ⟨rfl, ⟨nd, rfl⟩⟩; refine ⟨_, rfl, ?_⟩))
        go_ret3
        exact ⟨_, by first | rfl | (simp [errW_none, errW_some] <;> rfl) | (simp [*, errW_none, errW_some] <;> rfl), by first | exact Kd.R_nil _ _ _ _ _ | exact Kd.N_nil _ _ _ _ _ | exact Kd.V_nil _ _ _ _ _ | exact Kd.Q_nil _ _ _ _ _ | exact Kd.S_nil _ _ _ _ _, by repeat (first | (with_reducible first | exact HB.out | apply below_alloc | apply pw_below_drewN | apply below_drew1) | exact HB.out)⟩
      · rw [if_neg c7] at H
        have c7b0 : decide (a2 < t262) = false := decide_eq_false c7
        clear c7
        have H' := Aside0.mk H
        clear H
        go_enter Try.func38, Try.ntmps38
        go_wp2_with (first | ((with_reducible refine gate_callee (f := 17) rfl ?_); refine goesL_ (some 19) rfl rfl Try.func17 (by kernel_rfl) rfl #[.string a0, .int .i64 a1] rfl (by (try simp only [List.map_toArray, List.map_cons, List.map_nil]); first | done | rfl | (simp only [List.length_drop, List.length_take]; rfl)) ?_; (with_reducible refine (storagebarterref01_Int.calls k a0 a1 t262 t263 t264 _ A4.out).mono ?_); rintro e w' ⟨rfl, ⟨nd, rfl⟩⟩; refine ⟨_, rfl, ?_⟩))
        go_loopg [10, 12] k (fun kq v10 v12 w' => ∃ (x10_1 : Int) (x12_1 : List Int), v10 = .int .i64 x10_1 ∧ Aside0 (storagebarterref01_List.l0 kq a0 t262 x10_1 x12_1 = some (r1, r2, r3)) ∧ Aside0 (kq ≤ k) ∧ Aside0 (Kd.R (Kd.int .i64) 3 w' w.heap.size (fun _ => True) v12 x12_1) ∧ Aside0 (Below w.heap.size w w'))
        case atStart => exact ⟨(t263), (([] : List Int)), (by first | rfl | (simp; done) | (simp [*]; done)), H', ⟨Nat.le_refl _⟩, ⟨by first | exact Kd.R_nil _ _ _ _ _ | exact Kd.N_nil _ _ _ _ _ | exact Kd.V_nil _ _ _ _ _ | exact Kd.Q_nil _ _ _ _ _ | exact Kd.S_nil _ _ _ _ _⟩, ⟨by repeat (first | (with_reducible first | exact HB.out | apply below_alloc | apply pw_below_drewN | apply below_drew1) | exact HB.out)⟩⟩
        case round =>
          clear H'
          try clear c1
          try clear p2
          try clear c3
          try clear c5
          try clear c5b0
          try clear c5b1
          try clear c6
          try clear c6b0
          try clear c7
          try clear c7b0
          obtain ⟨x10_1, x12_1, rfl, HA, HK1, HO_12, HB⟩ := hrel
          cases gk with
          | zero => exact absurd HA.out (by simp [storagebarterref01_List.l0])
          | succ k1 =>
            have H := HA.out
            clear HA
            simp only [storagebarterref01_List.l0] at H
            by_cases c8 : (x12_1.length : Int) < t262
            · rw [if_pos c8] at H
              have c8b0 : decide ((x12_1.length : Int) < t262) = true := decide_eq_true c8
              clear c8
              replace H := Option.bind_eq_some_iff.mp H
              obtain ⟨⟨t265, t266, t267⟩, A90, H⟩ := H
              replace H : (if t267 = 0 then (if x12_1.length < 17592186044416 then (storagebarterref01_List.l0 k1 a0 t262 t266 (x12_1 ++ [t265])) else (none)) else (some (([] : List Int), 0, t267))) = some (r1, r2, r3) := H
              have A9 := Aside0.mk A90
              clear A90
              by_cases c10 : t267 = 0
              · rw [if_pos c10] at H
                have c10b0 : (t267 == 0) = true := beq_iff_eq.mpr c10
                have c10b1 : (t267 != 0) = false := bne_eq_false_iff_eq.mpr c10
                clear c10
                by_cases c11 : x12_1.length < 17592186044416
                · rw [if_pos c11] at H
                  have LMc11 := Aside0.mk c11
                  clear c11
                  obtain ⟨y268, hy268⟩ : ∃ y_ : List Int, y_ = (x12_1 ++ [t265]) := ⟨_, rfl⟩
                  replace H : (storagebarterref01_List.l0 k1 a0 t262 t266 y268) = some (r1, r2, r3) := by first | (rw [hy268]; with_reducible exact H) | (have H2_ := (Option.bind_some _ _).symm.trans H; rw [hy268]; with_reducible exact H2_) | (have H2_ := (Option.bind_some _ _).symm.trans H; with_reducible exact H2_) | with_reducible exact H | (rw [hy268]; exact H) | exact H
                  have Ny268 := Aside0.mk hy268
                  clear hy268
                  have H' := Aside0.mk H
                  clear H
                  obtain ⟨Ao12, co12, eo12⟩ := Kd.R_slice HO_12.out
                  subst eo12
                  go_wp2_with (first | ((with_reducible refine gate_callee (f := 17) rfl ?_); refine goesL_ (some 38) rfl rfl Try.func17 (by kernel_rfl) rfl #[.string a0, .int .i64 x10_1] rfl (by (try simp only [List.map_toArray, List.map_cons, List.map_nil]); first | done | rfl | (simp only [List.length_drop, List.length_take]; rfl)) ?_; (with_reducible refine (storagebarterref01_Int.calls k1 a0 x10_1 t265 t266 t267 _ A9.out).mono ?_); rintro e w' ⟨rfl, ⟨nd, rfl⟩⟩; refine ⟨_, rfl, ?_⟩) | ((with_reducible refine gate_builtin (b := .append) (xs := #[.tmp 45, .tmp 47]) rfl ?_); at_builtin; refine Kd.R_append (Kd.int .i64) (w0 := w) w.heap.size rfl (.tmp 45) (.tmp 47) 27 3 (.int .i64 0) 8 rfl Try.underlying27 info3 rfl (by decide) (by omega) (.slice Ao12 x12_1.length co12) x12_1 t265 [.int .i64 t265] (fun _ => True) (fun _ => False) rfl rfl ?aP (fun _ hk => hk.elim) ?aF ?aO ?aB ?aS ?aL ?_; (case aP => exact rfl); (case aB => exact (by repeat (first | (with_reducible first | exact HB.out | apply below_alloc | apply pw_below_drewN | apply below_drew1) | exact HB.out))); (case aF => exact (fun _ _ => trivial)); (case aO => exact (by (with_reducible repeat (first | apply Kd.R_alloc | apply Kd.R_drewN | apply Kd.R_drew)); exact HO_12.out)); (case aS => exact (below_size (by repeat (first | (with_reducible first | exact HB.out | apply below_alloc | apply pw_below_drewN | apply below_drew1) | exact HB.out)))); (case aL => have := LMc11.out; omega); intro v269 w13 ho hb hg hat; rw [← Ny268.out] at ho; have n0_ := Aside0.mk (hb); have n1_ := Aside0.mk (ho); clear HB; clear HO_12; have HB := n0_; have HO270 := n1_; clear n0_ n1_; clear ho hb hg hat))
                  go_roundg k1
                  case measure => have := HK1.out; omega
                  case rel => exact ⟨(t266), (y268), (by first | rfl | (simp; done) | (simp [*]; done)), H', ⟨by have := HK1.out; omega⟩, ⟨by (with_reducible repeat (first | apply Kd.R_alloc | apply Kd.R_drewN | apply Kd.R_drew)); exact HO270.out⟩, ⟨by repeat (first | (with_reducible first | exact HB.out | apply below_alloc | apply pw_below_drewN | apply below_drew1) | exact HB.out)⟩⟩
                · rw [if_neg c11] at H
                  exact absurd H (by simp)
              · rw [if_neg c10] at H
                have c10b0 : (t267 == 0) = false := beq_eq_false_iff_ne.mpr c10
                have c10b1 : (t267 != 0) = true := bne_iff_ne.mpr c10
                simp only [Option.some.injEq, Prod.mk.injEq] at H
                obtain ⟨rfl, rfl, rfl⟩ := H
                obtain ⟨Ao14, co14, eo14⟩ := Kd.R_slice HO_12.out
                subst eo14
                go_wp2_with (first | ((with_reducible refine gate_callee (f := 17) rfl ?_); refine goesL_ (some 38) rfl rfl Try.func17 (by kernel_rfl) rfl #[.string a0, .int .i64 x10_1] rfl (by (try simp only [List.map_toArray, List.map_cons, List.map_nil]); first | done | rfl | (simp only [List.length_drop, List.length_take]; rfl)) ?_; (with_reducible refine (storagebarterref01_Int.calls k1 a0 x10_1 t265 t266 t267 _ A9.out).mono ?_); rintro e w' ⟨rfl, ⟨nd, rfl⟩⟩; refine ⟨_, rfl, ?_⟩))
                go_ret3
                exact ⟨_, by first | rfl | (simp [errW_none, errW_some] <;> rfl) | (simp [*, errW_none, errW_some] <;> rfl), by first | exact Kd.R_nil _ _ _ _ _ | exact Kd.N_nil _ _ _ _ _ | exact Kd.V_nil _ _ _ _ _ | exact Kd.Q_nil _ _ _ _ _ | exact Kd.S_nil _ _ _ _ _, by repeat (first | (with_reducible first | exact HB.out | apply below_alloc | apply pw_below_drewN | apply below_drew1) | exact HB.out)⟩
            · rw [if_neg c8] at H
              have c8b0 : decide ((x12_1.length : Int) < t262) = false := decide_eq_false c8
              clear c8
              simp only [Option.some.injEq, Prod.mk.injEq] at H
              obtain ⟨rfl, rfl, rfl⟩ := H
              obtain ⟨Ao15, co15, eo15⟩ := Kd.R_slice HO_12.out
              subst eo15
              go_wp2
              go_ret3
              exact ⟨_, by first | rfl | (simp [errW_none, errW_some] <;> rfl) | (simp [*, errW_none, errW_some] <;> rfl), by (with_reducible repeat (first | apply Kd.R_alloc | apply Kd.R_drewN | apply Kd.R_drew)); exact HO_12.out, by repeat (first | (with_reducible first | exact HB.out | apply below_alloc | apply pw_below_drewN | apply below_drew1) | exact HB.out)⟩
  · rw [if_neg c5] at H
    have c5b0 : (t264 == 0) = false := beq_eq_false_iff_ne.mpr c5
    have c5b1 : (t264 != 0) = true := bne_iff_ne.mpr c5
    simp only [Option.some.injEq, Prod.mk.injEq] at H
    obtain ⟨rfl, rfl, rfl⟩ := H
    go_enter Try.func38, Try.ntmps38
    go_wp2_with (first | ((with_reducible refine gate_callee (f := 17) rfl ?_); refine goesL_ (some 19) rfl rfl Try.func17 (by kernel_rfl) rfl #[.string a0, .int .i64 a1] rfl (by (try simp only [List.map_toArray, List.map_cons, List.map_nil]); first | done | rfl | (simp only [List.length_drop, List.length_take]; rfl)) ?_; (with_reducible refine (storagebarterref01_Int.calls k a0 a1 t262 t263 t264 _ A4.out).mono ?_); rintro e w' ⟨rfl, ⟨nd, rfl⟩⟩; refine ⟨_, rfl, ?_⟩))
    go_ret3
    exact ⟨_, by first | rfl | (simp [errW_none, errW_some] <;> rfl) | (simp [*, errW_none, errW_some] <;> rfl), by first | exact Kd.R_nil _ _ _ _ _ | exact Kd.N_nil _ _ _ _ _ | exact Kd.V_nil _ _ _ _ _ | exact Kd.Q_nil _ _ _ _ _ | exact Kd.S_nil _ _ _ _ _, by repeat (first | (with_reducible first | exact HB.out | apply below_alloc | apply pw_below_drewN | apply below_drew1) | exact HB.out)⟩

end Go.Proofs.Ytpebhbhdkmpjeaa.Q

namespace Go.Proofs.Ytpebhbhdkmpjeaa.Q
open Go.RowKit Go.Proofs.YtpebhbhdkmpjeaaW.PrintWords Go.Proofs.YtpebhbhdkmpjeaaW.PrintLast Go.Proofs.YtpebhbhdkmpjeaaW.PrintMore Go.Proofs.Ytpebhbhdkmpjeaa.Gput Go.Proofs.Ytpebhbhdkmpjeaa.Gputl
attribute [local go_sem] max2_int min2_int max_two min_two max_three min_three max_four min_four   -- for this text's walks alone
set_option linter.unusedVariables false
set_option linter.unusedSimpArgs false

/-! ### storagebarterref01_Same: function 39 -/
def storagebarterref01_Same.l0 : Nat → List Int → List Int → Int → Int → Option (Bool)
  | 0, _, _, _, _ => none
  | k + 1, x0, x1, x12, x13 => if x13 < x12 then (if 0 ≤ x13 then (if x13 < (x0.length : Int) then (if x13 < (x1.length : Int) then (if (rd x0 x13) = (rd x1 x13) then (storagebarterref01_Same.l0 k x0 x1 x12 (wrap64 (x13 + 1))) else (some false)) else (none)) else (none)) else (none)) else (some true)
def storagebarterref01_Same.f (k : Nat) (l0 : List Int) (l1 : List Int) : Option (Bool) := if (l0.length : Int) = (l1.length : Int) then (storagebarterref01_Same.l0 k l0 l1 (l0.length : Int) 0) else (some false)
theorem storagebarterref01_Same.mono_l : ∀ k, (∀ y0 y1 y2 y3, LeO (storagebarterref01_Same.l0 k y0 y1 y2 y3) (storagebarterref01_Same.l0 (k + 1) y0 y1 y2 y3))
  | 0 => fun _ _ _ _ r h => by simp [storagebarterref01_Same.l0] at h
  | k + 1 => by
    have ih0 := storagebarterref01_Same.mono_l k
    · intro y0 y1 y2 y3
      unfold storagebarterref01_Same.l0
      repeat' first
      | (with_reducible exact ih0 _ _ _ _)
      | (with_reducible exact LeO.refl _)
      | (with_reducible exact LeO.none _)
      | (with_reducible refine LeO.ite ?_ ?_)
      | (with_reducible refine LeO.bind ?_ (fun _ => ?_))
      | exact ih0 _ _ _ _
      | exact LeO.none _
      | refine LeO.ite ?_ ?_
      | refine LeO.bind ?_ (fun _ => ?_)
theorem storagebarterref01_Same.mono : ∀ a0 a1 k, LeO (storagebarterref01_Same.f k a0 a1) (storagebarterref01_Same.f (k + 1) a0 a1) := by
  intro a0 a1 k
  have ih0 := storagebarterref01_Same.mono_l k
  unfold storagebarterref01_Same.f
  repeat' first
      | (with_reducible exact ih0 _ _ _ _)
      | (with_reducible exact LeO.refl _)
      | (with_reducible exact LeO.none _)
      | (with_reducible refine LeO.ite ?_ ?_)
      | (with_reducible refine LeO.bind ?_ (fun _ => ?_))
      | exact ih0 _ _ _ _
      | exact LeO.none _
      | refine LeO.ite ?_ ?_
      | refine LeO.bind ?_ (fun _ => ?_)
set_option maxHeartbeats 8000000 in
set_option maxRecDepth 100000 in
theorem storagebarterref01_Same.calls (k : Nat) (A0 : Option Addr) (c0 : Nat) (l0 : List Int) (A1 : Option Addr) (c1 : Nat) (l1 : List Int) (r : Bool) (w : World) (hr0 : Kd.C (Kd.int .i64) w A0 l0.length l0) (hc0 : l0.length ≤ c0) (hr1 : Kd.C (Kd.int .i64) w A1 l1.length l1) (hc1 : l1.length ≤ c1) (h : storagebarterref01_Same.f k l0 l1 = some r) :
    Calls Try.prog 39 #[.slice A0 l0.length c0, .slice A1 l1.length c1] w fun e w' => e = .returned (.bool r) ∧ Drawn0 w w' := by
  have HR0 := Aside0.mk hr0
  have HC0 := Aside0.mk hc0
  clear hr0 hc0
  have HR1 := Aside0.mk hr1
  have HC1 := Aside0.mk hc1
  clear hr1 hc1
  have H : (if (l0.length : Int) = (l1.length : Int) then (storagebarterref01_Same.l0 k l0 l1 (l0.length : Int) 0) else (some false)) = some r := h
  clear h
  by_cases c3 : (l0.length : Int) = (l1.length : Int)
  · rw [if_pos c3] at H
    have c3b0 : ((l0.length : Int) == (l1.length : Int)) = true := beq_iff_eq.mpr c3
    have c3b1 : ((l0.length : Int) != (l1.length : Int)) = false := bne_eq_false_iff_eq.mpr c3
    have c3b2 : (l0.length == l1.length) = true := by first | simpa using c3 | (simp at c3 ⊢; omega)
    clear c3
    have H' := Aside0.mk H
    clear H
    go_enter Try.func39, Try.ntmps39
    go_wp2
    repeat (go_quiet (fail); try go_wp2)
    go_loopg [13] k (fun kq v13 w' => ∃ (x13_1 : Int), v13 = .int .i64 x13_1 ∧ Aside0 (storagebarterref01_Same.l0 kq l0 l1 (l0.length : Int) x13_1 = some r) ∧ Aside0 (kq ≤ k) ∧ Drawn0 w w')
    case atStart => exact ⟨(0), (by first | rfl | (simp; done) | (simp [*]; done)), H', ⟨Nat.le_refl _⟩, by repeat (first | exact Drawn0.refl _ | apply Drawn0.step)⟩
    case round =>
      clear H'
      try clear c1
      try clear p2
      try clear c3
      try clear c3b0
      try clear c3b1
      try clear c3b2
      obtain ⟨x13_1, rfl, HA, HK1, ⟨m1, rfl⟩⟩ := hrel
      cases gk with
      | zero => exact absurd HA.out (by simp [storagebarterref01_Same.l0])
      | succ k1 =>
        have H := HA.out
        clear HA
        simp only [storagebarterref01_Same.l0] at H
        by_cases c4 : x13_1 < (l0.length : Int)
        · rw [if_pos c4] at H
          have c4b0 : decide (x13_1 < (l0.length : Int)) = true := decide_eq_true c4
          clear c4
          by_cases c5 : 0 ≤ x13_1
          · rw [if_pos c5] at H
            have c5b0 : decide (0 ≤ x13_1) = true := decide_eq_true c5
            clear c5
            by_cases c6 : x13_1 < (l0.length : Int)
            · rw [if_pos c6] at H
              have c6b0 : decide (x13_1 < (l0.length : Int)) = true := decide_eq_true c6
              clear c6
              by_cases c7 : x13_1 < (l1.length : Int)
              · rw [if_pos c7] at H
                have c7b0 : decide (x13_1 < (l1.length : Int)) = true := decide_eq_true c7
                clear c7
                by_cases c8 : (rd l0 x13_1) = (rd l1 x13_1)
                · rw [if_pos c8] at H
                  have c8b0 : ((rd l0 x13_1) == (rd l1 x13_1)) = true := beq_iff_eq.mpr c8
                  have c8b1 : ((rd l0 x13_1) != (rd l1 x13_1)) = false := bne_eq_false_iff_eq.mpr c8
                  clear c8
                  have H' := Aside0.mk H
                  clear H
                  have p271 : 0 ≤ (x13_1 : Int) := of_decide_eq_true (by first | (with_reducible assumption) | assumption)
                  have q271 : x13_1 < (l0.length : Int) := of_decide_eq_true (by first | (with_reducible assumption) | assumption)
                  obtain ⟨ad271, e271, hx271_0⟩ := Kd.at_int HR0.out x13_1 p271 q271
                  cases e271
                  replace p271 := eq_true p271
                  replace q271 := eq_true q271
                  have p272 : 0 ≤ (x13_1 : Int) := of_decide_eq_true (by first | (with_reducible assumption) | assumption)
                  have q272 : x13_1 < (l1.length : Int) := of_decide_eq_true (by first | (with_reducible assumption) | assumption)
                  obtain ⟨ad272, e272, hx272_0⟩ := Kd.at_int HR1.out x13_1 p272 q272
                  cases e272
                  replace p272 := eq_true p272
                  replace q272 := eq_true q272
                  go_wp2
                  repeat (go_quiet (fail); try go_wp2)
                  go_roundg k1
                  case measure => have := HK1.out; omega
                  case rel => exact ⟨(wrap64 (x13_1 + 1)), (by first | rfl | (simp; done) | (simp [*]; done)), H', ⟨by have := HK1.out; omega⟩, by repeat (first | exact Drawn0.refl _ | apply Drawn0.step)⟩
                · rw [if_neg c8] at H
                  have c8b0 : ((rd l0 x13_1) == (rd l1 x13_1)) = false := beq_eq_false_iff_ne.mpr c8
                  have c8b1 : ((rd l0 x13_1) != (rd l1 x13_1)) = true := bne_iff_ne.mpr c8
                  obtain rfl := Option.some.inj H
                  have p271 : 0 ≤ (x13_1 : Int) := of_decide_eq_true (by first | (with_reducible assumption) | assumption)
                  have q271 : x13_1 < (l0.length : Int) := of_decide_eq_true (by first | (with_reducible assumption) | assumption)
                  obtain ⟨ad271, e271, hx271_0⟩ := Kd.at_int HR0.out x13_1 p271 q271
                  cases e271
                  replace p271 := eq_true p271
                  replace q271 := eq_true q271
                  have p272 : 0 ≤ (x13_1 : Int) := of_decide_eq_true (by first | (with_reducible assumption) | assumption)
                  have q272 : x13_1 < (l1.length : Int) := of_decide_eq_true (by first | (with_reducible assumption) | assumption)
                  obtain ⟨ad272, e272, hx272_0⟩ := Kd.at_int HR1.out x13_1 p272 q272
                  cases e272
                  replace p272 := eq_true p272
                  replace q272 := eq_true q272
                  go_wp2
                  repeat (go_quiet (fail); try go_wp2)
                  go_ret
                  exact ⟨by first | rfl | (simp; done) | (simp [*]; done), by repeat (first | exact Drawn0.refl _ | apply Drawn0.step)⟩
              · rw [if_neg c7] at H
                exact absurd H (by simp)
            · rw [if_neg c6] at H
              exact absurd H (by simp)
          · rw [if_neg c5] at H
            exact absurd H (by simp)
        · rw [if_neg c4] at H
          have c4b0 : decide (x13_1 < (l0.length : Int)) = false := decide_eq_false c4
          clear c4
          obtain rfl := Option.some.inj H
          go_wp2
          repeat (go_quiet (fail); try go_wp2)
          go_ret
          exact ⟨by first | rfl | (simp; done) | (simp [*]; done), by repeat (first | exact Drawn0.refl _ | apply Drawn0.step)⟩
  · rw [if_neg c3] at H
    have c3b0 : ((l0.length : Int) == (l1.length : Int)) = false := beq_eq_false_iff_ne.mpr c3
    have c3b1 : ((l0.length : Int) != (l1.length : Int)) = true := bne_iff_ne.mpr c3
    have c3b2 : (l0.length == l1.length) = false := by first | simpa using c3 | (simp at c3 ⊢; omega)
    obtain rfl := Option.some.inj H
    go_enter Try.func39, Try.ntmps39
    go_wp2
    repeat (go_quiet (fail); try go_wp2)
    go_ret
    exact ⟨by first | rfl | (simp; done) | (simp [*]; done), by repeat (first | exact Drawn0.refl _ | apply Drawn0.step)⟩

end Go.Proofs.Ytpebhbhdkmpjeaa.Q

/- The printed functions of 'wire' and of its reference, in plain words: lists. -/
namespace Go.Proofs.Ytpebhbhdkmpjeaa.Gwd
open Go Go.RowKit Go.Proofs.Ytpebhbhdkmpjeaa.Gm Go.Proofs.Ytpebhbhdkmpjeaa.Gwa Go.Proofs.Ytpebhbhdkmpjeaa.Gwb Go.Proofs.Ytpebhbhdkmpjeaa.Q Go.Proofs.Ytpebhbhdkmpjeaa.Gput Go.Proofs.Ytpebhbhdkmpjeaa.Gputl Go.Proofs.YtpebhbhdkmpjeaaW.PrintWords Go.Proofs.YtpebhbhdkmpjeaaW.PrintLast Go.Proofs.YtpebhbhdkmpjeaaW.PrintMore
set_option linter.unusedVariables false

/-- So many numbers are read from an index on. -/
def rdN (l : List UInt8) : Nat → Int → List Int → List Int × Int × Int
  | 0, a, acc => (acc, a, 0)
  | n + 1, a, acc => if (intAt (B l) a).2.2 = 0 then rdN l n (intAt (B l) a).2.1 (acc ++ [(intAt (B l) a).1]) else ([], 0, (intAt (B l) a).2.2)

def listAt (l : List UInt8) (a most : Int) : List Int × Int × Int :=
  if (countAt l a most).2.2 = 0 then rdN l (countAt l a most).1.toNat (countAt l a most).2.1 [] else ([], 0, (countAt l a most).2.2)

theorem wire_List_l0 (l : List UInt8) (hs : l.length ≤ 17592186044416) : ∀ (d : Nat) (k : Nat) (a : Int) (acc : List Int) (n i : Nat), (l.length : Int) - a = d → 0 ≤ a → (acc.length : Int) ≤ a → i + d + 30 < 9223372036854775807 → i ≤ n → n ≤ 9223372036854775807 → d + 30 ≤ k →
    wire_List.l0 k (B l) a acc n i = some (rdN l (n - i) a acc) := by
  intro d
  induction d using Nat.strongRecOn with
  | _ d ih =>
  intro k a acc n i hd ha hacc hbig hin hn hk
  obtain ⟨k, rfl⟩ : ∃ m, k = m + 1 := ⟨k - 1, by omega⟩
  simp only [wire_List.l0]
  by_cases h : i < n
  · rw [if_pos (by omega), wire_Int_eq (B l) a k (by rw [B_size]; omega) (by omega), Option.bind_some]
    obtain ⟨m, hm⟩ : ∃ m, n - i = m + 1 := ⟨n - i - 1, by omega⟩
    rw [hm, rdN]
    rcases hi : intAt (B l) a with ⟨x, c, e⟩
    simp only
    by_cases he : e = 0
    · subst he
      obtain ⟨h1, h2, h3, -⟩ := intAt_ok hi
      rw [if_pos rfl, if_pos rfl, if_pos (by omega)]
      have := ih (l.length - c).toNat (by omega) k c (acc ++ [x]) n (i + 1) (by omega) (by omega) (by simp; omega) (by omega) (by omega) hn (by omega)
      rw [w64 (by omega), show ((i : Int) + 1) = ((i + 1 : Nat) : Int) by omega, this, show n - (i + 1) = m by omega]
    · rw [if_neg he, if_neg he]
  · rw [if_neg (by omega), show n - i = 0 by omega]
    rfl

theorem wire_List_eq (l : List UInt8) (a m : Int) (k : Nat) (hs : l.length ≤ 17592186044416) (hk : l.length + 30 ≤ k) : wire_List.f k (B l) a m = some (listAt l a m) := by
  unfold wire_List.f listAt
  rw [wire_count_eq l a m k (by omega) (by omega), Option.bind_some]
  rcases hc : countAt l a m with ⟨x, n, e⟩
  simp only
  by_cases he : e = 0
  · subst he
    obtain ⟨h1, h2, h3⟩ := countAt_ok hc
    obtain ⟨h4, h5, h6, h7, h8, h9, -⟩ := intAt_ok h1
    rw [if_pos rfl, if_pos rfl]
    have := wire_List_l0 l hs (l.length - n).toNat k n [] x.toNat 0 (by omega) (by omega) (by simp; omega) (by omega) (by omega) (by omega) (by omega)
    rw [show (x.toNat : Int) = x by omega] at this
    exact this
  · rw [if_neg he, if_neg he]

theorem ref_List_l0 (l : List UInt8) (hs : l.length ≤ 17592186044416) : ∀ (d : Nat) (k : Nat) (a : Int) (acc : List Int) (n : Int), (l.length : Int) - a = d → 0 ≤ a → (acc.length : Int) ≤ a → d + 40 ≤ k →
    storagebarterref01_List.l0 k (B l) n a acc = some (rdN l (n - acc.length).toNat a acc) := by
  intro d
  induction d using Nat.strongRecOn with
  | _ d ih =>
  intro k a acc n hd ha hacc hk
  obtain ⟨k, rfl⟩ : ∃ m, k = m + 1 := ⟨k - 1, by omega⟩
  simp only [storagebarterref01_List.l0]
  by_cases h : (acc.length : Int) < n
  · rw [if_pos h, ref_Int_eq (B l) a k (by rw [B_size]; omega) (by omega), Option.bind_some]
    obtain ⟨m, hm⟩ : ∃ m, (n - acc.length).toNat = m + 1 := ⟨(n - acc.length).toNat - 1, by omega⟩
    rw [hm, rdN]
    rcases hi : intAt (B l) a with ⟨x, c, e⟩
    simp only
    by_cases he : e = 0
    · subst he
      obtain ⟨h1, h2, h3, -⟩ := intAt_ok hi
      rw [if_pos rfl, if_pos rfl, if_pos (by omega)]
      have := ih (l.length - c).toNat (by omega) k c (acc ++ [x]) n (by omega) (by omega) (by simp; omega) (by omega)
      rw [this, show (n - ((acc ++ [x]).length : Int)).toNat = m by simp; omega]
    · rw [if_neg he, if_neg he]
  · rw [if_neg h, show (n - acc.length).toNat = 0 by omega]
    rfl

theorem ref_List_eq (l : List UInt8) (a m : Int) (k : Nat) (hs : l.length ≤ 17592186044416) (hk : l.length + 40 ≤ k) : storagebarterref01_List.f k (B l) a m = some (listAt l a m) := by
  unfold storagebarterref01_List.f listAt countAt
  rw [ref_Int_eq (B l) a k (by rw [B_size]; omega) (by omega), Option.bind_some]
  rcases hc : intAt (B l) a with ⟨x, n, e⟩
  simp only
  by_cases he : e = 0
  · subst he
    obtain ⟨h4, h5, h6, h7, h8, h9, -⟩ := intAt_ok hc
    simp only [if_true]
    by_cases h0 : x < 0
    · rw [if_pos h0]; simp only [if_pos h0]; rfl
    · rw [if_neg h0]; simp only [if_neg h0]
      by_cases h1 : x > m
      · rw [if_pos h1]; simp only [if_pos h1]; rfl
      · rw [if_neg h1]; simp only [if_neg h1, if_true]
        have := ref_List_l0 l hs (l.length - n).toNat k n [] x (by omega) (by omega) (by simp; omega) (by omega)
        rw [this]
        simp
  · rw [if_neg he]
    simp only [if_neg he]

theorem ref_PutList_l0 (k : Nat) (xs : List Int) (hw : ∀ x ∈ xs, (Lit.int .i64 x).wf = true) (hx : xs.length ≤ 140737488355328) : ∀ (d i : Nat) (l : List UInt8) (j : Nat), xs.length - i = d → i ≤ xs.length → l.length + 10 * d ≤ 9223372036854775000 → d + 20 ≤ j →
    storagebarterref01_PutList.l0 j (B l) xs xs.length i = some (B (l ++ (xs.drop i).flatMap putI)) := by
  intro d
  induction d with
  | zero =>
    intro i l j hd hi hl hj
    obtain ⟨j, rfl⟩ : ∃ m, j = m + 1 := ⟨j - 1, by omega⟩
    simp only [storagebarterref01_PutList.l0]
    rw [if_neg (by omega), List.drop_of_length_le (by omega), List.flatMap_nil, List.append_nil]
  | succ d ih =>
    intro i l j hd hi hl hj
    obtain ⟨j, rfl⟩ : ∃ m, j = m + 1 := ⟨j - 1, by omega⟩
    have hlt : i < xs.length := by omega
    have er : rd xs i = xs[i] := by simp [rd, List.getD, hlt]
    have hr := bounds_i64 (hw _ (List.getElem_mem hlt))
    have hp := putI_len hr
    simp only [storagebarterref01_PutList.l0]
    rw [if_pos (by omega), if_pos (by omega), if_pos (by omega), er, ref_PutInt_eq l _ j (by omega) hr (by omega), Option.bind_some, w64 (by omega), show ((i : Int) + 1) = ((i + 1 : Nat) : Int) by omega, ih (i + 1) _ j (by omega) (by omega) (by rw [List.length_append]; omega) (by omega), List.drop_eq_getElem_cons hlt, List.flatMap_cons, List.append_assoc]

theorem ref_PutList_eq (l : List UInt8) (xs : List Int) (k : Nat) (hw : ∀ x ∈ xs, (Lit.int .i64 x).wf = true) (hx : xs.length ≤ 140737488355328) (hl : l.length ≤ 140737488355328) (hk : xs.length + 20 ≤ k) : storagebarterref01_PutList.f k (B l) xs = some (B (l ++ putL xs)) := by
  unfold storagebarterref01_PutList.f
  have hr : -9223372036854775808 ≤ (xs.length : Int) ∧ (xs.length : Int) ≤ 9223372036854775807 := by omega
  have hp := putI_len hr
  rw [ref_PutInt_eq l _ k (by omega) hr (by omega), Option.bind_some]
  have := ref_PutList_l0 k xs hw hx xs.length 0 (l ++ putI xs.length) k (by omega) (by omega) (by rw [List.length_append]; omega) hk
  rw [show ((0 : Nat) : Int) = 0 from rfl] at this
  rw [this]
  simp [putL]

theorem wire_PutList_eq (l : List UInt8) (xs : List Int) (hw : ∀ x ∈ xs, (Lit.int .i64 x).wf = true) (hx : l.length + 10 * (xs.length + 1) ≤ 140737488355328) : wire_PutList.f (B l) xs = some (B (l ++ putL xs)) := by
  unfold wire_PutList.f
  rw [if_pos ⟨by rw [B_size]; exact hx, List.all_eq_true.2 hw⟩]
  rfl

theorem same_l0 (xs ys : List Int) (hl : xs.length = ys.length) (hx : xs.length ≤ 140737488355328) : ∀ (d i k : Nat), xs.length - i = d → i ≤ xs.length → d < k →
    storagebarterref01_Same.l0 k xs ys xs.length i = some (decide (xs.drop i = ys.drop i)) := by
  intro d
  induction d with
  | zero =>
    intro i k hd hi hk
    obtain ⟨k, rfl⟩ : ∃ m, k = m + 1 := ⟨k - 1, by omega⟩
    simp only [storagebarterref01_Same.l0]
    rw [if_neg (by omega), List.drop_of_length_le (by omega), List.drop_of_length_le (by omega)]
    simp
  | succ d ih =>
    intro i k hd hi hk
    obtain ⟨k, rfl⟩ : ∃ m, k = m + 1 := ⟨k - 1, by omega⟩
    have hlt : i < xs.length := by omega
    have hlt2 : i < ys.length := by omega
    have ex : rd xs i = xs[i] := by simp [rd, List.getD, hlt]
    have ey : rd ys i = ys[i] := by simp [rd, List.getD, hlt2]
    simp only [storagebarterref01_Same.l0]
    rw [if_pos (by omega), if_pos (by omega), if_pos (by omega), if_pos (by omega), ex, ey, List.drop_eq_getElem_cons hlt, List.drop_eq_getElem_cons hlt2]
    by_cases he : xs[i] = ys[i]
    · rw [if_pos he, w64 (by omega), show ((i : Int) + 1) = ((i + 1 : Nat) : Int) by omega, ih (i + 1) k (by omega) (by omega) (by omega)]
      simp only [List.cons.injEq, he, true_and]
    · rw [if_neg he]
      simp only [List.cons.injEq, he, false_and, decide_false]

theorem same_eq (xs ys : List Int) (k : Nat) (hx : xs.length ≤ 140737488355328) (hk : xs.length < k) : storagebarterref01_Same.f k xs ys = some (decide (xs = ys)) := by
  unfold storagebarterref01_Same.f
  by_cases hl : xs.length = ys.length
  · rw [if_pos (by omega)]
    have := same_l0 xs ys hl hx xs.length 0 k (by omega) (by omega) hk
    simpa using this
  · rw [if_neg (by omega)]
    have : xs ≠ ys := fun e => hl (by rw [e])
    simp [this]

/-- What was put as a list is read back. -/
theorem rdN_put (p q : List UInt8) : ∀ (xs : List Int) (pre : List UInt8) (acc : List Int), (∀ x ∈ xs, (Lit.int .i64 x).wf = true) → rdN (pre ++ (xs.flatMap putI ++ q)) xs.length pre.length acc = (acc ++ xs, ((pre.length + (xs.flatMap putI).length : Nat) : Int), 0)
  | [], pre, acc, _ => by simp [rdN]
  | x :: xs, pre, acc, hw => by
    have hr := bounds_i64 (hw x (by simp))
    have hi := intAt_put pre (xs.flatMap putI ++ q) x hr
    have ih := rdN_put p q xs (pre ++ putI x) (acc ++ [x]) (fun y hy => hw y (by simp [hy]))
    simp only [List.length_append, List.append_assoc] at ih
    simp only [List.length_cons, List.flatMap_cons, List.append_assoc, rdN]
    rw [hi]
    simp only [if_true]
    rw [ih]
    simp [Nat.add_assoc]

theorem listAt_put (p q : List UInt8) (xs : List Int) (most : Int) (hw : ∀ x ∈ xs, (Lit.int .i64 x).wf = true) (hx : xs.length ≤ 140737488355328) (hm : (xs.length : Int) ≤ most) : listAt (p ++ (putL xs ++ q)) p.length most = (xs, ((p.length + (putL xs).length : Nat) : Int), 0) := by
  have hr : -9223372036854775808 ≤ (xs.length : Int) ∧ (xs.length : Int) ≤ 9223372036854775807 := by omega
  have hi := intAt_put p (xs.flatMap putI ++ q) xs.length hr
  rw [show putL xs ++ q = putI xs.length ++ (xs.flatMap putI ++ q) by simp [putL]]
  have hc : countAt (p ++ (putI xs.length ++ (xs.flatMap putI ++ q))) p.length most = ((xs.length : Int), ((p.length + (putI xs.length).length : Nat) : Int), 0) := by
    unfold countAt
    rw [hi]
    simp only [if_true]
    rw [if_neg (by omega), if_neg (by omega)]
  unfold listAt
  rw [hc]
  simp only [if_true, Int.toNat_natCast]
  have := rdN_put p q xs (p ++ putI xs.length) [] hw
  simp only [List.length_append, List.append_assoc, List.nil_append] at this
  rw [this]
  simp [putL, Nat.add_assoc]

theorem textAt_put (p q t : List UInt8) (most : Int) (ht : t.length ≤ 140737488355328) (hm : (t.length : Int) ≤ most) : textAt (p ++ (putI t.length ++ (t ++ q))) p.length most = (B t, ((p.length + (putI t.length).length + t.length : Nat) : Int), 0) := by
  have hr : -9223372036854775808 ≤ (t.length : Int) ∧ (t.length : Int) ≤ 9223372036854775807 := by omega
  have hi := intAt_put p (t ++ q) t.length hr
  have hc : countAt (p ++ (putI t.length ++ (t ++ q))) p.length most = ((t.length : Int), ((p.length + (putI t.length).length : Nat) : Int), 0) := by
    unfold countAt
    rw [hi]
    simp only [if_true]
    rw [if_neg (by omega), if_neg (by omega)]
  unfold textAt
  rw [hc]
  simp only [if_true, Int.toNat_natCast]
  rw [if_neg (by simp; omega)]
  rw [← List.append_assoc p, ← List.length_append, List.drop_left, List.take_left]
  simp

/-- Bytes of a number that are cut: too short. -/
theorem intAt_cut (n : Int) (j : Nat) (hn : -9223372036854775808 ≤ n ∧ n ≤ 9223372036854775807) (hj : j < (putI n).length) : intAt (B ((putI n).take j)) 0 = (0, 0, 3) := by
  rw [intAt_B, if_neg (by simp)]
  have h := rdU_cut (zig n) 0 0 j (by omega) (by simpa using zig_range hn) hj
  unfold putI
  simp only [Int.toNat_zero, List.drop_zero]
  rw [h]
  rfl

theorem textAt_cut (t : List UInt8) (j : Nat) (most : Int) (ht : t.length ≤ 140737488355328) (hm : (t.length : Int) ≤ most) (hj : j < (putI t.length ++ t).length) : (textAt ((putI t.length ++ t).take j) 0 most).2.2 = 3 := by
  rw [List.length_append] at hj
  have hr : -9223372036854775808 ≤ (t.length : Int) ∧ (t.length : Int) ≤ 9223372036854775807 := by omega
  rcases Nat.lt_or_ge j (putI t.length).length with h | h
  · have hi := intAt_cut t.length j hr h
    rw [List.take_append_of_le_length (by omega)]
    unfold textAt countAt
    rw [hi]
    simp
  · rw [List.take_append, List.take_of_length_le h]
    have hi := intAt_put [] (t.take (j - (putI t.length).length)) t.length hr
    simp only [List.nil_append, List.length_nil, Nat.zero_add] at hi
    rw [show ((0 : Nat) : Int) = 0 from rfl] at hi
    have hc : countAt (putI t.length ++ t.take (j - (putI t.length).length)) 0 most = ((t.length : Int), (((putI t.length).length : Nat) : Int), 0) := by
      unfold countAt
      rw [hi]
      simp only [if_true]
      rw [if_neg (by omega), if_neg (by omega)]
    unfold textAt
    rw [hc]
    simp only [if_true]
    rw [if_pos (show (t.length : Int) > (((putI t.length ++ t.take (j - (putI t.length).length)).length : Nat) : Int) - (((putI t.length).length : Nat) : Int) by rw [List.length_append, List.length_take]; omega)]

theorem rdN_cut : ∀ (xs : List Int) (pre : List UInt8) (acc : List Int) (j : Nat), (∀ x ∈ xs, (Lit.int .i64 x).wf = true) → j < (xs.flatMap putI).length → (rdN (pre ++ (xs.flatMap putI).take j) xs.length pre.length acc).2.2 = 3
  | [], pre, acc, j, _, hj => by simp at hj
  | x :: xs, pre, acc, j, hw, hj => by
    have hr := bounds_i64 (hw x (by simp))
    simp only [List.flatMap_cons, List.length_cons, rdN] at hj ⊢
    rcases Nat.lt_or_ge j (putI x).length with h | h
    · rw [List.take_append_of_le_length (by omega)]
      have hi : intAt (B (pre ++ (putI x).take j)) pre.length = (0, 0, 3) := by
        have h0 := intAt_cut x j hr h
        rw [intAt_B, if_neg (by simp)] at h0
        rw [intAt_B, if_neg (by simp; omega)]
        simp only [Int.toNat_natCast, List.drop_left', Int.toNat_zero, List.drop_zero] at h0 ⊢
        rcases hz : rdU 0 0 ((putI x).take j) with ⟨u, c, e⟩
        have h3 := rdU_cut (zig x) 0 0 j (by omega) (by simpa using zig_range hr) h
        unfold putI at hz
        rw [h3] at hz
        simp only [Prod.mk.injEq] at hz
        obtain ⟨rfl, rfl, rfl⟩ := hz
        rfl
      rw [hi]
      simp
    · rw [List.take_append, List.take_of_length_le h]
      have hi := intAt_put pre ((xs.flatMap putI).take (j - (putI x).length)) x hr
      rw [hi]
      simp only [if_true]
      have ih := rdN_cut xs (pre ++ putI x) (acc ++ [x]) (j - (putI x).length) (fun y hy => hw y (by simp [hy])) (by rw [List.length_append] at hj; omega)
      simp only [List.length_append, List.append_assoc] at ih
      exact ih

theorem listAt_cut (xs : List Int) (j : Nat) (most : Int) (hw : ∀ x ∈ xs, (Lit.int .i64 x).wf = true) (hx : xs.length ≤ 140737488355328) (hm : (xs.length : Int) ≤ most) (hj : j < (putL xs).length) : (listAt ((putL xs).take j) 0 most).2.2 = 3 := by
  have hr : -9223372036854775808 ≤ (xs.length : Int) ∧ (xs.length : Int) ≤ 9223372036854775807 := by omega
  unfold putL at hj ⊢
  rw [List.length_append] at hj
  rcases Nat.lt_or_ge j (putI xs.length).length with h | h
  · have hi := intAt_cut xs.length j hr h
    rw [List.take_append_of_le_length (by omega)]
    unfold listAt countAt
    rw [hi]
    simp
  · rw [List.take_append, List.take_of_length_le h]
    have hi := intAt_put [] ((xs.flatMap putI).take (j - (putI xs.length).length)) xs.length hr
    simp only [List.nil_append, List.length_nil, Nat.zero_add] at hi
    rw [show ((0 : Nat) : Int) = 0 from rfl] at hi
    have hc : countAt (putI xs.length ++ (xs.flatMap putI).take (j - (putI xs.length).length)) 0 most = ((xs.length : Int), (((putI xs.length).length : Nat) : Int), 0) := by
      unfold countAt
      rw [hi]
      simp only [if_true]
      rw [if_neg (by omega), if_neg (by omega)]
    unfold listAt
    rw [hc]
    simp only [if_true, Int.toNat_natCast]
    exact rdN_cut xs (putI xs.length) [] _ hw (by omega)

end Go.Proofs.Ytpebhbhdkmpjeaa.Gwd

/- The printed functions of 'seal', in plain words: the bytes of a sealed text. -/
namespace Go.Proofs.Ytpebhbhdkmpjeaa.Gsb
open Go Go.RowKit Go.Proofs.Ytpebhbhdkmpjeaa.Gm Go.Proofs.Ytpebhbhdkmpjeaa.Gwa Go.Proofs.Ytpebhbhdkmpjeaa.Gwb Go.Proofs.Ytpebhbhdkmpjeaa.Gsa Go.Proofs.Ytpebhbhdkmpjeaa.Q Go.Proofs.Ytpebhbhdkmpjeaa.Gput Go.Proofs.YtpebhbhdkmpjeaaW.PrintWords Go.Proofs.YtpebhbhdkmpjeaaW.PrintLast Go.Proofs.YtpebhbhdkmpjeaaW.PrintMore
set_option linter.unusedVariables false

/-- The bytes of a sealed text. -/
def encS (n : Int) (l : List UInt8) : List UInt8 := putI n ++ (putI l.length ++ l)

theorem Encode_eq (n : Int) (l : List UInt8) (hn : -9223372036854775808 ≤ n ∧ n ≤ 9223372036854775807) : seal_Encode.f n (B l) = some (if isSealed n l then (B (encS n l), 0) else (B [], 2)) := by
  unfold seal_Encode.f
  rw [sealed_eq n l hn, Option.bind_some]
  by_cases h : isSealed n l
  · have hl := h.2
    have hp := putI_len hn
    rw [if_pos (by simpa using h), if_pos h, show (⟨#[]⟩ : ByteArray) = B [] from rfl, wire_PutInt_eq [] n (by simp) hn, Option.bind_some, wire_PutText_eq _ l (by simp; omega) (by omega), Option.bind_some]
    simp only [List.nil_append]
    rfl
  · rw [if_neg (by simpa using h), if_neg h]; rfl

/-- What bytes mean as a sealed text. -/
def sealAt (l : List UInt8) (a : Int) : Int × ByteArray × Int × Int :=
  if (intAt (B l) a).2.2 = 0 then
    (if (textAt l (intAt (B l) a).2.1 16384).2.2 = 0 then
      (if isSealed (intAt (B l) a).1 (textAt l (intAt (B l) a).2.1 16384).1.data.toList then ((intAt (B l) a).1, (textAt l (intAt (B l) a).2.1 16384).1, (textAt l (intAt (B l) a).2.1 16384).2.1, 0) else (0, B [], 0, 2))
     else (0, B [], 0, (textAt l (intAt (B l) a).2.1 16384).2.2))
  else (0, B [], 0, (intAt (B l) a).2.2)

theorem intAt_range (l : List UInt8) (a : Int) : -9223372036854775808 ≤ (intAt (B l) a).1 ∧ (intAt (B l) a).1 ≤ 9223372036854775807 := by
  rcases hi : intAt (B l) a with ⟨x, n, e⟩
  by_cases he : e = 0
  · subst he
    obtain ⟨-, -, -, -, h5, h6, -⟩ := intAt_ok hi
    exact ⟨h5, h6⟩
  · have := (intAt_err hi).1
    simp only
    omega

theorem Decode_eq (l : List UInt8) (a : Int) (k : Nat) (hl : l.length ≤ 9223372036854775000) (hk : 24 ≤ k) : seal_Decode.f k (B l) a = some (sealAt l a) := by
  unfold seal_Decode.f sealAt
  have hr := intAt_range l a
  rw [wire_Int_eq (B l) a k (by rw [B_size]; exact hl) hk, Option.bind_some]
  rcases hi : intAt (B l) a with ⟨x, n, e⟩
  rw [hi] at hr
  simp only at hr ⊢
  by_cases he : e = 0
  · rw [if_pos he, if_pos he, wire_Text_eq l n 16384 k hl hk, Option.bind_some]
    rcases ht : textAt l n 16384 with ⟨t, n2, e2⟩
    simp only
    by_cases he2 : e2 = 0
    · obtain ⟨tl, rfl⟩ := exB t
      rw [if_pos he2, if_pos he2, sealed_eq x tl hr, Option.bind_some, B_data]
      by_cases hs : isSealed x tl
      · rw [if_pos (by simpa using hs), if_pos hs]
      · rw [if_neg (by simpa using hs), if_neg hs]; rfl
    · rw [if_neg he2, if_neg he2]; rfl
  · rw [if_neg he, if_neg he]; rfl

/-- A sealed text is read back. -/
theorem sealAt_put (p q : List UInt8) (n : Int) (l : List UInt8) (h : isSealed n l) (hn : -9223372036854775808 ≤ n ∧ n ≤ 9223372036854775807) : sealAt (p ++ (encS n l ++ q)) p.length = (n, B l, ((p.length + (encS n l).length : Nat) : Int), 0) := by
  have hl := h.2
  have e1 : p ++ (encS n l ++ q) = p ++ (putI n ++ ((putI l.length ++ l) ++ q)) := by simp [encS]
  have e2 : p ++ (encS n l ++ q) = (p ++ putI n) ++ (putI l.length ++ (l ++ q)) := by simp [encS]
  have hi := intAt_put p ((putI l.length ++ l) ++ q) n hn
  rw [← e1] at hi
  have ht := Gwd.textAt_put (p ++ putI n) q l 16384 (by omega) (by omega)
  rw [← e2, List.length_append] at ht
  unfold sealAt
  rw [hi]
  simp only [if_true]
  rw [ht]
  simp only [if_true, B_data]
  refine (if_pos h).trans ?_
  simp [encS, Nat.add_assoc]

end Go.Proofs.Ytpebhbhdkmpjeaa.Gsb

/- A sealed text is read back from its bytes, whatever stands around them; sealed texts with different locks or texts have different bytes. -/
namespace Go.Proofs.Ytpebhbhdkmpjeaa.Pure
open Go Go.RowKit Go.Proofs.Ytpebhbhdkmpjeaa.Gm Go.Proofs.Ytpebhbhdkmpjeaa.Gwa Go.Proofs.Ytpebhbhdkmpjeaa.Gwb Go.Proofs.Ytpebhbhdkmpjeaa.Gsa Go.Proofs.Ytpebhbhdkmpjeaa.Gsb Go.Proofs.Ytpebhbhdkmpjeaa.Q Go.Proofs.YtpebhbhdkmpjeaaW.PrintWords Go.Proofs.YtpebhbhdkmpjeaaW.PrintLast

theorem encS_len2 (n : Int) (l : List UInt8) (hn : -9223372036854775808 ≤ n ∧ n ≤ 9223372036854775807) (hl : l.length ≤ 16384) : (encS n l).length ≤ l.length + 20 := by
  have h1 := putI_len hn
  have h2 := putI_len (n := (l.length : Int)) (by omega)
  unfold encS
  simp only [List.length_append]
  omega

theorem encS_inj {m n : Int} {l r : List UInt8} (h1 : isSealed m l) (h2 : isSealed n r) (hm : -9223372036854775808 ≤ m ∧ m ≤ 9223372036854775807) (hn : -9223372036854775808 ≤ n ∧ n ≤ 9223372036854775807) (h : encS m l = encS n r) : m = n ∧ l = r := by
  have a := sealAt_put [] [] m l h1 hm
  have b := sealAt_put [] [] n r h2 hn
  rw [h, b] at a
  simp only [Prod.mk.injEq] at a
  exact ⟨a.1.symm, (B_inj.1 a.2.1).symm⟩

theorem Name_eq (n : Int) (l : List UInt8) (k : Nat) (h : isSealed n l) (hn : -9223372036854775808 ≤ n ∧ n ≤ 9223372036854775807) (hk : (encS n l).length < k) (hl : (encS n l).length ≤ 9223372036854775000) : seal_Name.f k n (B l) = some (dg 1 (encS n l), ((encS n l).length : Int), 0) := by
  unfold seal_Name.f
  rw [Encode_eq n l hn, Option.bind_some]
  simp only [if_pos h, if_true]
  rw [Sum_eq _ _ hl hk, Option.bind_some, B_size]

theorem SealBack : storagebarterlaw03_SealBack.Pure := by
  intro a0 a1 a2 a3 a4 a5 h0 h1 h2 h3 h4 h5
  obtain ⟨x, rfl⟩ := exB a0
  obtain ⟨y, rfl⟩ := exB a1
  obtain ⟨p, rfl⟩ := exB a2
  obtain ⟨q, rfl⟩ := exB a3
  rw [B_size] at h0 h1 h2 h3
  refine ⟨100000, ?_⟩
  unfold storagebarterlaw03_SealBack.f
  rw [law03_sane, Option.bind_some, if_pos rfl, B_size, B_size, w64 (by omega)]
  by_cases hl : (x.length : Int) + y.length > 16384
  · rw [if_pos hl]
  rw [if_neg hl, mod_eq _ _ (by omega) (by omega), Option.bind_some]
  obtain ⟨m, hm⟩ : ∃ k, a4 % 4294967294 = k := ⟨_, rfl⟩
  obtain ⟨n, hn⟩ : ∃ k, a5 % 4294967294 = k := ⟨_, rfl⟩
  rw [hm]
  have km : isKey m := by unfold isKey; omega
  have kn : isKey n := by unfold isKey; omega
  have km' := km
  have kn' := kn
  unfold isKey at km' kn'
  have rm : -9223372036854775808 ≤ 3 * m + 1 ∧ 3 * m + 1 ≤ 9223372036854775807 := by omega
  have rn : -9223372036854775808 ≤ 3 * n + 1 ∧ 3 * n + 1 ≤ 9223372036854775807 := by omega
  have sm : isSealed (3 * m + 1) x := ⟨isLock_of m km, by omega⟩
  have sn : isSealed (3 * n + 1) y := ⟨isLock_of n kn, by omega⟩
  have lm := encS_len2 (3 * m + 1) x rm (by omega)
  rw [Seal_eq, Option.bind_some, mod_eq _ _ (by omega) (by omega), Option.bind_some, hn, Seal_eq, Option.bind_some]
  simp only [if_pos km, if_pos kn]
  rw [if_neg (show ¬ x.length > 16384 by omega), if_neg (show ¬ y.length > 16384 by omega)]
  simp only
  rw [Encode_eq _ _ rm, Option.bind_some, Encode_eq _ _ rn, Option.bind_some]
  simp only [if_pos sm, if_pos sn]
  rw [B_append, B_size, B_size, B_size, B_append, if_pos (by omega), if_pos (by rw [B_size, List.length_append]; omega), Decode_eq _ _ _ (by simp only [List.length_append]; omega) (by omega), Option.bind_some, Name_eq _ _ _ sm rm (by omega) (by omega), Option.bind_some]
  have hp := sealAt_put p q (3 * m + 1) x sm rm
  rw [← List.append_assoc] at hp
  rw [hp]
  simp only [if_true]
  rw [if_pos (by simp), w64 (by omega), if_pos (by omega), if_pos, Sum_eq _ _ (by omega) (by omega), Option.bind_some]
  · simp
  · rw [B_toList, B_toList, B_toList, B_toList]
    by_cases he : 3 * m + 1 = 3 * n + 1 ∧ x = y
    · obtain ⟨e1, rfl⟩ := he
      rw [e1]
      simp
    · have h6 : encS (3 * m + 1) x ≠ encS (3 * n + 1) y := fun z => he (encS_inj sm sn rm rn z)
      have h7 : ((3 * m + 1 == 3 * n + 1) && (x == y)) = false := by
        rw [Bool.and_eq_false_iff]
        by_cases e1 : 3 * m + 1 = 3 * n + 1
        · exact .inr (beq_eq_false_iff_ne.2 fun e2 => he ⟨e1, e2⟩)
        · exact .inl (beq_eq_false_iff_ne.2 e1)
      rw [beq_eq_false_iff_ne.2 h6, h7]
      rfl

end Go.Proofs.Ytpebhbhdkmpjeaa.Pure
