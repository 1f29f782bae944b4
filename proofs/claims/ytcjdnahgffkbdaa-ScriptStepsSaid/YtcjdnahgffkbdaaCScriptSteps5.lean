/- ScriptStepsSaid -/
import Derived.Test.YtcjdnahgffkbdaaCScriptSteps4
import Derived.Deep.DeepCutAuto
import Derived.IntWalk
namespace Go.Proofs.Ytcjdnahgffkbdaa.Spt
open Go Go.RowKit Go.Proofs Go.Proofs.Ytcjdnahgffkbdaa.Gm Go.Proofs.Ytcjdnahgffkbdaa.Gput Go.Proofs.Ytcjdnahgffkbdaa.Gputl Go.Proofs.Ytcjdnahgffkbdaa.Gwa Go.Proofs.Ytcjdnahgffkbdaa.Gwb Go.Proofs.Ytcjdnahgffkbdaa.Gwd Go.Proofs.Ytcjdnahgffkbdaa.Srs Go.Proofs.Ytcjdnahgffkbdaa.Sst Go.Proofs.Ytcjdnahgffkbdaa.Q Go.Proofs.YtcjdnahgffkbdaaW.PrintWords Go.Proofs.YtcjdnahgffkbdaaW.PrintLast Go.Proofs.YtcjdnahgffkbdaaW.PrintMore
set_option linter.unusedVariables false
def I64 (x : Int) : Prop := -9223372036854775808 ≤ x ∧ x ≤ 9223372036854775807
def nums (s : S64) : List Int := [s.f0, s.f1, s.f2, s.f3, s.f4, s.f5, s.f6, s.f7, s.f8, s.f9, s.f10]
def W11 (s : S64) : Prop := ∀ x ∈ nums s, I64 x
structure WE (x : S28) : Prop where
  h0 : I64 x.f0
  h1 : I64 x.f1
  h2 : I64 x.f2
  h3 : I64 x.f3
  h5 : I64 x.f5.f0
  h6 : I64 x.f5.f1
  hs : ∀ s ∈ x.f5.f2, W11 s
def putS (ss : List S64) : List UInt8 := ss.flatMap (fun s => putL (nums s))
def putE (x : S28) : List UInt8 := (putI x.f0 ++ (putI x.f1 ++ (putI x.f2 ++ putI x.f3))) ++ ((putI x.f4.data.toList.length ++ x.f4.data.toList) ++ ((putI x.f5.f0 ++ (putI x.f5.f1 ++ putI x.f5.f2.length)) ++ putS x.f5.f2))
def putR (b : List UInt8) (x : S28) : ByteArray × Int := if x.f4.size > 16384 ∨ x.f5.f2.length > 256 then (⟨#[]⟩, 4) else (B (b ++ putE x), 0)
theorem putL_len {xs : List Int} (h : ∀ x ∈ xs, I64 x) (hl : xs.length ≤ 1000) : (putL xs).length ≤ 10 * (xs.length + 1) := by
  unfold putL
  have h1 : (putI (xs.length : Int)).length ≤ 10 := putI_len (by omega)
  have h2 : (xs.flatMap putI).length ≤ 10 * xs.length := by
    clear h1 hl
    induction xs with
    | nil => simp
    | cons y ys ih =>
      have hy := putI_len (h y List.mem_cons_self)
      have := ih (fun x hx => h x (List.mem_cons_of_mem _ hx))
      simp only [List.flatMap_cons, List.length_append, List.length_cons]
      omega
  rw [List.length_append]
  omega
theorem putS_len {ss : List S64} (h : ∀ s ∈ ss, W11 s) : (putS ss).length ≤ 120 * ss.length := by
  induction ss with
  | nil => simp [putS]
  | cons y ys ih =>
    have hy : (putL (nums y)).length ≤ 10 * ((nums y).length + 1) := putL_len (h y List.mem_cons_self) (by simp [nums])
    have := ih (fun s hs => h s (List.mem_cons_of_mem _ hs))
    have hn : (nums y).length = 11 := rfl
    rw [hn] at hy
    simp only [putS, List.flatMap_cons, List.length_append, List.length_cons] at this ⊢
    omega
theorem putS_snoc (ss : List S64) (k : Nat) (h : k < ss.length) : putS (ss.take (k + 1)) = putS (ss.take k) ++ putL (nums ss[k]) := by
  unfold putS
  rw [List.take_succ_eq_append_getElem h, List.flatMap_append]
  simp
structure PW (w W : World) (ge : Nat) (cs : Array Value) : Prop where
  hb : Below w.heap.size w W
  be : W.heap[ge]? = some (.cells cs 28 (0, 0))
theorem PW.below {w W W' : World} {ge : Nat} {cs : Array Value} (h : PW w W ge cs) (hb : Below W.heap.size W W') : PW w W' ge cs := ⟨below_step h.hb hb, blk_below h.be hb⟩
theorem PW.app {w W W' : World} {ge : Nat} {cs : Array Value} {ok : Nat → Prop} {v : Value} {xs : List Int} (h : PW w W ge cs) (hr : Kd.R (Kd.int .i64) 3 W w.heap.size ok v xs) (hg : W.grownBy W' v.ownBlock) : PW w W' ge cs :=
  ⟨h.hb.grown hg h.hb.size (fun b e => Kd.R_base hr b e), blk_grown h.be hg (Kd.R_ne hr h.be (by decide))⟩
theorem nums_at (s : S64) (j : Nat) (h : j < 11) : (#[.int .i64 s.f0, .int .i64 s.f1, .int .i64 s.f2, .int .i64 s.f3, .int .i64 s.f4, .int .i64 s.f5, .int .i64 s.f6, .int .i64 s.f7, .int .i64 s.f8, .int .i64 s.f9, .int .i64 s.f10] : Array Value)[j]? = some (.int .i64 (rd (nums s) j)) := by
  obtain rfl | rfl | rfl | rfl | rfl | rfl | rfl | rfl | rfl | rfl | rfl := k_cases h <;> simp [nums, rd]
theorem nums_snoc (s : S64) (j : Nat) (h : j < 11) : (nums s).take j ++ [rd (nums s) j] = (nums s).take (j + 1) := by
  obtain rfl | rfl | rfl | rfl | rfl | rfl | rfl | rfl | rfl | rfl | rfl := k_cases h <;> simp [nums, rd]
theorem ixI4 (y0 y1 y2 y3 : Int) (k : Nat) (hk : k < 4) (W : World) : (Instr.index 60 (.agg #[.int .i64 y0, .int .i64 y1, .int .i64 y2, .int .i64 y3]) (.int .i64 (k : Int))).run Try.prog W = .ok (.int .i64 (rd [y0, y1, y2, y3] k)) W := by
  have h := Try.underlying60
  have hi0 : (Try.prog.info? 3).map (fun i => i.size) = some 1 := by kernel_rfl
  obtain ⟨i0, hi, hsz⟩ := Option.map_eq_some_iff.1 hi0
  obtain rfl | rfl | rfl | rfl : k = 0 ∨ k = 1 ∨ k = 2 ∨ k = 3 := by omega
  all_goals simp [Instr.index, run_underlying h, asIntOf, sizeOf, typeInfo, go_sem, hi, hsz, rd]
theorem ixI3 (y0 y1 y2 : Int) (k : Nat) (hk : k < 3) (W : World) : (Instr.index 62 (.agg #[.int .i64 y0, .int .i64 y1, .int .i64 y2]) (.int .i64 (k : Int))).run Try.prog W = .ok (.int .i64 (rd [y0, y1, y2] k)) W := by
  have h := Try.underlying62
  have hi0 : (Try.prog.info? 3).map (fun i => i.size) = some 1 := by kernel_rfl
  obtain ⟨i0, hi, hsz⟩ := Option.map_eq_some_iff.1 hi0
  obtain rfl | rfl | rfl : k = 0 ∨ k = 1 ∨ k = 2 := by omega
  all_goals simp [Instr.index, run_underlying h, asIntOf, sizeOf, typeInfo, go_sem, hi, hsz, rd]
theorem rd_I64 {l : List Int} (h : ∀ x ∈ l, I64 x) (k : Nat) (hk : k < l.length) : I64 (rd l k) := by
  have e : rd l k = l[k] := by simp [rd, List.getD, hk]
  rw [e]
  exact h _ (List.getElem_mem hk)
theorem flat_small {l : List Int} (h : ∀ x ∈ l, I64 x) (k : Nat) : ((l.take k).flatMap putI).length ≤ 10 * l.length := by
  have := flat_len l (List.all_eq_true.2 fun x hx => wf64 (h x hx)) k
  have h2 : ((l.take k).flatMap putI).length ≤ 10 * (l.take k).length := by
    have := flat_len (l.take k) (List.all_eq_true.2 fun x hx => wf64 (h x (List.mem_of_mem_take hx))) (l.take k).length
    rwa [List.take_length] at this
  rw [List.length_take] at h2
  omega
set_option maxRecDepth 100000 in
set_option maxHeartbeats 8000000 in
theorem put_x (b : List UInt8) (x0 x1 x2 x3 : Int) (tl : List UInt8) (x5 x6 : Int) (A : Option Addr) (c : Nat) (ss : List S64) (w : World) (hC : Kd.C k64 w A ss.length ss) (hc : ss.length ≤ c) (hx : WE ⟨x0, x1, x2, x3, B tl, ⟨x5, x6, ss⟩⟩) (hb : b.length ≤ 100000000)
    (r : ByteArray) (e : Int) (hr : putR b ⟨x0, x1, x2, x3, B tl, ⟨x5, x6, ss⟩⟩ = (r, e)) :
    Calls Try.prog 14 #[.string (B b), .agg #[.int .i64 x0, .int .i64 x1, .int .i64 x2, .int .i64 x3, .string (B tl), .int .i64 x5, .int .i64 x6, .slice A ss.length c]] w fun e' w' => e' = .returned (.tuple #[.string r, .int .i64 e]) ∧ Below w.heap.size w w' := by
  have mixed : (Try.prog).follows .mixedOrders = true := by kernel_rfl
  have hu28 := Try.underlying28
  have hu26 := Try.underlying26
  have hu64 := Try.underlying64
  have hu4 := Try.underlying60
  have hu3 := Try.underlying62
  have HC := Aside0.mk hC
  have HX := Aside0.mk hx
  have hts : (B tl).size = tl.length := B_size tl
  obtain ⟨ce, hce⟩ : ∃ ce, (if tl.length > 16384 ∨ ss.length > 256 then 4 else 0 : Int) = ce := ⟨_, rfl⟩
  have HCK : Aside0 (script_Check.f x0 x1 x2 x3 (B tl) x5 x6 ss = some ce) := ⟨by
    unfold script_Check.f
    rw [← hce]
    by_cases h1 : tl.length > 16384
    · rw [if_pos (by rw [hts]; omega), if_pos (.inl h1)]
    · rw [if_neg (by rw [hts]; omega)]
      by_cases h2 : ss.length > 256
      · rw [if_pos (by omega), if_pos (.inr h2)]
      · rw [if_neg (by omega), if_neg (fun z => z.elim h1 h2)]⟩
  have HR : Hid ((if tl.length > 16384 ∨ ss.length > 256 then ((⟨#[]⟩ : ByteArray), (4 : Int)) else (B (b ++ putE ⟨x0, x1, x2, x3, B tl, ⟨x5, x6, ss⟩⟩), 0)) = (r, e)) := Lib.hid (by rw [← hr]; unfold putR; simp only [hts])
  have HB : Aside0 (Below (w.alloc (.cells #[.int .i64 x0, .int .i64 x1, .int .i64 x2, .int .i64 x3, .string (B tl), .int .i64 x5, .int .i64 x6, .slice A ss.length c] 28)).heap.size (w.alloc (.cells #[.int .i64 x0, .int .i64 x1, .int .i64 x2, .int .i64 x3, .string (B tl), .int .i64 x5, .int .i64 x6, .slice A ss.length c] 28)) (w.alloc (.cells #[.int .i64 x0, .int .i64 x1, .int .i64 x2, .int .i64 x3, .string (B tl), .int .i64 x5, .int .i64 x6, .slice A ss.length c] 28))) := ⟨Below.refl _ _⟩
  have HE : Aside0 ((w.alloc (.cells #[.int .i64 x0, .int .i64 x1, .int .i64 x2, .int .i64 x3, .string (B tl), .int .i64 x5, .int .i64 x6, .slice A ss.length c] 28)).heap[w.heap.size]? = some (.cells #[.int .i64 x0, .int .i64 x1, .int .i64 x2, .int .i64 x3, .string (B tl), .int .i64 x5, .int .i64 x6, .slice A ss.length c] 28 (0, 0))) := ⟨heap_alloc_new w _⟩
  have HB0 : Aside0 (Below w.heap.size w (w.alloc (.cells #[.int .i64 x0, .int .i64 x1, .int .i64 x2, .int .i64 x3, .string (B tl), .int .i64 x5, .int .i64 x6, .slice A ss.length c] 28))) := ⟨below_alloc (Below.refl _ _) _⟩
  clear hC hx hr
  by_cases hbig : tl.length > 16384 ∨ ss.length > 256
  case pos =>
    rw [if_pos hbig] at hce
    subst hce
    obtain ⟨rfl, rfl⟩ : (⟨#[]⟩ : ByteArray) = r ∧ 4 = e := by have h := HR.out; rw [if_pos hbig] at h; simpa using h
    clear hbig
    go_enter Try.func14, Try.ntmps14
    go_wp2_with (first | (go_at_call 22; go_loud (with_reducible refine (script_Check.calls x0 x1 x2 x3 (B tl) x5 x6 A c ss _ _ (Kd.C_below HC.out HB0.out) hc HCK.out).mono ?_); go_loud (rintro e' w1_ ⟨rfl, hd⟩; have HB1 : Aside0 (Below (w.alloc (.cells #[.int .i64 x0, .int .i64 x1, .int .i64 x2, .int .i64 x3, .string (B tl), .int .i64 x5, .int .i64 x6, .slice A ss.length c] 28)).heap.size (w.alloc (.cells #[.int .i64 x0, .int .i64 x1, .int .i64 x2, .int .i64 x3, .string (B tl), .int .i64 x5, .int .i64 x6, .slice A ss.length c] 28)) w1_) := ⟨hd⟩; clear HB hd)))
    go_ret2
    exact ⟨rfl, below_step HB0.out HB1.out⟩
  case neg =>
    rw [if_neg hbig] at hce
    subst hce
    obtain ⟨rfl, rfl⟩ : B (b ++ putE ⟨x0, x1, x2, x3, B tl, ⟨x5, x6, ss⟩⟩) = r ∧ 0 = e := by have h := HR.out; rw [if_neg hbig] at h; simpa using h
    have htl : tl.length ≤ 16384 := by omega
    have hsl : ss.length ≤ 256 := by omega
    clear hbig HR
    go_enter Try.func14, Try.ntmps14
    go_upto_region 4 with (first | (go_at_call 22; go_loud (with_reducible refine (script_Check.calls x0 x1 x2 x3 (B tl) x5 x6 A c ss _ _ (Kd.C_below HC.out HB0.out) hc HCK.out).mono ?_); go_loud (rintro e' w1_ ⟨rfl, hd⟩; have HB1 : Aside0 (Below (w.alloc (.cells #[.int .i64 x0, .int .i64 x1, .int .i64 x2, .int .i64 x3, .string (B tl), .int .i64 x5, .int .i64 x6, .slice A ss.length c] 28)).heap.size (w.alloc (.cells #[.int .i64 x0, .int .i64 x1, .int .i64 x2, .int .i64 x3, .string (B tl), .int .i64 x5, .int .i64 x6, .slice A ss.length c] 28)) w1_) := ⟨hd⟩; clear HB hd)))
    have HP : Aside0 (PW w w1_ w.heap.size #[.int .i64 x0, .int .i64 x1, .int .i64 x2, .int .i64 x3, .string (B tl), .int .i64 x5, .int .i64 x6, .slice A ss.length c]) := ⟨⟨below_step HB0.out HB1.out, blk_below HE.out HB1.out⟩⟩
    clear HB0 HB1 HE HCK
    obtain ⟨ge, hge⟩ : ∃ ge, w.heap.size = ge := ⟨_, rfl⟩
    rw [hge] at HP ⊢
    clear hge
    have he0_ : w1_.cell? ⟨ge, 0, none⟩ = some (.int .i64 x0) := (blk_cell HP.out.be 0).trans rfl
    have he1_ : w1_.cell? ⟨ge, 1, none⟩ = some (.int .i64 x1) := (blk_cell HP.out.be 1).trans rfl
    have he2_ : w1_.cell? ⟨ge, 2, none⟩ = some (.int .i64 x2) := (blk_cell HP.out.be 2).trans rfl
    have he3_ : w1_.cell? ⟨ge, 3, none⟩ = some (.int .i64 x3) := (blk_cell HP.out.be 3).trans rfl
    have he4_ : w1_.cell? ⟨ge, 4, none⟩ = some (.string (B tl)) := (blk_cell HP.out.be 4).trans rfl
    have he5_ : w1_.cell? ⟨ge, 5, none⟩ = some (.int .i64 x5) := (blk_cell HP.out.be 5).trans rfl
    have he6_ : w1_.cell? ⟨ge, 6, none⟩ = some (.int .i64 x6) := (blk_cell HP.out.be 6).trans rfl
    have he7_ : w1_.cell? ⟨ge, 7, none⟩ = some (.slice A ss.length c) := (blk_cell HP.out.be 7).trans rfl
    have hx4 : ∀ x ∈ [x0, x1, x2, x3], I64 x := by
      intro x hx
      simp only [List.mem_cons, List.not_mem_nil, or_false] at hx
      rcases hx with rfl | rfl | rfl | rfl
      · exact HX.out.h0
      · exact HX.out.h1
      · exact HX.out.h2
      · exact HX.out.h3
    have hx3 : ∀ x ∈ [x5, x6, (ss.length : Int)], I64 x := by
      intro x hx
      simp only [List.mem_cons, List.not_mem_nil, or_false] at hx
      rcases hx with rfl | rfl | rfl
      · exact HX.out.h5
      · exact HX.out.h6
      · unfold I64; omega
    have HX4 := Aside0.mk hx4
    have HX3 := Aside0.mk hx3
    clear hx4 hx3
    go_wp2
    clear he0_ he1_ he2_ he3_ he4_ he5_ he6_ he7_
    go_loopw [0, 30] (fun s0 s30 wr => ∃ k : Nat, k ≤ 4 ∧ s30 = .int .i64 k ∧ s0 = .string (B (b ++ ([x0, x1, x2, x3].take k).flatMap putI)) ∧ Aside0 (PW w wr ge #[.int .i64 x0, .int .i64 x1, .int .i64 x2, .int .i64 x3, .string (B tl), .int .i64 x5, .int .i64 x6, .slice A ss.length c])) (fun _ s30 _ => 4 - (intOf s30).toNat)
    case atStart => exact ⟨0, by omega, rfl, by simp, HP⟩
    case round =>
      clear HP
      obtain ⟨k, hk, rfl, rfl, HP⟩ := hrel
      by_cases hk4 : k < 4
      case pos =>
        have hk4i : (k : Int) < 4 := by omega
        have hrix : ∀ W', (Instr.index 60 (.agg #[.int .i64 x0, .int .i64 x1, .int .i64 x2, .int .i64 x3]) (.int .i64 (k : Int))).run Try.prog W' = .ok (.int .i64 (rd [x0, x1, x2, x3] k)) W' := fun W' => ixI4 x0 x1 x2 x3 k hk4 W'
        have HPI : Aside0 (wire_PutInt.f (B (b ++ ([x0, x1, x2, x3].take k).flatMap putI)) (rd [x0, x1, x2, x3] k) = some (B (b ++ ([x0, x1, x2, x3].take (k + 1)).flatMap putI))) := ⟨by
          rw [wire_PutInt_eq _ _ (by have := flat_small HX4.out k; simp only [List.length_append, List.length_cons, List.length_nil] at this ⊢; omega) (rd_I64 HX4.out k hk4), putI_snoc [x0, x1, x2, x3] k hk4, List.append_assoc]⟩
        go_wp2_with (first | (go_at_call 24; go_loud (with_reducible refine (wire_PutInt.calls _ _ _ _ HPI.out).mono ?_); go_loud (rintro e' w' ⟨rfl, hd⟩; have n_ := Aside0.mk (PW.below HP.out hd); clear HP hd; have HP := n_; clear n_)))
        go_roundw
        case rel => exact ⟨k + 1, by omega, by go_num, rfl, HP⟩
        case measure => simp only [intOf]; omega
      case neg =>
      obtain rfl : k = 4 := by omega
      obtain ⟨b4, hb4⟩ : ∃ b4, b4 = b ++ ([x0, x1, x2, x3].take 4).flatMap putI := ⟨_, rfl⟩
      rw [← hb4]
      have HB4 := Lib.hid hb4
      have hl4 : b4.length ≤ b.length + 40 := by have := flat_small HX4.out 4; rw [hb4]; simp only [List.length_append, List.length_cons, List.length_nil] at this ⊢; omega
      clear hb4
      have he0_ : wr.cell? ⟨ge, 0, none⟩ = some (.int .i64 x0) := (blk_cell HP.out.be 0).trans rfl
      have he1_ : wr.cell? ⟨ge, 1, none⟩ = some (.int .i64 x1) := (blk_cell HP.out.be 1).trans rfl
      have he2_ : wr.cell? ⟨ge, 2, none⟩ = some (.int .i64 x2) := (blk_cell HP.out.be 2).trans rfl
      have he3_ : wr.cell? ⟨ge, 3, none⟩ = some (.int .i64 x3) := (blk_cell HP.out.be 3).trans rfl
      have he4_ : wr.cell? ⟨ge, 4, none⟩ = some (.string (B tl)) := (blk_cell HP.out.be 4).trans rfl
      have he5_ : wr.cell? ⟨ge, 5, none⟩ = some (.int .i64 x5) := (blk_cell HP.out.be 5).trans rfl
      have he6_ : wr.cell? ⟨ge, 6, none⟩ = some (.int .i64 x6) := (blk_cell HP.out.be 6).trans rfl
      have he7_ : wr.cell? ⟨ge, 7, none⟩ = some (.slice A ss.length c) := (blk_cell HP.out.be 7).trans rfl
      have HPX : Aside0 (wire_PutText.f (B b4) (B tl) = some (B (b4 ++ (putI tl.length ++ tl)))) := ⟨wire_PutText_eq b4 tl (by omega) (by omega)⟩
      go_upto_region 10 with (first | (go_at_call 30; go_loud (with_reducible refine (wire_PutText.calls _ _ _ _ HPX.out).mono ?_); go_loud (rintro e' w' ⟨rfl, hd⟩; have n_ := Aside0.mk (PW.below HP.out hd); clear HP hd; have HP := n_; clear n_; have he0_ : w'.cell? ⟨ge, 0, none⟩ = some (.int .i64 x0) := (blk_cell HP.out.be 0).trans rfl; have he1_ : w'.cell? ⟨ge, 1, none⟩ = some (.int .i64 x1) := (blk_cell HP.out.be 1).trans rfl; have he2_ : w'.cell? ⟨ge, 2, none⟩ = some (.int .i64 x2) := (blk_cell HP.out.be 2).trans rfl; have he3_ : w'.cell? ⟨ge, 3, none⟩ = some (.int .i64 x3) := (blk_cell HP.out.be 3).trans rfl; have he4_ : w'.cell? ⟨ge, 4, none⟩ = some (.string (B tl)) := (blk_cell HP.out.be 4).trans rfl; have he5_ : w'.cell? ⟨ge, 5, none⟩ = some (.int .i64 x5) := (blk_cell HP.out.be 5).trans rfl; have he6_ : w'.cell? ⟨ge, 6, none⟩ = some (.int .i64 x6) := (blk_cell HP.out.be 6).trans rfl; have he7_ : w'.cell? ⟨ge, 7, none⟩ = some (.slice A ss.length c) := (blk_cell HP.out.be 7).trans rfl)))
      obtain ⟨b5, hb5⟩ : ∃ b5, b5 = b4 ++ (putI tl.length ++ tl) := ⟨_, rfl⟩
      rw [← hb5]
      have HB5 := Lib.hid hb5
      have hl5 : b5.length ≤ b4.length + 16394 := by have h := putI_len (n := (tl.length : Int)) (by omega); rw [hb5, List.length_append, List.length_append]; omega
      clear hb5
      go_wp2
      clear he0_ he1_ he2_ he3_ he4_ he5_ he6_ he7_
      go_loopw [0, 52] (fun s0 s52 wr => ∃ k : Nat, k ≤ 3 ∧ s52 = .int .i64 k ∧ s0 = .string (B (b5 ++ ([x5, x6, (ss.length : Int)].take k).flatMap putI)) ∧ Aside0 (PW w wr ge #[.int .i64 x0, .int .i64 x1, .int .i64 x2, .int .i64 x3, .string (B tl), .int .i64 x5, .int .i64 x6, .slice A ss.length c])) (fun _ s52 _ => 3 - (intOf s52).toNat)
      case atStart => exact ⟨0, by omega, rfl, by simp, HP⟩
      case round =>
        clear HP
        obtain ⟨k, hk, rfl, rfl, HP⟩ := hrel
        by_cases hk3 : k < 3
        case pos =>
          have hk3i : (k : Int) < 3 := by omega
          have hrix : ∀ W', (Instr.index 62 (.agg #[.int .i64 x5, .int .i64 x6, .int .i64 (ss.length : Int)]) (.int .i64 (k : Int))).run Try.prog W' = .ok (.int .i64 (rd [x5, x6, (ss.length : Int)] k)) W' := fun W' => ixI3 x5 x6 (ss.length : Int) k hk3 W'
          have HPI : Aside0 (wire_PutInt.f (B (b5 ++ ([x5, x6, (ss.length : Int)].take k).flatMap putI)) (rd [x5, x6, (ss.length : Int)] k) = some (B (b5 ++ ([x5, x6, (ss.length : Int)].take (k + 1)).flatMap putI))) := ⟨by
            rw [wire_PutInt_eq _ _ (by have := flat_small HX3.out k; simp only [List.length_append, List.length_cons, List.length_nil] at this ⊢; omega) (rd_I64 HX3.out k hk3), putI_snoc [x5, x6, (ss.length : Int)] k hk3, List.append_assoc]⟩
          go_wp2_with (first | (go_at_call 24; go_loud (with_reducible refine (wire_PutInt.calls _ _ _ _ HPI.out).mono ?_); go_loud (rintro e' w' ⟨rfl, hd⟩; have n_ := Aside0.mk (PW.below HP.out hd); clear HP hd; have HP := n_; clear n_)))
          go_roundw
          case rel => exact ⟨k + 1, by omega, by go_num, rfl, HP⟩
          case measure => simp only [intOf]; omega
        case neg =>
        obtain rfl : k = 3 := by omega
        obtain ⟨b6, hb6⟩ : ∃ b6, b6 = b5 ++ ([x5, x6, (ss.length : Int)].take 3).flatMap putI := ⟨_, rfl⟩
        rw [← hb6]
        have HB6 := Lib.hid hb6
        have hl6 : b6.length ≤ b5.length + 30 := by have := flat_small HX3.out 3; rw [hb6]; simp only [List.length_append, List.length_cons, List.length_nil] at this ⊢; omega
        clear hb6
        have he0_ : wr.cell? ⟨ge, 0, none⟩ = some (.int .i64 x0) := (blk_cell HP.out.be 0).trans rfl
        have he1_ : wr.cell? ⟨ge, 1, none⟩ = some (.int .i64 x1) := (blk_cell HP.out.be 1).trans rfl
        have he2_ : wr.cell? ⟨ge, 2, none⟩ = some (.int .i64 x2) := (blk_cell HP.out.be 2).trans rfl
        have he3_ : wr.cell? ⟨ge, 3, none⟩ = some (.int .i64 x3) := (blk_cell HP.out.be 3).trans rfl
        have he4_ : wr.cell? ⟨ge, 4, none⟩ = some (.string (B tl)) := (blk_cell HP.out.be 4).trans rfl
        have he5_ : wr.cell? ⟨ge, 5, none⟩ = some (.int .i64 x5) := (blk_cell HP.out.be 5).trans rfl
        have he6_ : wr.cell? ⟨ge, 6, none⟩ = some (.int .i64 x6) := (blk_cell HP.out.be 6).trans rfl
        have he7_ : wr.cell? ⟨ge, 7, none⟩ = some (.slice A ss.length c) := (blk_cell HP.out.be 7).trans rfl
        go_wp2
        clear he0_ he1_ he2_ he3_ he4_ he5_ he6_ he7_
        go_loopw [0, 63] (fun s0 s63 wr => ∃ k : Nat, k ≤ ss.length ∧ s63 = .int .i64 k ∧ s0 = .string (B (b6 ++ putS (ss.take k))) ∧ Aside0 (PW w wr ge #[.int .i64 x0, .int .i64 x1, .int .i64 x2, .int .i64 x3, .string (B tl), .int .i64 x5, .int .i64 x6, .slice A ss.length c])) (fun _ s63 _ => ss.length - (intOf s63).toNat)
        case atStart => exact ⟨0, by omega, rfl, by simp [putS], HP⟩
        case round =>
          clear HP
          obtain ⟨k, hk, rfl, rfl, HP⟩ := hrel
          by_cases hks : k < ss.length
          case neg =>
            obtain rfl : k = ss.length := by omega
            go_wp2
            go_ret2
            exact ⟨by rw [List.take_length, HB6.out, HB5.out, HB4.out]; simp [putE, B_data], HP.out.hb⟩
          case pos =>
          obtain ⟨s, hs⟩ : ∃ s, s = ss[k] := ⟨_, rfl⟩
          obtain ⟨ad, ead, hx0, hx1, hx2, hx3, hx4, hx5, hx6, hx7, hx8, hx9, hx10⟩ := at_T64 (Kd.C_below HC.out HP.out.hb) (k : Int) (by omega) (by omega)
          cases ead
          rw [show rd_T64 ss (k : Int) = s by rw [hs]; simp [rd_T64, List.getD, hks]] at hx0 hx1 hx2 hx3 hx4 hx5 hx6 hx7 hx8 hx9 hx10
          simp only [Int.toNat_natCast] at hx0 hx1 hx2 hx3 hx4 hx5 hx6 hx7 hx8 hx9 hx10
          have hWs : W11 s := by rw [hs]; exact HX.out.hs _ (List.getElem_mem hks)
          have HS := Lib.hid hs
          have HWs := Aside0.mk hWs
          clear hs hWs
          obtain ⟨s0, s1, s2, s3, s4, s5, s6, s7, s8, s9, s10⟩ := s
          dsimp only at hx0 hx1 hx2 hx3 hx4 hx5 hx6 hx7 hx8 hx9 hx10
          have hksi : (k : Int) < (ss.length : Int) := by omega
          have hm1 := HP.out
          go_upto_region 19 with fail
          have HP1 := Aside0.mk (hm1.below (below_alloc (Below.refl _ _) (.cells #[.int .i64 s0, .int .i64 s1, .int .i64 s2, .int .i64 s3, .int .i64 s4, .int .i64 s5, .int .i64 s6, .int .i64 s7, .int .i64 s8, .int .i64 s9, .int .i64 s10] 64)))
          have HS1 := Aside0.mk (heap_alloc_new wr (.cells #[.int .i64 s0, .int .i64 s1, .int .i64 s2, .int .i64 s3, .int .i64 s4, .int .i64 s5, .int .i64 s6, .int .i64 s7, .int .i64 s8, .int .i64 s9, .int .i64 s10] 64))
          obtain ⟨W3, hW3⟩ : ∃ W3, W3 = wr.alloc (.cells #[.int .i64 s0, .int .i64 s1, .int .i64 s2, .int .i64 s3, .int .i64 s4, .int .i64 s5, .int .i64 s6, .int .i64 s7, .int .i64 s8, .int .i64 s9, .int .i64 s10] 64) := ⟨_, rfl⟩
          rw [← hW3] at HP1 HS1 ⊢
          obtain ⟨gs, hgs⟩ : ∃ gs, wr.heap.size = gs := ⟨_, rfl⟩
          rw [hgs] at HS1 ⊢
          clear hW3 hgs hm1 HP hx0 hx1 hx2 hx3 hx4 hx5 hx6 hx7 hx8 hx9 hx10
          go_wp2_with (first | (go_at_call 31; go_loud (with_reducible refine (numbers_x gs _).mono ?_); go_loud (rintro e' w' ⟨rfl, hd⟩; have n_ := Aside0.mk (PW.below HP1.out hd); have n2_ := Aside0.mk (blk_below HS1.out hd); clear HP1 HS1 hd; have HP1 := n_; have HS1 := n2_; clear n_ n2_)))
          go_loopw [13, 68] (fun s13 s68 wr => ∃ (j : Nat) (ys : List Int) (A' : Option Addr) (c' : Nat), j ≤ 11 ∧ s68 = .int .i64 j ∧ s13 = .slice A' ys.length c' ∧ ys.length = j ∧ Hid (ys = (nums (⟨s0, s1, s2, s3, s4, s5, s6, s7, s8, s9, s10⟩ : S64)).take j) ∧ Aside0 (Kd.R (Kd.int .i64) 3 wr w.heap.size (fun _ => True) (.slice A' ys.length c') ys) ∧ Aside0 (PW w wr ge #[.int .i64 x0, .int .i64 x1, .int .i64 x2, .int .i64 x3, .string (B tl), .int .i64 x5, .int .i64 x6, .slice (some ad) ss.length c]) ∧ Aside0 (wr.heap[gs]? = some (.cells #[.int .i64 s0, .int .i64 s1, .int .i64 s2, .int .i64 s3, .int .i64 s4, .int .i64 s5, .int .i64 s6, .int .i64 s7, .int .i64 s8, .int .i64 s9, .int .i64 s10] 64 (0, 0)))) (fun _ s68 _ => 11 - (intOf s68).toNat)
          case atStart => exact ⟨0, [], none, 0, by omega, rfl, rfl, rfl, Lib.hid rfl, ⟨Kd.R_nil _ _ _ _ _⟩, HP1, HS1⟩
          case round =>
            clear HP1 HS1
            obtain ⟨j, ys, A', c', hj, rfl, rfl, hyl, HY, HRJ, HP, HSB⟩ := hrel
            have hgsl := blk_lt HSB.out
            by_cases hj11 : j < 11
            case pos =>
              have hji : (j : Int) < 11 := by omega
              have hrix : ∀ W', (Instr.index 66 (.agg #[.pointer (some ⟨gs, 0, none⟩), .pointer (some ⟨gs, 1, none⟩), .pointer (some ⟨gs, 2, none⟩), .pointer (some ⟨gs, 3, none⟩), .pointer (some ⟨gs, 4, none⟩), .pointer (some ⟨gs, 5, none⟩), .pointer (some ⟨gs, 6, none⟩), .pointer (some ⟨gs, 7, none⟩), .pointer (some ⟨gs, 8, none⟩), .pointer (some ⟨gs, 9, none⟩), .pointer (some ⟨gs, 10, none⟩)]) (.int .i64 (j : Int))).run Try.prog W' = .ok (.pointer (some ⟨gs, j, none⟩)) W' := fun W' => ix11 gs j hj11 W'
              have hcell : wr.cell? ⟨gs, j, none⟩ = some (.int .i64 (rd (nums (⟨s0, s1, s2, s3, s4, s5, s6, s7, s8, s9, s10⟩ : S64)) j)) := (blk_cell HSB.out j).trans (nums_at (⟨s0, s1, s2, s3, s4, s5, s6, s7, s8, s9, s10⟩ : S64) j hj11)
              obtain ⟨pj, hpj⟩ : ∃ pj, pj = rd (nums (⟨s0, s1, s2, s3, s4, s5, s6, s7, s8, s9, s10⟩ : S64)) j := ⟨_, rfl⟩
              rw [← hpj] at hcell
              have hle : (ys.length + 1) * 8 ≤ 140737488355328 := by omega
              have HYN : Hid (ys ++ [pj] = (nums (⟨s0, s1, s2, s3, s4, s5, s6, s7, s8, s9, s10⟩ : S64)).take (j + 1)) := Lib.hid (by rw [HY.out, hpj, nums_snoc (⟨s0, s1, s2, s3, s4, s5, s6, s7, s8, s9, s10⟩ : S64) j hj11])
              clear hpj hyl
              go_wp2_with (first | (at_builtin; go_loud (refine Kd.R_append (Kd.int .i64) (w0 := wr) (W := wr) w.heap.size rfl (.tmp 71) (.tmp 75) 41 3 (.int .i64 0) 8 rfl Try.underlying41 info3 rfl (by decide) (by omega) (.slice A' ys.length c') ys pj [.int .i64 pj] (fun _ => True) (fun _ => False) rfl rfl rfl (fun _ h => h.elim) (fun _ _ => trivial) HRJ.out (Below.refl _ _) HP.out.hb.size hle ?_); go_loud (intro v1 w2_ ho hb hg hat; obtain ⟨A2, c2, e2_⟩ := Kd.R_slice ho; subst e2_; have n_ := Aside0.mk (PW.app HP.out HRJ.out hg); have n2_ := Aside0.mk (blk_grown HSB.out hg (Kd.R_ne HRJ.out HSB.out (by decide))); clear HP HSB HRJ hb hg hat; have HP := n_; have HSB := n2_; have HRJ := Aside0.mk ho; clear n_ n2_ ho)))
              go_roundw
              case rel => exact ⟨j + 1, ys ++ [pj], A2, c2, by omega, by go_num, by simp, by rw [HYN.out]; simp [nums]; omega, HYN, HRJ, HP, HSB⟩
              case measure => simp only [intOf]; omega
            case neg =>
            obtain rfl : j = 11 := by omega
            have hyn : ys = nums (⟨s0, s1, s2, s3, s4, s5, s6, s7, s8, s9, s10⟩ : S64) := by rw [HY.out]; rfl
            have HPL : Aside0 (wire_PutList.f (B (b6 ++ putS (ss.take k))) ys = some (B (b6 ++ putS (ss.take (k + 1))))) := ⟨by
              have h1 := putS_len (ss := ss.take k) (fun s hs => HX.out.hs s (List.mem_of_mem_take hs))
              have h2 : (ss.take k).length ≤ ss.length := by rw [List.length_take]; omega
              rw [wire_PutList_eq _ _ (fun x hx => wf64 (HWs.out x (by rw [← hyn]; exact hx))) (by rw [List.length_append]; omega), putS_snoc ss k hks, ← HS.out, ← hyn, List.append_assoc]⟩
            have HYC := Aside0.mk (Kd.R_reads' HRJ.out).2.2
            have hyc := (Kd.R_reads' HRJ.out).2.1
            clear hyn HY hyl
            go_wp2_with (first | (go_at_call 32; go_loud (with_reducible refine (wire_PutList.calls _ A' c' ys _ _ HYC.out hyc HPL.out).mono ?_); go_loud (rintro e' w' ⟨rfl, hd⟩; have n_ := Aside0.mk (PW.below HP.out hd); clear HP hd; have HP := n_; clear n_)))
            refine ⟨⟨_, _, _, _, _, _, _, _, _, _, _, _, _, _, _, _, _, _, _, _, _, _, _, ⟨k + 1, by omega, ?e1, rfl, HP⟩, rfl⟩, ?_⟩
            case e1 => go_num
            simp [intOf]
            omega
end Go.Proofs.Ytcjdnahgffkbdaa.Spt

namespace Go.Proofs.Ytcjdnahgffkbdaa.Q
open Go.RowKit Go.Proofs.YtcjdnahgffkbdaaW.PrintWords Go.Proofs.YtcjdnahgffkbdaaW.PrintLast Go.Proofs.YtcjdnahgffkbdaaW.PrintMore Go.Proofs.Ytcjdnahgffkbdaa.Gput Go.Proofs.Ytcjdnahgffkbdaa.Gputl
attribute [local go_sem] max2_int min2_int max_two min_two max_three min_three max_four min_four   -- for this text's walks alone
set_option linter.unusedVariables false
set_option linter.unusedSimpArgs false
def storagebarterref15_Bytes.l0 : Nat → ByteArray → List Int → Int → Int → Option (ByteArray)
 | 0, _, _, _, _ => none
 | k + 1, x3, x26, x27, x28 => if x28 < x27 then (if 0 ≤ x28 then (if x28 < (x26.length : Int) then ((storagebarterref01_PutInt.f k x3 (rd x26 x28)).bind fun t221 => (storagebarterref15_Bytes.l0 k t221 x26 x27 (wrap64 (x28 + 1)))) else (none)) else (none)) else (some x3)
def storagebarterref15_Bytes.f (k : Nat) (a0_0 : Int) (a0_1 : Int) (a0_2 : Int) (a0_3 : Int) (a0_4 : Int) (a0_5 : Int) (a0_6 : Int) (a0_7 : Int) (a0_8 : Int) (a0_9 : Int) (a0_10 : Int) : Option (ByteArray) := (some (([a0_0, a0_1, a0_2, a0_3, a0_4, a0_5, a0_6, a0_7, a0_8, a0_9] : List Int) : List Int)).bind fun y217 => (storagebarterref15_Bytes.l0 k (⟨#[]⟩ : ByteArray) y217 (y217.length : Int) 0)
theorem storagebarterref15_Bytes.mono_l : ∀ k, (∀ y0 y1 y2 y3, LeO (storagebarterref15_Bytes.l0 k y0 y1 y2 y3) (storagebarterref15_Bytes.l0 (k + 1) y0 y1 y2 y3))
 | 0 => fun _ _ _ _ r h => by simp [storagebarterref15_Bytes.l0] at h
 | k + 1 => by
  have ih0 := storagebarterref15_Bytes.mono_l k
  ·intro y0 y1 y2 y3
   unfold storagebarterref15_Bytes.l0
   repeat' first
   | (with_reducible exact ih0 _ _ _ _)
   | (with_reducible exact storagebarterref01_PutInt.mono _ _ _)
   | (with_reducible exact LeO.refl _)
   | (with_reducible exact LeO.none _)
   | (with_reducible refine LeO.ite ?_ ?_)
   | (with_reducible refine LeO.bind ?_ (fun _ => ?_))
   | exact ih0 _ _ _ _
   | exact storagebarterref01_PutInt.mono _ _ _
   | exact LeO.none _
   | refine LeO.ite ?_ ?_
   | refine LeO.bind ?_ (fun _ => ?_)
theorem storagebarterref15_Bytes.mono : ∀ a0 a1 a2 a3 a4 a5 a6 a7 a8 a9 a10 k, LeO (storagebarterref15_Bytes.f k a0 a1 a2 a3 a4 a5 a6 a7 a8 a9 a10) (storagebarterref15_Bytes.f (k + 1) a0 a1 a2 a3 a4 a5 a6 a7 a8 a9 a10) := by
 intro a0 a1 a2 a3 a4 a5 a6 a7 a8 a9 a10 k
 have ih0 := storagebarterref15_Bytes.mono_l k
 unfold storagebarterref15_Bytes.f
 repeat' first
  | (with_reducible exact ih0 _ _ _ _)
  | (with_reducible exact storagebarterref01_PutInt.mono _ _ _)
  | (with_reducible exact LeO.refl _)
  | (with_reducible exact LeO.none _)
  | (with_reducible refine LeO.ite ?_ ?_)
  | (with_reducible refine LeO.bind ?_ (fun _ => ?_))
  | exact ih0 _ _ _ _
  | exact storagebarterref01_PutInt.mono _ _ _
  | exact LeO.none _
  | refine LeO.ite ?_ ?_
  | refine LeO.bind ?_ (fun _ => ?_)
set_option maxHeartbeats 8000000 in
set_option maxRecDepth 100000 in
theorem storagebarterref15_Bytes.calls (k : Nat) (a0_0 : Int) (a0_1 : Int) (a0_2 : Int) (a0_3 : Int) (a0_4 : Int) (a0_5 : Int) (a0_6 : Int) (a0_7 : Int) (a0_8 : Int) (a0_9 : Int) (a0_10 : Int) (r : ByteArray) (w : World) (h : storagebarterref15_Bytes.f k a0_0 a0_1 a0_2 a0_3 a0_4 a0_5 a0_6 a0_7 a0_8 a0_9 a0_10 = some r) :
 Calls Try.prog 68 #[.agg #[.int .i64 a0_0, .int .i64 a0_1, .int .i64 a0_2, .int .i64 a0_3, .int .i64 a0_4, .int .i64 a0_5, .int .i64 a0_6, .int .i64 a0_7, .int .i64 a0_8, .int .i64 a0_9, .int .i64 a0_10]] w fun e w' => e = .returned (.string r) ∧ Below w.heap.size w w' := by
 have hu64 := Try.underlying64
 have HB := Aside0.mk (Below.refl w.heap.size w)
 have H : ((some (([a0_0, a0_1, a0_2, a0_3, a0_4, a0_5, a0_6, a0_7, a0_8, a0_9] : List Int) : List Int)).bind fun y217 => (storagebarterref15_Bytes.l0 k (⟨#[]⟩ : ByteArray) y217 (y217.length : Int) 0)) = some r := h
 clear h
 obtain ⟨y217, hy217⟩ : ∃ y_ : List Int, y_ = (([a0_0, a0_1, a0_2, a0_3, a0_4, a0_5, a0_6, a0_7, a0_8, a0_9] : List Int)) := ⟨_, rfl⟩
 replace H : (storagebarterref15_Bytes.l0 k (⟨#[]⟩ : ByteArray) y217 (y217.length : Int) 0) = some r := by first | (rw [hy217]; with_reducible exact H) | (have H2_ := (Option.bind_some _ _).symm.trans H; rw [hy217]; with_reducible exact H2_) | (have H2_ := (Option.bind_some _ _).symm.trans H; with_reducible exact H2_) | with_reducible exact H | (rw [hy217]; exact H) | exact H
 have Ny217 := Aside0.mk hy217
 clear hy217
 have H' := Aside0.mk H
 clear H
 go_enter Try.func68, Try.ntmps68
 go_wp2_with (first | ((with_reducible refine gate_dst (N := 1) rfl ?_); refine box_event ?hg (N := 1) ?hd (cs := #[.int .i64 a0_0, .int .i64 a0_1, .int .i64 a0_2, .int .i64 a0_3, .int .i64 a0_4, .int .i64 a0_5, .int .i64 a0_6, .int .i64 a0_7, .int .i64 a0_8, .int .i64 a0_9, .int .i64 a0_10]) (t := 64) ?hr ?_; (case hd => rfl); (case hg => rfl); (case hr => first | (go_simp; done) | (go_simp; rfl)); intro gb216 hg w2 hbox hb; have n0_ := Aside0.mk (below_step (by repeat (first | (with_reducible first | exact HB.out | apply below_alloc | apply pw_below_drewN | apply below_drew1) | exact HB.out)) hb); have n1_ := Aside0.mk (hbox); have n2_ := Aside0.mk ((by rw [hg]; exact (below_size (by repeat (first | (with_reducible first | exact HB.out | apply below_alloc | apply pw_below_drewN | apply below_drew1) | exact HB.out))) : w.heap.size ≤ gb216)); have n3_ := Aside0.mk ((by rw [hg]; exact (below_size (by repeat (first | (with_reducible first | exact HB.out | apply below_alloc | apply pw_below_drewN | apply below_drew1) | exact HB.out))) : w.heap.size ≤ gb216)); clear HB; have HB := n0_; have BK216 := n1_; have GW216 := n2_; have GE216 := n3_; clear n0_ n1_ n2_ n3_; clear hb hbox hg; have hcz3_0 : w2.cell? ⟨gb216, 0, none⟩ = some (.int .i64 a0_0) := (blk_cell BK216.out 0).trans rfl; have hcz3_1 : w2.cell? ⟨gb216, 1, none⟩ = some (.int .i64 a0_1) := (blk_cell BK216.out 1).trans rfl; have hcz3_2 : w2.cell? ⟨gb216, 2, none⟩ = some (.int .i64 a0_2) := (blk_cell BK216.out 2).trans rfl; have hcz3_3 : w2.cell? ⟨gb216, 3, none⟩ = some (.int .i64 a0_3) := (blk_cell BK216.out 3).trans rfl; have hcz3_4 : w2.cell? ⟨gb216, 4, none⟩ = some (.int .i64 a0_4) := (blk_cell BK216.out 4).trans rfl; have hcz3_5 : w2.cell? ⟨gb216, 5, none⟩ = some (.int .i64 a0_5) := (blk_cell BK216.out 5).trans rfl; have hcz3_6 : w2.cell? ⟨gb216, 6, none⟩ = some (.int .i64 a0_6) := (blk_cell BK216.out 6).trans rfl; have hcz3_7 : w2.cell? ⟨gb216, 7, none⟩ = some (.int .i64 a0_7) := (blk_cell BK216.out 7).trans rfl; have hcz3_8 : w2.cell? ⟨gb216, 8, none⟩ = some (.int .i64 a0_8) := (blk_cell BK216.out 8).trans rfl; have hcz3_9 : w2.cell? ⟨gb216, 9, none⟩ = some (.int .i64 a0_9) := (blk_cell BK216.out 9).trans rfl; have hcz3_10 : w2.cell? ⟨gb216, 10, none⟩ = some (.int .i64 a0_10) := (blk_cell BK216.out 10).trans rfl; have hfz3_0 := blk_frozen BK216.out 0; have hfz3_1 := blk_frozen BK216.out 1; have hfz3_2 := blk_frozen BK216.out 2; have hfz3_3 := blk_frozen BK216.out 3; have hfz3_4 := blk_frozen BK216.out 4; have hfz3_5 := blk_frozen BK216.out 5; have hfz3_6 := blk_frozen BK216.out 6; have hfz3_7 := blk_frozen BK216.out 7; have hfz3_8 := blk_frozen BK216.out 8; have hfz3_9 := blk_frozen BK216.out 9; have hfz3_10 := blk_frozen BK216.out 10) | ((with_reducible refine gate_dst (N := 26) rfl ?_); refine Kd.R_lit (Kd.int .i64) _ 3 ?hg (N := 26) ?hd (xs := ([a0_0, a0_1, a0_2, a0_3, a0_4, a0_5, a0_6, a0_7, a0_8, a0_9] : List Int)) (inner := [.int .i64 a0_0, .int .i64 a0_1, .int .i64 a0_2, .int .i64 a0_3, .int .i64 a0_4, .int .i64 a0_5, .int .i64 a0_6, .int .i64 a0_7, .int .i64 a0_8, .int .i64 a0_9]) (ok := fun _ => True) (okp := fun _ => True) ?hr ?hp (fun _ hk => hk) trivial (Below.refl _ _) (Nat.le_refl _) (by simp) ?_; (case hd => rfl); (case hg => rfl); (case hr => first | (go_simp; done) | (go_simp; rfl)); (case hp => exact (Reps.one (show Kd.M (Kd.int .i64) _ _ _ a0_0 [.int .i64 a0_0] from rfl) (Reps.one (show Kd.M (Kd.int .i64) _ _ _ a0_1 [.int .i64 a0_1] from rfl) (Reps.one (show Kd.M (Kd.int .i64) _ _ _ a0_2 [.int .i64 a0_2] from rfl) (Reps.one (show Kd.M (Kd.int .i64) _ _ _ a0_3 [.int .i64 a0_3] from rfl) (Reps.one (show Kd.M (Kd.int .i64) _ _ _ a0_4 [.int .i64 a0_4] from rfl) (Reps.one (show Kd.M (Kd.int .i64) _ _ _ a0_5 [.int .i64 a0_5] from rfl) (Reps.one (show Kd.M (Kd.int .i64) _ _ _ a0_6 [.int .i64 a0_6] from rfl) (Reps.one (show Kd.M (Kd.int .i64) _ _ _ a0_7 [.int .i64 a0_7] from rfl) (Reps.one (show Kd.M (Kd.int .i64) _ _ _ a0_8 [.int .i64 a0_8] from rfl) (Reps.one (show Kd.M (Kd.int .i64) _ _ _ a0_9 [.int .i64 a0_9] from rfl) (Reps.none _ _)))))))))))); intro v218 w4 ho5 hb hg_ hnew_; clear hg_ hnew_; (first | rw [← Ny217.out] at ho5 | (simp only [Int.reduceToNat] at ho5; rw [← Ny217.out] at ho5)); have n0_ := Aside0.mk (Kd.R_lower ho5 (below_size (by repeat (first | (with_reducible first | exact HB.out | apply below_alloc | apply pw_below_drewN | apply below_drew1 | refine below_set ?_ GE216.out) | exact HB.out)))); have n1_ := Aside0.mk (blk_below (g := gb216) (o := .cells #[.int .i64 a0_0, .int .i64 a0_1, .int .i64 a0_2, .int .i64 a0_3, .int .i64 a0_4, .int .i64 a0_5, .int .i64 a0_6, .int .i64 a0_7, .int .i64 a0_8, .int .i64 a0_9, .int .i64 a0_10] 64 (0, 0)) (by (with_reducible repeat (first | refine blk_drewN ?_ _ | refine blk_drew ?_ | refine blk_alloc ?_ _)); exact BK216.out) hb); have n2_ := Aside0.mk (below_step (by repeat (first | (with_reducible first | exact HB.out | apply below_alloc | apply pw_below_drewN | apply below_drew1 | refine below_set ?_ GE216.out) | exact HB.out)) hb); clear BK216; clear HB; have HO219 := n0_; have BK216 := n1_; have HB := n2_; clear n0_ n1_ n2_; clear hb ho5; obtain ⟨Ao6, co6, eo6⟩ := Kd.R_slice HO219.out; subst eo6))
 go_loopg [3, 28] k (fun kq v3 v28 w' => ∃ (x3_1 : ByteArray) (x28_1 : Int), v3 = .string x3_1 ∧ v28 = .int .i64 x28_1 ∧ Aside0 (storagebarterref15_Bytes.l0 kq x3_1 y217 (y217.length : Int) x28_1 = some r) ∧ Aside0 (kq ≤ k) ∧ Aside0 (Kd.R (Kd.int .i64) 3 w' w.heap.size (fun _ => True) (.slice Ao6 y217.length co6) y217) ∧ Aside0 (w'.heap[gb216]? = some (.cells #[.int .i64 a0_0, .int .i64 a0_1, .int .i64 a0_2, .int .i64 a0_3, .int .i64 a0_4, .int .i64 a0_5, .int .i64 a0_6, .int .i64 a0_7, .int .i64 a0_8, .int .i64 a0_9, .int .i64 a0_10] 64 (0, 0))) ∧ Aside0 (Below w.heap.size w w'))
 case atStart => exact ⟨((⟨#[]⟩ : ByteArray)), (0), (by first | rfl | (simp; done) | (simp [*]; done)), (by first | rfl | (simp; done) | (simp [*]; done)), H', ⟨Nat.le_refl _⟩, ⟨by (with_reducible repeat (first | apply Kd.R_alloc | apply Kd.R_drewN | apply Kd.R_drew)); exact HO219.out⟩, ⟨by (with_reducible repeat (first | refine blk_drewN ?_ _ | refine blk_drew ?_ | refine blk_alloc ?_ _)); exact BK216.out⟩, ⟨by repeat (first | (with_reducible first | exact HB.out | apply below_alloc | apply pw_below_drewN | apply below_drew1 | refine below_set ?_ GE216.out) | exact HB.out)⟩⟩
 case round =>
  clear H'
  try clear p2
  try clear c6
  try clear hcz3_0
  try clear hcz3_1
  try clear hcz3_10
  try clear hcz3_2
  try clear hcz3_3
  try clear hcz3_4
  try clear hcz3_5
  try clear hcz3_6
  try clear hcz3_7
  try clear hcz3_8
  try clear hcz3_9
  try clear hfz3_0
  try clear hfz3_1
  try clear hfz3_10
  try clear hfz3_2
  try clear hfz3_3
  try clear hfz3_4
  try clear hfz3_5
  try clear hfz3_6
  try clear hfz3_7
  try clear hfz3_8
  try clear hfz3_9
  obtain ⟨x3_1, x28_1, rfl, rfl, HA, HK1, HO_26, BK216, HB⟩ := hrel
  cases gk with
  | zero => exact absurd HA.out (by simp [storagebarterref15_Bytes.l0])
  | succ k1 =>
   have H := HA.out
   clear HA
   simp only [storagebarterref15_Bytes.l0] at H
   by_cases c7 : x28_1 < (y217.length : Int)
   ·rw [if_pos c7] at H
    have c7b0 : decide (x28_1 < (y217.length : Int)) = true := decide_eq_true c7
    clear c7
    by_cases c8 : 0 ≤ x28_1
    ·rw [if_pos c8] at H
     have c8b0 : decide (0 ≤ x28_1) = true := decide_eq_true c8
     clear c8
     by_cases c9 : x28_1 < (y217.length : Int)
     ·rw [if_pos c9] at H
      have c9b0 : decide (x28_1 < (y217.length : Int)) = true := decide_eq_true c9
      clear c9
      replace H := Option.bind_eq_some_iff.mp H
      obtain ⟨t221, A100, H⟩ := H
      replace H : (storagebarterref15_Bytes.l0 k1 t221 y217 (y217.length : Int) (wrap64 (x28_1 + 1))) = some r := H
      have A10 := Aside0.mk A100
      clear A100
      have H' := Aside0.mk H
      clear H
      have p220 : 0 ≤ (x28_1 : Int) := of_decide_eq_true (by first | (with_reducible assumption) | assumption)
      have q220 : x28_1 < (y217.length : Int) := of_decide_eq_true (by first | (with_reducible assumption) | assumption)
      obtain ⟨ad220, e220, hx220_0⟩ := Kd.at_int (Kd.R_reads' HO_26.out).2.2 x28_1 p220 q220
      cases e220
      replace p220 := eq_true p220
      replace q220 := eq_true q220
      go_wp2_with (first | ((with_reducible refine gate_callee (f := 25) rfl ?_); refine goesL_ (some 34) rfl rfl Try.func25 (by kernel_rfl) rfl #[.string x3_1, .int .i64 (rd y217 x28_1)] rfl (by (try simp only [List.map_toArray, List.map_cons, List.map_nil]); first | done | rfl | (simp only [List.length_drop, List.length_take]; rfl)) ?_; (with_reducible refine (storagebarterref01_PutInt.calls k1 x3_1 (rd y217 x28_1) t221 _ A10.out).mono ?_); rintro e w11 ⟨rfl, hb⟩; refine ⟨_, rfl, ?_⟩; have n0_ := Aside0.mk (Kd.R_below (by (with_reducible repeat (first | apply Kd.R_alloc | apply Kd.R_drewN | apply Kd.R_drew)); exact HO_26.out) hb); have n1_ := Aside0.mk (blk_below (g := gb216) (o := .cells #[.int .i64 a0_0, .int .i64 a0_1, .int .i64 a0_2, .int .i64 a0_3, .int .i64 a0_4, .int .i64 a0_5, .int .i64 a0_6, .int .i64 a0_7, .int .i64 a0_8, .int .i64 a0_9, .int .i64 a0_10] 64 (0, 0)) (by (with_reducible repeat (first | refine blk_drewN ?_ _ | refine blk_drew ?_ | refine blk_alloc ?_ _)); exact BK216.out) hb); have n2_ := Aside0.mk (below_step (by repeat (first | (with_reducible first | exact HB.out | apply below_alloc | apply pw_below_drewN | apply below_drew1 | refine below_set ?_ GE216.out) | exact HB.out)) hb); clear HO_26; clear BK216; clear HB; have HO_26 := n0_; have BK216 := n1_; have HB := n2_; clear n0_ n1_ n2_; (try clear hb); (try clear hb2); (try clear hk); (try clear hi)))
      go_roundg k1
      case measure => have := HK1.out; omega
      case rel => exact ⟨(t221), (wrap64 (x28_1 + 1)), (by first | rfl | (simp; done) | (simp [*]; done)), (by first | rfl | (simp; done) | (simp [*]; done)), H', ⟨by have := HK1.out; omega⟩, ⟨by (with_reducible repeat (first | apply Kd.R_alloc | apply Kd.R_drewN | apply Kd.R_drew)); exact HO_26.out⟩, ⟨by (with_reducible repeat (first | refine blk_drewN ?_ _ | refine blk_drew ?_ | refine blk_alloc ?_ _)); exact BK216.out⟩, ⟨by repeat (first | (with_reducible first | exact HB.out | apply below_alloc | apply pw_below_drewN | apply below_drew1 | refine below_set ?_ GE216.out) | exact HB.out)⟩⟩
     ·rw [if_neg c9] at H
      exact absurd H (by simp)
    ·rw [if_neg c8] at H
     exact absurd H (by simp)
   ·rw [if_neg c7] at H
    have c7b0 : decide (x28_1 < (y217.length : Int)) = false := decide_eq_false c7
    clear c7
    obtain rfl := Option.some.inj H
    go_wp2
    go_ret
    exact ⟨by first | rfl | (simp [errW_none, errW_some] <;> rfl) | (simp [*, errW_none, errW_some] <;> rfl), by repeat (first | (with_reducible first | exact HB.out | apply below_alloc | apply pw_below_drewN | apply below_drew1 | refine below_set ?_ GE216.out) | exact HB.out)⟩
end Go.Proofs.Ytcjdnahgffkbdaa.Q

namespace Go.Proofs.Ytcjdnahgffkbdaa.Q
open Go.RowKit Go.Proofs.YtcjdnahgffkbdaaW.PrintWords Go.Proofs.YtcjdnahgffkbdaaW.PrintLast Go.Proofs.YtcjdnahgffkbdaaW.PrintMore Go.Proofs.Ytcjdnahgffkbdaa.Gput Go.Proofs.Ytcjdnahgffkbdaa.Gputl
attribute [local go_sem] max2_int min2_int max_two min_two max_three min_three max_four min_four   -- for this text's walks alone
set_option linter.unusedVariables false
set_option linter.unusedSimpArgs false
def storagebarterref15_in.f (a0 : Int) (a1 : Int) (a2 : Int) : Option (Bool) := if a0 ≥ a1 then (some (decide (a0 ≤ a2))) else (some false)
set_option maxHeartbeats 8000000 in
set_option maxRecDepth 100000 in
theorem storagebarterref15_in.calls (a0 : Int) (a1 : Int) (a2 : Int) (r : Bool) (w : World) (h : storagebarterref15_in.f a0 a1 a2 = some r) :
 Calls Try.prog 66 #[.int .i64 a0, .int .i64 a1, .int .i64 a2] w fun e w' => e = .returned (.bool r) ∧ Drawn0 w w' := by
 have H : (if a0 ≥ a1 then (some (decide (a0 ≤ a2))) else (some false)) = some r := h
 clear h
 by_cases c4 : a0 ≥ a1
 ·rw [if_pos c4] at H
  have c4b0 : decide (a1 ≤ a0) = true := decide_eq_true c4
  clear c4
  obtain rfl := Option.some.inj H
  go_enter Try.func66, Try.ntmps66
  go_wp2
  go_ret
  exact ⟨by first | rfl | (simp; done) | (simp [*]; done), by repeat (first | exact Drawn0.refl _ | apply Drawn0.step)⟩
 ·rw [if_neg c4] at H
  have c4b0 : decide (a1 ≤ a0) = false := decide_eq_false c4
  clear c4
  obtain rfl := Option.some.inj H
  go_enter Try.func66, Try.ntmps66
  go_wp2
  go_ret
  exact ⟨by first | rfl | (simp; done) | (simp [*]; done), by repeat (first | exact Drawn0.refl _ | apply Drawn0.step)⟩
end Go.Proofs.Ytcjdnahgffkbdaa.Q

namespace Go.Proofs.Ytcjdnahgffkbdaa.Q
open Go.RowKit Go.Proofs.YtcjdnahgffkbdaaW.PrintWords Go.Proofs.YtcjdnahgffkbdaaW.PrintLast Go.Proofs.YtcjdnahgffkbdaaW.PrintMore Go.Proofs.Ytcjdnahgffkbdaa.Gput Go.Proofs.Ytcjdnahgffkbdaa.Gputl
attribute [local go_sem] max2_int min2_int max_two min_two max_three min_three max_four min_four   -- for this text's walks alone
set_option linter.unusedVariables false
set_option linter.unusedSimpArgs false
def storagebarterref15_lock.f (a0 : Int) : Option (Bool) := if a0 ≥ 1 then (if (Int.tmod a0 3) = 1 then (some (decide ((wrap64 (Int.tdiv a0 3)) < 4294967294))) else (some false)) else (some false)
set_option maxHeartbeats 8000000 in
set_option maxRecDepth 100000 in
theorem storagebarterref15_lock.calls (a0 : Int) (r : Bool) (w : World) (h : storagebarterref15_lock.f a0 = some r) :
 Calls Try.prog 73 #[.int .i64 a0] w fun e w' => e = .returned (.bool r) ∧ Drawn0 w w' := by
 have H : (if a0 ≥ 1 then (if (Int.tmod a0 3) = 1 then (some (decide ((wrap64 (Int.tdiv a0 3)) < 4294967294))) else (some false)) else (some false)) = some r := h
 clear h
 by_cases c2 : a0 ≥ 1
 ·rw [if_pos c2] at H
  have c2b0 : decide (1 ≤ a0) = true := decide_eq_true c2
  clear c2
  by_cases c3 : (Int.tmod a0 3) = 1
  ·rw [if_pos c3] at H
   have c3b0 : ((Int.tmod a0 3) == 1) = true := beq_iff_eq.mpr c3
   have c3b1 : ((Int.tmod a0 3) != 1) = false := bne_eq_false_iff_eq.mpr c3
   clear c3
   obtain rfl := Option.some.inj H
   go_enter Try.func73, Try.ntmps73
   go_wp2
   go_ret
   exact ⟨by first | rfl | (simp; done) | (simp [*]; done), by repeat (first | exact Drawn0.refl _ | apply Drawn0.step)⟩
  ·rw [if_neg c3] at H
   have c3b0 : ((Int.tmod a0 3) == 1) = false := beq_eq_false_iff_ne.mpr c3
   have c3b1 : ((Int.tmod a0 3) != 1) = true := bne_iff_ne.mpr c3
   obtain rfl := Option.some.inj H
   go_enter Try.func73, Try.ntmps73
   go_wp2
   go_ret
   exact ⟨by first | rfl | (simp; done) | (simp [*]; done), by repeat (first | exact Drawn0.refl _ | apply Drawn0.step)⟩
 ·rw [if_neg c2] at H
  have c2b0 : decide (1 ≤ a0) = false := decide_eq_false c2
  clear c2
  obtain rfl := Option.some.inj H
  go_enter Try.func73, Try.ntmps73
  go_wp2
  go_ret
  exact ⟨by first | rfl | (simp; done) | (simp [*]; done), by repeat (first | exact Drawn0.refl _ | apply Drawn0.step)⟩
end Go.Proofs.Ytcjdnahgffkbdaa.Q

namespace Go.Proofs.Ytcjdnahgffkbdaa.Q
open Go.RowKit Go.Proofs.YtcjdnahgffkbdaaW.PrintWords Go.Proofs.YtcjdnahgffkbdaaW.PrintLast Go.Proofs.YtcjdnahgffkbdaaW.PrintMore Go.Proofs.Ytcjdnahgffkbdaa.Gput Go.Proofs.Ytcjdnahgffkbdaa.Gputl
attribute [local go_sem] max2_int min2_int max_two min_two max_three min_three max_four min_four   -- for this text's walks alone
set_option linter.unusedVariables false
set_option linter.unusedSimpArgs false
mutual
def storagebarterref15_parts.j0 : Nat → Bool → Bool → Int → Int → Int → Int → Int → Int → Int → Int → Int → Int → Int → Option (Bool)
 | 0, _, _, _, _, _, _, _, _, _, _, _, _, _ => none
 | k + 1, x3, x4, x226000, x226001, x226002, x226003, x226004, x226005, x226006, x226007, x226008, x226009, x226010 => (storagebarterref15_in.f x226009 (wrap64 (x226004 + 1)) (wrap64 (x226004 + 65536))).bind fun t229 => (if t229 = true then (storagebarterref15_parts.j1 k x3 x4 (decide (x226009 ≤ 1048576)) x226000 x226001 x226002 x226003 x226004 x226005 x226006 x226007 x226008 x226009 x226010) else (storagebarterref15_parts.j1 k x3 x4 false x226000 x226001 x226002 x226003 x226004 x226005 x226006 x226007 x226008 x226009 x226010))
def storagebarterref15_parts.j1 : Nat → Bool → Bool → Bool → Int → Int → Int → Int → Int → Int → Int → Int → Int → Int → Int → Option (Bool)
 | 0, _, _, _, _, _, _, _, _, _, _, _, _, _, _ => none
 | k + 1, x3, x4, x5, x226000, x226001, x226002, x226003, x226004, x226005, x226006, x226007, x226008, x226009, x226010 => if x226007 = 0 then (storagebarterref15_parts.j2 k x3 x4 x5 (x226008 == 0) x226000 x226001 x226002 x226003 x226004 x226005 x226006 x226007 x226008 x226009 x226010) else (storagebarterref15_parts.j2 k x3 x4 x5 false x226000 x226001 x226002 x226003 x226004 x226005 x226006 x226007 x226008 x226009 x226010)
def storagebarterref15_parts.j2 : Nat → Bool → Bool → Bool → Bool → Int → Int → Int → Int → Int → Int → Int → Int → Int → Int → Int → Option (Bool)
 | 0, _, _, _, _, _, _, _, _, _, _, _, _, _, _, _ => none
 | k + 1, x3, x4, x5, x6, x226000, x226001, x226002, x226003, x226004, x226005, x226006, x226007, x226008, x226009, x226010 => if x226005 = 1 then (if x3 = true then (if x4 = true then (some x5) else (some false)) else (some false)) else (if x226005 = 2 then (if x3 = true then (if x6 = true then (some x5) else (some false)) else (some false)) else (if x226005 = 3 then (storagebarterref15_parts.j3 k x3 x4 x6 x226005 (x226005 == 3) x226000 x226001 x226002 x226003 x226004 x226005 x226006 x226007 x226008 x226009 x226010) else (storagebarterref15_parts.j3 k x3 x4 x6 x226005 (x226005 == 5) x226000 x226001 x226002 x226003 x226004 x226005 x226006 x226007 x226008 x226009 x226010)))
def storagebarterref15_parts.j3 : Nat → Bool → Bool → Bool → Int → Bool → Int → Int → Int → Int → Int → Int → Int → Int → Int → Int → Int → Option (Bool)
 | 0, _, _, _, _, _, _, _, _, _, _, _, _, _, _, _, _ => none
 | k + 1, x3, x4, x6, x41, x60, x226000, x226001, x226002, x226003, x226004, x226005, x226006, x226007, x226008, x226009, x226010 => if x60 = true then (if x3 = true then (if x6 = true then (some (x226009 == 0)) else (some false)) else (some false)) else (if x41 = 4 then (if x3 = true then (if x4 = true then (some (x226009 == 0)) else (some false)) else (some false)) else (if x41 = 6 then ((storagebarterref15_in.f x226006 0 2147483646).bind fun t230 => (if t230 = true then ((storagebarterref15_in.f x226007 0 2147483646).bind fun t231 => (if t231 = true then ((storagebarterref15_in.f x226008 0 256).bind fun t232 => (if t232 = true then (some (x226009 == 0)) else (some false))) else (some false))) else (some false))) else (if x41 = 7 then ((storagebarterref15_in.f x226006 0 2147483646).bind fun t233 => (if t233 = true then (if x4 = true then ((storagebarterref15_lock.f x226009).bind fun t234 => (some t234)) else (some false)) else (some false))) else (if x41 = 8 then ((storagebarterref15_in.f x226006 0 2147483646).bind fun t235 => (if t235 = true then ((storagebarterref15_in.f x226007 0 4294967293).bind fun t236 => (if t236 = true then (if x226008 = 0 then (some (x226009 == 0)) else (some false)) else (some false))) else (some false))) else (some false)))))
end
def storagebarterref15_parts.f (k : Nat) (a0_0 : Int) (a0_1 : Int) (a0_2 : Int) (a0_3 : Int) (a0_4 : Int) (a0_5 : Int) (a0_6 : Int) (a0_7 : Int) (a0_8 : Int) (a0_9 : Int) (a0_10 : Int) : Option (Bool) := (storagebarterref15_in.f a0_6 0 63).bind fun t226 => ((storagebarterref15_in.f a0_7 0 2147483646).bind fun t227 => (if t227 = true then ((storagebarterref15_in.f a0_8 1 1024).bind fun t228 => (storagebarterref15_parts.j0 k t226 t228 a0_0 a0_1 a0_2 a0_3 a0_4 a0_5 a0_6 a0_7 a0_8 a0_9 a0_10)) else (storagebarterref15_parts.j0 k t226 false a0_0 a0_1 a0_2 a0_3 a0_4 a0_5 a0_6 a0_7 a0_8 a0_9 a0_10)))
theorem storagebarterref15_parts.mono_l : ∀ k, (∀ y0 y1 y2 y3 y4 y5 y6 y7 y8 y9 y10 y11 y12, LeO (storagebarterref15_parts.j0 k y0 y1 y2 y3 y4 y5 y6 y7 y8 y9 y10 y11 y12) (storagebarterref15_parts.j0 (k + 1) y0 y1 y2 y3 y4 y5 y6 y7 y8 y9 y10 y11 y12)) ∧ (∀ y0 y1 y2 y3 y4 y5 y6 y7 y8 y9 y10 y11 y12 y13, LeO (storagebarterref15_parts.j1 k y0 y1 y2 y3 y4 y5 y6 y7 y8 y9 y10 y11 y12 y13) (storagebarterref15_parts.j1 (k + 1) y0 y1 y2 y3 y4 y5 y6 y7 y8 y9 y10 y11 y12 y13)) ∧ (∀ y0 y1 y2 y3 y4 y5 y6 y7 y8 y9 y10 y11 y12 y13 y14, LeO (storagebarterref15_parts.j2 k y0 y1 y2 y3 y4 y5 y6 y7 y8 y9 y10 y11 y12 y13 y14) (storagebarterref15_parts.j2 (k + 1) y0 y1 y2 y3 y4 y5 y6 y7 y8 y9 y10 y11 y12 y13 y14)) ∧ (∀ y0 y1 y2 y3 y4 y5 y6 y7 y8 y9 y10 y11 y12 y13 y14 y15, LeO (storagebarterref15_parts.j3 k y0 y1 y2 y3 y4 y5 y6 y7 y8 y9 y10 y11 y12 y13 y14 y15) (storagebarterref15_parts.j3 (k + 1) y0 y1 y2 y3 y4 y5 y6 y7 y8 y9 y10 y11 y12 y13 y14 y15))
 | 0 => ⟨fun _ _ _ _ _ _ _ _ _ _ _ _ _ r h => by simp [storagebarterref15_parts.j0] at h, fun _ _ _ _ _ _ _ _ _ _ _ _ _ _ r h => by simp [storagebarterref15_parts.j1] at h, fun _ _ _ _ _ _ _ _ _ _ _ _ _ _ _ r h => by simp [storagebarterref15_parts.j2] at h, fun _ _ _ _ _ _ _ _ _ _ _ _ _ _ _ _ r h => by simp [storagebarterref15_parts.j3] at h⟩
 | k + 1 => by
  obtain ⟨ih0, ih1, ih2, ih3⟩ := storagebarterref15_parts.mono_l k
  refine ⟨?_, ?_, ?_, ?_⟩
  ·intro y0 y1 y2 y3 y4 y5 y6 y7 y8 y9 y10 y11 y12
   unfold storagebarterref15_parts.j0
   repeat' first
   | (with_reducible exact ih0 _ _ _ _ _ _ _ _ _ _ _ _ _)
   | (with_reducible exact ih1 _ _ _ _ _ _ _ _ _ _ _ _ _ _)
   | (with_reducible exact ih2 _ _ _ _ _ _ _ _ _ _ _ _ _ _ _)
   | (with_reducible exact ih3 _ _ _ _ _ _ _ _ _ _ _ _ _ _ _ _)
   | (with_reducible exact LeO.refl _)
   | (with_reducible exact LeO.none _)
   | (with_reducible refine LeO.ite ?_ ?_)
   | (with_reducible refine LeO.bind ?_ (fun _ => ?_))
   | exact ih0 _ _ _ _ _ _ _ _ _ _ _ _ _
   | exact ih1 _ _ _ _ _ _ _ _ _ _ _ _ _ _
   | exact ih2 _ _ _ _ _ _ _ _ _ _ _ _ _ _ _
   | exact ih3 _ _ _ _ _ _ _ _ _ _ _ _ _ _ _ _
   | exact LeO.none _
   | refine LeO.ite ?_ ?_
   | refine LeO.bind ?_ (fun _ => ?_)
  ·intro y0 y1 y2 y3 y4 y5 y6 y7 y8 y9 y10 y11 y12 y13
   unfold storagebarterref15_parts.j1
   repeat' first
   | (with_reducible exact ih0 _ _ _ _ _ _ _ _ _ _ _ _ _)
   | (with_reducible exact ih1 _ _ _ _ _ _ _ _ _ _ _ _ _ _)
   | (with_reducible exact ih2 _ _ _ _ _ _ _ _ _ _ _ _ _ _ _)
   | (with_reducible exact ih3 _ _ _ _ _ _ _ _ _ _ _ _ _ _ _ _)
   | (with_reducible exact LeO.refl _)
   | (with_reducible exact LeO.none _)
   | (with_reducible refine LeO.ite ?_ ?_)
   | (with_reducible refine LeO.bind ?_ (fun _ => ?_))
   | exact ih0 _ _ _ _ _ _ _ _ _ _ _ _ _
   | exact ih1 _ _ _ _ _ _ _ _ _ _ _ _ _ _
   | exact ih2 _ _ _ _ _ _ _ _ _ _ _ _ _ _ _
   | exact ih3 _ _ _ _ _ _ _ _ _ _ _ _ _ _ _ _
   | exact LeO.none _
   | refine LeO.ite ?_ ?_
   | refine LeO.bind ?_ (fun _ => ?_)
  ·intro y0 y1 y2 y3 y4 y5 y6 y7 y8 y9 y10 y11 y12 y13 y14
   unfold storagebarterref15_parts.j2
   repeat' first
   | (with_reducible exact ih0 _ _ _ _ _ _ _ _ _ _ _ _ _)
   | (with_reducible exact ih1 _ _ _ _ _ _ _ _ _ _ _ _ _ _)
   | (with_reducible exact ih2 _ _ _ _ _ _ _ _ _ _ _ _ _ _ _)
   | (with_reducible exact ih3 _ _ _ _ _ _ _ _ _ _ _ _ _ _ _ _)
   | (with_reducible exact LeO.refl _)
   | (with_reducible exact LeO.none _)
   | (with_reducible refine LeO.ite ?_ ?_)
   | (with_reducible refine LeO.bind ?_ (fun _ => ?_))
   | exact ih0 _ _ _ _ _ _ _ _ _ _ _ _ _
   | exact ih1 _ _ _ _ _ _ _ _ _ _ _ _ _ _
   | exact ih2 _ _ _ _ _ _ _ _ _ _ _ _ _ _ _
   | exact ih3 _ _ _ _ _ _ _ _ _ _ _ _ _ _ _ _
   | exact LeO.none _
   | refine LeO.ite ?_ ?_
   | refine LeO.bind ?_ (fun _ => ?_)
  ·intro y0 y1 y2 y3 y4 y5 y6 y7 y8 y9 y10 y11 y12 y13 y14 y15
   unfold storagebarterref15_parts.j3
   repeat' first
   | (with_reducible exact ih0 _ _ _ _ _ _ _ _ _ _ _ _ _)
   | (with_reducible exact ih1 _ _ _ _ _ _ _ _ _ _ _ _ _ _)
   | (with_reducible exact ih2 _ _ _ _ _ _ _ _ _ _ _ _ _ _ _)
   | (with_reducible exact ih3 _ _ _ _ _ _ _ _ _ _ _ _ _ _ _ _)
   | (with_reducible exact LeO.refl _)
   | (with_reducible exact LeO.none _)
   | (with_reducible refine LeO.ite ?_ ?_)
   | (with_reducible refine LeO.bind ?_ (fun _ => ?_))
   | exact ih0 _ _ _ _ _ _ _ _ _ _ _ _ _
   | exact ih1 _ _ _ _ _ _ _ _ _ _ _ _ _ _
   | exact ih2 _ _ _ _ _ _ _ _ _ _ _ _ _ _ _
   | exact ih3 _ _ _ _ _ _ _ _ _ _ _ _ _ _ _ _
   | exact LeO.none _
   | refine LeO.ite ?_ ?_
   | refine LeO.bind ?_ (fun _ => ?_)
theorem storagebarterref15_parts.mono : ∀ a0 a1 a2 a3 a4 a5 a6 a7 a8 a9 a10 k, LeO (storagebarterref15_parts.f k a0 a1 a2 a3 a4 a5 a6 a7 a8 a9 a10) (storagebarterref15_parts.f (k + 1) a0 a1 a2 a3 a4 a5 a6 a7 a8 a9 a10) := by
 intro a0 a1 a2 a3 a4 a5 a6 a7 a8 a9 a10 k
 obtain ⟨ih0, ih1, ih2, ih3⟩ := storagebarterref15_parts.mono_l k
 unfold storagebarterref15_parts.f
 repeat' first
  | (with_reducible exact ih0 _ _ _ _ _ _ _ _ _ _ _ _ _)
  | (with_reducible exact ih1 _ _ _ _ _ _ _ _ _ _ _ _ _ _)
  | (with_reducible exact ih2 _ _ _ _ _ _ _ _ _ _ _ _ _ _ _)
  | (with_reducible exact ih3 _ _ _ _ _ _ _ _ _ _ _ _ _ _ _ _)
  | (with_reducible exact LeO.refl _)
  | (with_reducible exact LeO.none _)
  | (with_reducible refine LeO.ite ?_ ?_)
  | (with_reducible refine LeO.bind ?_ (fun _ => ?_))
  | exact ih0 _ _ _ _ _ _ _ _ _ _ _ _ _
  | exact ih1 _ _ _ _ _ _ _ _ _ _ _ _ _ _
  | exact ih2 _ _ _ _ _ _ _ _ _ _ _ _ _ _ _
  | exact ih3 _ _ _ _ _ _ _ _ _ _ _ _ _ _ _ _
  | exact LeO.none _
  | refine LeO.ite ?_ ?_
  | refine LeO.bind ?_ (fun _ => ?_)
set_option maxHeartbeats 8000000 in
set_option maxRecDepth 100000 in
theorem storagebarterref15_parts.calls (k : Nat) (a0_0 : Int) (a0_1 : Int) (a0_2 : Int) (a0_3 : Int) (a0_4 : Int) (a0_5 : Int) (a0_6 : Int) (a0_7 : Int) (a0_8 : Int) (a0_9 : Int) (a0_10 : Int) (r : Bool) (w : World) (h : storagebarterref15_parts.f k a0_0 a0_1 a0_2 a0_3 a0_4 a0_5 a0_6 a0_7 a0_8 a0_9 a0_10 = some r) :
 Calls Try.prog 72 #[.agg #[.int .i64 a0_0, .int .i64 a0_1, .int .i64 a0_2, .int .i64 a0_3, .int .i64 a0_4, .int .i64 a0_5, .int .i64 a0_6, .int .i64 a0_7, .int .i64 a0_8, .int .i64 a0_9, .int .i64 a0_10]] w fun e w' => e = .returned (.bool r) ∧ Below w.heap.size w w' := by
 have hu64 := Try.underlying64
 have HB := Aside0.mk (Below.refl w.heap.size w)
 have H : ((storagebarterref15_in.f a0_6 0 63).bind fun t226 => ((storagebarterref15_in.f a0_7 0 2147483646).bind fun t227 => (if t227 = true then ((storagebarterref15_in.f a0_8 1 1024).bind fun t228 => (storagebarterref15_parts.j0 k t226 t228 a0_0 a0_1 a0_2 a0_3 a0_4 a0_5 a0_6 a0_7 a0_8 a0_9 a0_10)) else (storagebarterref15_parts.j0 k t226 false a0_0 a0_1 a0_2 a0_3 a0_4 a0_5 a0_6 a0_7 a0_8 a0_9 a0_10)))) = some r := h
 clear h
 replace H := Option.bind_eq_some_iff.mp H
 obtain ⟨t226, A20, H⟩ := H
 try dsimp only at H
 have A2 := Aside0.mk A20
 clear A20
 have HC3 := Aside0.mk H
 clear H
 go_enter Try.func72, Try.ntmps72
 go_upto_region 2 with (first | ((with_reducible refine gate_dst (N := 1) rfl ?_); refine box_event ?hg (N := 1) ?hd (cs := #[.int .i64 a0_0, .int .i64 a0_1, .int .i64 a0_2, .int .i64 a0_3, .int .i64 a0_4, .int .i64 a0_5, .int .i64 a0_6, .int .i64 a0_7, .int .i64 a0_8, .int .i64 a0_9, .int .i64 a0_10]) (t := 64) ?hr ?_; (case hd => rfl); (case hg => rfl); (case hr => first | (go_simp; done) | (go_simp; rfl)); intro gb225 hg w4 hbox hb; have n0_ := Aside0.mk (below_step (by repeat (first | (with_reducible first | exact HB.out | apply below_alloc | apply pw_below_drewN | apply below_drew1) | exact HB.out)) hb); have n1_ := Aside0.mk (hbox); have n2_ := Aside0.mk ((by rw [hg]; exact (below_size (by repeat (first | (with_reducible first | exact HB.out | apply below_alloc | apply pw_below_drewN | apply below_drew1) | exact HB.out))) : w.heap.size ≤ gb225)); have n3_ := Aside0.mk ((by rw [hg]; exact (below_size (by repeat (first | (with_reducible first | exact HB.out | apply below_alloc | apply pw_below_drewN | apply below_drew1) | exact HB.out))) : w.heap.size ≤ gb225)); clear HB; have HB := n0_; have BK225 := n1_; have GW225 := n2_; have GE225 := n3_; clear n0_ n1_ n2_ n3_; clear hb hbox hg; have hcz5_0 : w4.cell? ⟨gb225, 0, none⟩ = some (.int .i64 a0_0) := (blk_cell BK225.out 0).trans rfl; have hcz5_1 : w4.cell? ⟨gb225, 1, none⟩ = some (.int .i64 a0_1) := (blk_cell BK225.out 1).trans rfl; have hcz5_2 : w4.cell? ⟨gb225, 2, none⟩ = some (.int .i64 a0_2) := (blk_cell BK225.out 2).trans rfl; have hcz5_3 : w4.cell? ⟨gb225, 3, none⟩ = some (.int .i64 a0_3) := (blk_cell BK225.out 3).trans rfl; have hcz5_4 : w4.cell? ⟨gb225, 4, none⟩ = some (.int .i64 a0_4) := (blk_cell BK225.out 4).trans rfl; have hcz5_5 : w4.cell? ⟨gb225, 5, none⟩ = some (.int .i64 a0_5) := (blk_cell BK225.out 5).trans rfl; have hcz5_6 : w4.cell? ⟨gb225, 6, none⟩ = some (.int .i64 a0_6) := (blk_cell BK225.out 6).trans rfl; have hcz5_7 : w4.cell? ⟨gb225, 7, none⟩ = some (.int .i64 a0_7) := (blk_cell BK225.out 7).trans rfl; have hcz5_8 : w4.cell? ⟨gb225, 8, none⟩ = some (.int .i64 a0_8) := (blk_cell BK225.out 8).trans rfl; have hcz5_9 : w4.cell? ⟨gb225, 9, none⟩ = some (.int .i64 a0_9) := (blk_cell BK225.out 9).trans rfl; have hcz5_10 : w4.cell? ⟨gb225, 10, none⟩ = some (.int .i64 a0_10) := (blk_cell BK225.out 10).trans rfl; have hfz5_0 := blk_frozen BK225.out 0; have hfz5_1 := blk_frozen BK225.out 1; have hfz5_2 := blk_frozen BK225.out 2; have hfz5_3 := blk_frozen BK225.out 3; have hfz5_4 := blk_frozen BK225.out 4; have hfz5_5 := blk_frozen BK225.out 5; have hfz5_6 := blk_frozen BK225.out 6; have hfz5_7 := blk_frozen BK225.out 7; have hfz5_8 := blk_frozen BK225.out 8; have hfz5_9 := blk_frozen BK225.out 9; have hfz5_10 := blk_frozen BK225.out 10) | ((with_reducible refine gate_callee (f := 66) rfl ?_); refine goesL_ (some 9) rfl rfl Try.func66 (by kernel_rfl) rfl #[.int .i64 a0_6, .int .i64 0, .int .i64 63] rfl (by (try simp only [List.map_toArray, List.map_cons, List.map_nil]); first | done | rfl | (simp only [List.length_drop, List.length_take]; rfl)) ?_; (with_reducible refine (storagebarterref15_in.calls a0_6 0 63 t226 _ A2.out).mono ?_); rintro e w' ⟨rfl, ⟨nd, rfl⟩⟩; refine ⟨_, rfl, ?_⟩))
 (try simp only [Act.put, List.setIfInBounds_toArray, List.set_cons_zero, List.set_cons_succ])
 go_cut [4] (fun v4 wc => ∃ (kq : Nat) (x4_2 : Bool), v4 = .bool x4_2 ∧ Aside0 (storagebarterref15_parts.j0 kq t226 x4_2 a0_0 a0_1 a0_2 a0_3 a0_4 a0_5 a0_6 a0_7 a0_8 a0_9 a0_10 = some r) ∧ Aside0 (kq ≤ k) ∧ Aside0 (wc.heap[gb225]? = some (.cells #[.int .i64 a0_0, .int .i64 a0_1, .int .i64 a0_2, .int .i64 a0_3, .int .i64 a0_4, .int .i64 a0_5, .int .i64 a0_6, .int .i64 a0_7, .int .i64 a0_8, .int .i64 a0_9, .int .i64 a0_10] 64 (0, 0))) ∧ Aside0 (Below w.heap.size w wc))
 case first =>
  have H := HC3.out
  clear HC3
  replace H := Option.bind_eq_some_iff.mp H
  obtain ⟨t227, A60, H⟩ := H
  try dsimp only at H
  have A6 := Aside0.mk A60
  clear A60
  by_cases c7 : t227 = true
  focus
   subst c7
   rw [if_pos rfl] at H
   replace H := Option.bind_eq_some_iff.mp H
   obtain ⟨t228, A80, H⟩ := H
   try dsimp only at H
   have A8 := Aside0.mk A80
   clear A80
   have H' := Aside0.mk H
   clear H
   have hcz9_0 : w4.cell? ⟨gb225, 0, none⟩ = some (.int .i64 a0_0) := (blk_cell BK225.out 0).trans rfl
   have hcz9_1 : w4.cell? ⟨gb225, 1, none⟩ = some (.int .i64 a0_1) := (blk_cell BK225.out 1).trans rfl
   have hcz9_2 : w4.cell? ⟨gb225, 2, none⟩ = some (.int .i64 a0_2) := (blk_cell BK225.out 2).trans rfl
   have hcz9_3 : w4.cell? ⟨gb225, 3, none⟩ = some (.int .i64 a0_3) := (blk_cell BK225.out 3).trans rfl
   have hcz9_4 : w4.cell? ⟨gb225, 4, none⟩ = some (.int .i64 a0_4) := (blk_cell BK225.out 4).trans rfl
   have hcz9_5 : w4.cell? ⟨gb225, 5, none⟩ = some (.int .i64 a0_5) := (blk_cell BK225.out 5).trans rfl
   have hcz9_6 : w4.cell? ⟨gb225, 6, none⟩ = some (.int .i64 a0_6) := (blk_cell BK225.out 6).trans rfl
   have hcz9_7 : w4.cell? ⟨gb225, 7, none⟩ = some (.int .i64 a0_7) := (blk_cell BK225.out 7).trans rfl
   have hcz9_8 : w4.cell? ⟨gb225, 8, none⟩ = some (.int .i64 a0_8) := (blk_cell BK225.out 8).trans rfl
   have hcz9_9 : w4.cell? ⟨gb225, 9, none⟩ = some (.int .i64 a0_9) := (blk_cell BK225.out 9).trans rfl
   have hcz9_10 : w4.cell? ⟨gb225, 10, none⟩ = some (.int .i64 a0_10) := (blk_cell BK225.out 10).trans rfl
   have hfz9_0 := blk_frozen BK225.out 0
   have hfz9_1 := blk_frozen BK225.out 1
   have hfz9_2 := blk_frozen BK225.out 2
   have hfz9_3 := blk_frozen BK225.out 3
   have hfz9_4 := blk_frozen BK225.out 4
   have hfz9_5 := blk_frozen BK225.out 5
   have hfz9_6 := blk_frozen BK225.out 6
   have hfz9_7 := blk_frozen BK225.out 7
   have hfz9_8 := blk_frozen BK225.out 8
   have hfz9_9 := blk_frozen BK225.out 9
   have hfz9_10 := blk_frozen BK225.out 10
  rotate_left 1
  focus
   replace c7 := Bool.eq_false_iff.mpr c7
   subst c7
   rw [if_neg (show ¬ (false = true) by decide)] at H
   have H' := Aside0.mk H
   clear H
   have hcz10_0 : w4.cell? ⟨gb225, 0, none⟩ = some (.int .i64 a0_0) := (blk_cell BK225.out 0).trans rfl
   have hcz10_1 : w4.cell? ⟨gb225, 1, none⟩ = some (.int .i64 a0_1) := (blk_cell BK225.out 1).trans rfl
   have hcz10_2 : w4.cell? ⟨gb225, 2, none⟩ = some (.int .i64 a0_2) := (blk_cell BK225.out 2).trans rfl
   have hcz10_3 : w4.cell? ⟨gb225, 3, none⟩ = some (.int .i64 a0_3) := (blk_cell BK225.out 3).trans rfl
   have hcz10_4 : w4.cell? ⟨gb225, 4, none⟩ = some (.int .i64 a0_4) := (blk_cell BK225.out 4).trans rfl
   have hcz10_5 : w4.cell? ⟨gb225, 5, none⟩ = some (.int .i64 a0_5) := (blk_cell BK225.out 5).trans rfl
   have hcz10_6 : w4.cell? ⟨gb225, 6, none⟩ = some (.int .i64 a0_6) := (blk_cell BK225.out 6).trans rfl
   have hcz10_7 : w4.cell? ⟨gb225, 7, none⟩ = some (.int .i64 a0_7) := (blk_cell BK225.out 7).trans rfl
   have hcz10_8 : w4.cell? ⟨gb225, 8, none⟩ = some (.int .i64 a0_8) := (blk_cell BK225.out 8).trans rfl
   have hcz10_9 : w4.cell? ⟨gb225, 9, none⟩ = some (.int .i64 a0_9) := (blk_cell BK225.out 9).trans rfl
   have hcz10_10 : w4.cell? ⟨gb225, 10, none⟩ = some (.int .i64 a0_10) := (blk_cell BK225.out 10).trans rfl
   have hfz10_0 := blk_frozen BK225.out 0
   have hfz10_1 := blk_frozen BK225.out 1
   have hfz10_2 := blk_frozen BK225.out 2
   have hfz10_3 := blk_frozen BK225.out 3
   have hfz10_4 := blk_frozen BK225.out 4
   have hfz10_5 := blk_frozen BK225.out 5
   have hfz10_6 := blk_frozen BK225.out 6
   have hfz10_7 := blk_frozen BK225.out 7
   have hfz10_8 := blk_frozen BK225.out 8
   have hfz10_9 := blk_frozen BK225.out 9
   have hfz10_10 := blk_frozen BK225.out 10
  rotate_left 1
  all_goals (go_wp2_with (first | ((with_reducible refine gate_callee (f := 66) rfl ?_); refine goesL_ (some 12) rfl rfl Try.func66 (by kernel_rfl) rfl #[.int .i64 a0_7, .int .i64 0, .int .i64 2147483646] rfl (by (try simp only [List.map_toArray, List.map_cons, List.map_nil]); first | done | rfl | (simp only [List.length_drop, List.length_take]; rfl)) ?_; (with_reducible refine (storagebarterref15_in.calls a0_7 0 2147483646 true _ A6.out).mono ?_); rintro e w' ⟨rfl, ⟨nd, rfl⟩⟩; refine ⟨_, rfl, ?_⟩) | (go_at_call 66; (with_reducible refine (storagebarterref15_in.calls a0_8 1 1024 t228 _ A8.out).mono ?_); rintro e w' ⟨rfl, ⟨nd, rfl⟩⟩) | ((with_reducible refine gate_callee (f := 66) rfl ?_); refine goesL_ (some 12) rfl rfl Try.func66 (by kernel_rfl) rfl #[.int .i64 a0_7, .int .i64 0, .int .i64 2147483646] rfl (by (try simp only [List.map_toArray, List.map_cons, List.map_nil]); first | done | rfl | (simp only [List.length_drop, List.length_take]; rfl)) ?_; (with_reducible refine (storagebarterref15_in.calls a0_7 0 2147483646 false _ A6.out).mono ?_); rintro e w' ⟨rfl, ⟨nd, rfl⟩⟩; refine ⟨_, rfl, ?_⟩)))
  ·go_meet
   case rel => exact ⟨_, (t228), (by first | rfl | (simp; done) | (simp [*]; done)), H', ⟨by first | omega | exact Nat.le_refl _⟩, ⟨by (with_reducible repeat (first | refine blk_drewN ?_ _ | refine blk_drew ?_ | refine blk_alloc ?_ _)); exact BK225.out⟩, ⟨by repeat (first | (with_reducible first | exact HB.out | apply below_alloc | apply pw_below_drewN | apply below_drew1 | refine below_set ?_ GE225.out) | exact HB.out)⟩⟩
  ·go_meet
   case rel => exact ⟨_, (false), (by first | rfl | (simp; done) | (simp [*]; done)), H', ⟨by first | omega | exact Nat.le_refl _⟩, ⟨by (with_reducible repeat (first | refine blk_drewN ?_ _ | refine blk_drew ?_ | refine blk_alloc ?_ _)); exact BK225.out⟩, ⟨by repeat (first | (with_reducible first | exact HB.out | apply below_alloc | apply pw_below_drewN | apply below_drew1 | refine below_set ?_ GE225.out) | exact HB.out)⟩⟩
 case rest =>
  clear HC3
  try clear p2
  try clear c6
  try clear c7
  try clear hcz10_0
  try clear hcz10_1
  try clear hcz10_10
  try clear hcz10_2
  try clear hcz10_3
  try clear hcz10_4
  try clear hcz10_5
  try clear hcz10_6
  try clear hcz10_7
  try clear hcz10_8
  try clear hcz10_9
  try clear hcz5_0
  try clear hcz5_1
  try clear hcz5_10
  try clear hcz5_2
  try clear hcz5_3
  try clear hcz5_4
  try clear hcz5_5
  try clear hcz5_6
  try clear hcz5_7
  try clear hcz5_8
  try clear hcz5_9
  try clear hcz9_0
  try clear hcz9_1
  try clear hcz9_10
  try clear hcz9_2
  try clear hcz9_3
  try clear hcz9_4
  try clear hcz9_5
  try clear hcz9_6
  try clear hcz9_7
  try clear hcz9_8
  try clear hcz9_9
  try clear hfz10_0
  try clear hfz10_1
  try clear hfz10_10
  try clear hfz10_2
  try clear hfz10_3
  try clear hfz10_4
  try clear hfz10_5
  try clear hfz10_6
  try clear hfz10_7
  try clear hfz10_8
  try clear hfz10_9
  try clear hfz5_0
  try clear hfz5_1
  try clear hfz5_10
  try clear hfz5_2
  try clear hfz5_3
  try clear hfz5_4
  try clear hfz5_5
  try clear hfz5_6
  try clear hfz5_7
  try clear hfz5_8
  try clear hfz5_9
  try clear hfz9_0
  try clear hfz9_1
  try clear hfz9_10
  try clear hfz9_2
  try clear hfz9_3
  try clear hfz9_4
  try clear hfz9_5
  try clear hfz9_6
  try clear hfz9_7
  try clear hfz9_8
  try clear hfz9_9
  obtain ⟨kq, x4_2, rfl, HA, HJ2, BK225, HB⟩ := hcut
  cases kq with
  | zero => exact absurd HA.out (by simp [storagebarterref15_parts.j0])
  | succ kj2 =>
   have H := HA.out
   clear HA
   simp only [storagebarterref15_parts.j0] at H
   have HC11 := Aside0.mk H
   clear H
   go_upto_region 3 with (fail)
   go_cut [5] (fun v5 wc => ∃ (kq : Nat) (x5_10 : Bool), v5 = .bool x5_10 ∧ Aside0 (storagebarterref15_parts.j1 kq t226 x4_2 x5_10 a0_0 a0_1 a0_2 a0_3 a0_4 a0_5 a0_6 a0_7 a0_8 a0_9 a0_10 = some r) ∧ Aside0 (kq ≤ kj2) ∧ Aside0 (wc.heap[gb225]? = some (.cells #[.int .i64 a0_0, .int .i64 a0_1, .int .i64 a0_2, .int .i64 a0_3, .int .i64 a0_4, .int .i64 a0_5, .int .i64 a0_6, .int .i64 a0_7, .int .i64 a0_8, .int .i64 a0_9, .int .i64 a0_10] 64 (0, 0))) ∧ Aside0 (Below w.heap.size w wc))
   case first =>
    have H := HC11.out
    clear HC11
    replace H := Option.bind_eq_some_iff.mp H
    obtain ⟨t229, A120, H⟩ := H
    try dsimp only at H
    have A12 := Aside0.mk A120
    clear A120
    by_cases c13 : t229 = true
    ·subst c13
     rw [if_pos rfl] at H
     have H' := Aside0.mk H
     clear H
     have hcz14_0 : wc.cell? ⟨gb225, 0, none⟩ = some (.int .i64 a0_0) := (blk_cell BK225.out 0).trans rfl
     have hcz14_1 : wc.cell? ⟨gb225, 1, none⟩ = some (.int .i64 a0_1) := (blk_cell BK225.out 1).trans rfl
     have hcz14_2 : wc.cell? ⟨gb225, 2, none⟩ = some (.int .i64 a0_2) := (blk_cell BK225.out 2).trans rfl
     have hcz14_3 : wc.cell? ⟨gb225, 3, none⟩ = some (.int .i64 a0_3) := (blk_cell BK225.out 3).trans rfl
     have hcz14_4 : wc.cell? ⟨gb225, 4, none⟩ = some (.int .i64 a0_4) := (blk_cell BK225.out 4).trans rfl
     have hcz14_5 : wc.cell? ⟨gb225, 5, none⟩ = some (.int .i64 a0_5) := (blk_cell BK225.out 5).trans rfl
     have hcz14_6 : wc.cell? ⟨gb225, 6, none⟩ = some (.int .i64 a0_6) := (blk_cell BK225.out 6).trans rfl
     have hcz14_7 : wc.cell? ⟨gb225, 7, none⟩ = some (.int .i64 a0_7) := (blk_cell BK225.out 7).trans rfl
     have hcz14_8 : wc.cell? ⟨gb225, 8, none⟩ = some (.int .i64 a0_8) := (blk_cell BK225.out 8).trans rfl
     have hcz14_9 : wc.cell? ⟨gb225, 9, none⟩ = some (.int .i64 a0_9) := (blk_cell BK225.out 9).trans rfl
     have hcz14_10 : wc.cell? ⟨gb225, 10, none⟩ = some (.int .i64 a0_10) := (blk_cell BK225.out 10).trans rfl
     have hfz14_0 := blk_frozen BK225.out 0
     have hfz14_1 := blk_frozen BK225.out 1
     have hfz14_2 := blk_frozen BK225.out 2
     have hfz14_3 := blk_frozen BK225.out 3
     have hfz14_4 := blk_frozen BK225.out 4
     have hfz14_5 := blk_frozen BK225.out 5
     have hfz14_6 := blk_frozen BK225.out 6
     have hfz14_7 := blk_frozen BK225.out 7
     have hfz14_8 := blk_frozen BK225.out 8
     have hfz14_9 := blk_frozen BK225.out 9
     have hfz14_10 := blk_frozen BK225.out 10
     go_wp2_with (first | ((with_reducible refine gate_callee (f := 66) rfl ?_); refine goesL_ (some 26) rfl rfl Try.func66 (by kernel_rfl) rfl #[.int .i64 a0_9, .int .i64 (wrap64 (a0_4 + 1)), .int .i64 (wrap64 (a0_4 + 65536))] rfl (by (try simp only [List.map_toArray, List.map_cons, List.map_nil]); first | done | rfl | (simp only [List.length_drop, List.length_take]; rfl)) ?_; (with_reducible refine (storagebarterref15_in.calls a0_9 (wrap64 (a0_4 + 1)) (wrap64 (a0_4 + 65536)) true _ A12.out).mono ?_); rintro e w' ⟨rfl, ⟨nd, rfl⟩⟩; refine ⟨_, rfl, ?_⟩))
     go_meet
     case rel => exact ⟨_, (decide (a0_9 ≤ 1048576)), (by first | rfl | (simp; done) | (simp [*]; done)), H', ⟨by have := HJ2.out; first | omega | exact Nat.le_refl _⟩, ⟨by (with_reducible repeat (first | refine blk_drewN ?_ _ | refine blk_drew ?_ | refine blk_alloc ?_ _)); exact BK225.out⟩, ⟨by repeat (first | (with_reducible first | exact HB.out | apply below_alloc | apply pw_below_drewN | apply below_drew1 | refine below_set ?_ GE225.out) | exact HB.out)⟩⟩
    ·replace c13 := Bool.eq_false_iff.mpr c13
     subst c13
     rw [if_neg (show ¬ (false = true) by decide)] at H
     have H' := Aside0.mk H
     clear H
     have hcz15_0 : wc.cell? ⟨gb225, 0, none⟩ = some (.int .i64 a0_0) := (blk_cell BK225.out 0).trans rfl
     have hcz15_1 : wc.cell? ⟨gb225, 1, none⟩ = some (.int .i64 a0_1) := (blk_cell BK225.out 1).trans rfl
     have hcz15_2 : wc.cell? ⟨gb225, 2, none⟩ = some (.int .i64 a0_2) := (blk_cell BK225.out 2).trans rfl
     have hcz15_3 : wc.cell? ⟨gb225, 3, none⟩ = some (.int .i64 a0_3) := (blk_cell BK225.out 3).trans rfl
     have hcz15_4 : wc.cell? ⟨gb225, 4, none⟩ = some (.int .i64 a0_4) := (blk_cell BK225.out 4).trans rfl
     have hcz15_5 : wc.cell? ⟨gb225, 5, none⟩ = some (.int .i64 a0_5) := (blk_cell BK225.out 5).trans rfl
     have hcz15_6 : wc.cell? ⟨gb225, 6, none⟩ = some (.int .i64 a0_6) := (blk_cell BK225.out 6).trans rfl
     have hcz15_7 : wc.cell? ⟨gb225, 7, none⟩ = some (.int .i64 a0_7) := (blk_cell BK225.out 7).trans rfl
     have hcz15_8 : wc.cell? ⟨gb225, 8, none⟩ = some (.int .i64 a0_8) := (blk_cell BK225.out 8).trans rfl
     have hcz15_9 : wc.cell? ⟨gb225, 9, none⟩ = some (.int .i64 a0_9) := (blk_cell BK225.out 9).trans rfl
     have hcz15_10 : wc.cell? ⟨gb225, 10, none⟩ = some (.int .i64 a0_10) := (blk_cell BK225.out 10).trans rfl
     have hfz15_0 := blk_frozen BK225.out 0
     have hfz15_1 := blk_frozen BK225.out 1
     have hfz15_2 := blk_frozen BK225.out 2
     have hfz15_3 := blk_frozen BK225.out 3
     have hfz15_4 := blk_frozen BK225.out 4
     have hfz15_5 := blk_frozen BK225.out 5
     have hfz15_6 := blk_frozen BK225.out 6
     have hfz15_7 := blk_frozen BK225.out 7
     have hfz15_8 := blk_frozen BK225.out 8
     have hfz15_9 := blk_frozen BK225.out 9
     have hfz15_10 := blk_frozen BK225.out 10
     go_wp2_with (first | ((with_reducible refine gate_callee (f := 66) rfl ?_); refine goesL_ (some 26) rfl rfl Try.func66 (by kernel_rfl) rfl #[.int .i64 a0_9, .int .i64 (wrap64 (a0_4 + 1)), .int .i64 (wrap64 (a0_4 + 65536))] rfl (by (try simp only [List.map_toArray, List.map_cons, List.map_nil]); first | done | rfl | (simp only [List.length_drop, List.length_take]; rfl)) ?_; (with_reducible refine (storagebarterref15_in.calls a0_9 (wrap64 (a0_4 + 1)) (wrap64 (a0_4 + 65536)) false _ A12.out).mono ?_); rintro e w' ⟨rfl, ⟨nd, rfl⟩⟩; refine ⟨_, rfl, ?_⟩))
     go_meet
     case rel => exact ⟨_, (false), (by first | rfl | (simp; done) | (simp [*]; done)), H', ⟨by have := HJ2.out; first | omega | exact Nat.le_refl _⟩, ⟨by (with_reducible repeat (first | refine blk_drewN ?_ _ | refine blk_drew ?_ | refine blk_alloc ?_ _)); exact BK225.out⟩, ⟨by repeat (first | (with_reducible first | exact HB.out | apply below_alloc | apply pw_below_drewN | apply below_drew1 | refine below_set ?_ GE225.out) | exact HB.out)⟩⟩
   case rest =>
    clear HC11
    try clear c1
    try clear p2
    try clear c6
    try clear p6
    try clear c7
    try clear c13
    try clear hcz10_0
    try clear hcz10_1
    try clear hcz10_10
    try clear hcz10_2
    try clear hcz10_3
    try clear hcz10_4
    try clear hcz10_5
    try clear hcz10_6
    try clear hcz10_7
    try clear hcz10_8
    try clear hcz10_9
    try clear hcz14_0
    try clear hcz14_1
    try clear hcz14_10
    try clear hcz14_2
    try clear hcz14_3
    try clear hcz14_4
    try clear hcz14_5
    try clear hcz14_6
    try clear hcz14_7
    try clear hcz14_8
    try clear hcz14_9
    try clear hcz15_0
    try clear hcz15_1
    try clear hcz15_10
    try clear hcz15_2
    try clear hcz15_3
    try clear hcz15_4
    try clear hcz15_5
    try clear hcz15_6
    try clear hcz15_7
    try clear hcz15_8
    try clear hcz15_9
    try clear hcz5_0
    try clear hcz5_1
    try clear hcz5_10
    try clear hcz5_2
    try clear hcz5_3
    try clear hcz5_4
    try clear hcz5_5
    try clear hcz5_6
    try clear hcz5_7
    try clear hcz5_8
    try clear hcz5_9
    try clear hcz9_0
    try clear hcz9_1
    try clear hcz9_10
    try clear hcz9_2
    try clear hcz9_3
    try clear hcz9_4
    try clear hcz9_5
    try clear hcz9_6
    try clear hcz9_7
    try clear hcz9_8
    try clear hcz9_9
    try clear hfz10_0
    try clear hfz10_1
    try clear hfz10_10
    try clear hfz10_2
    try clear hfz10_3
    try clear hfz10_4
    try clear hfz10_5
    try clear hfz10_6
    try clear hfz10_7
    try clear hfz10_8
    try clear hfz10_9
    try clear hfz14_0
    try clear hfz14_1
    try clear hfz14_10
    try clear hfz14_2
    try clear hfz14_3
    try clear hfz14_4
    try clear hfz14_5
    try clear hfz14_6
    try clear hfz14_7
    try clear hfz14_8
    try clear hfz14_9
    try clear hfz15_0
    try clear hfz15_1
    try clear hfz15_10
    try clear hfz15_2
    try clear hfz15_3
    try clear hfz15_4
    try clear hfz15_5
    try clear hfz15_6
    try clear hfz15_7
    try clear hfz15_8
    try clear hfz15_9
    try clear hfz5_0
    try clear hfz5_1
    try clear hfz5_10
    try clear hfz5_2
    try clear hfz5_3
    try clear hfz5_4
    try clear hfz5_5
    try clear hfz5_6
    try clear hfz5_7
    try clear hfz5_8
    try clear hfz5_9
    try clear hfz9_0
    try clear hfz9_1
    try clear hfz9_10
    try clear hfz9_2
    try clear hfz9_3
    try clear hfz9_4
    try clear hfz9_5
    try clear hfz9_6
    try clear hfz9_7
    try clear hfz9_8
    try clear hfz9_9
    try clear p2
    obtain ⟨kq, x5_10, rfl, HA, HJ10, BK225, HB⟩ := hcut
    cases kq with
    | zero => exact absurd HA.out (by simp [storagebarterref15_parts.j1])
    | succ kj10 =>
     have H := HA.out
     clear HA
     simp only [storagebarterref15_parts.j1] at H
     have HC16 := Aside0.mk H
     clear H
     go_upto_region 4 with (fail)
     go_cut [6] (fun v6 wc => ∃ (kq : Nat) (x6_15 : Bool), v6 = .bool x6_15 ∧ Aside0 (storagebarterref15_parts.j2 kq t226 x4_2 x5_10 x6_15 a0_0 a0_1 a0_2 a0_3 a0_4 a0_5 a0_6 a0_7 a0_8 a0_9 a0_10 = some r) ∧ Aside0 (kq ≤ kj10) ∧ Aside0 (wc.heap[gb225]? = some (.cells #[.int .i64 a0_0, .int .i64 a0_1, .int .i64 a0_2, .int .i64 a0_3, .int .i64 a0_4, .int .i64 a0_5, .int .i64 a0_6, .int .i64 a0_7, .int .i64 a0_8, .int .i64 a0_9, .int .i64 a0_10] 64 (0, 0))) ∧ Aside0 (Below w.heap.size w wc))
     case first =>
      have H := HC16.out
      clear HC16
      by_cases c17 : a0_7 = 0
      ·rw [if_pos c17] at H
       have c17b0 : (a0_7 == 0) = true := beq_iff_eq.mpr c17
       have c17b1 : (a0_7 != 0) = false := bne_eq_false_iff_eq.mpr c17
       clear c17
       (first | rw [c17b0] | (simp only [i64_w, i32_w]; rw [c17b0]) | skip)
       have H' := Aside0.mk H
       clear H
       have hcz18_0 : wc.cell? ⟨gb225, 0, none⟩ = some (.int .i64 a0_0) := (blk_cell BK225.out 0).trans rfl
       have hcz18_1 : wc.cell? ⟨gb225, 1, none⟩ = some (.int .i64 a0_1) := (blk_cell BK225.out 1).trans rfl
       have hcz18_2 : wc.cell? ⟨gb225, 2, none⟩ = some (.int .i64 a0_2) := (blk_cell BK225.out 2).trans rfl
       have hcz18_3 : wc.cell? ⟨gb225, 3, none⟩ = some (.int .i64 a0_3) := (blk_cell BK225.out 3).trans rfl
       have hcz18_4 : wc.cell? ⟨gb225, 4, none⟩ = some (.int .i64 a0_4) := (blk_cell BK225.out 4).trans rfl
       have hcz18_5 : wc.cell? ⟨gb225, 5, none⟩ = some (.int .i64 a0_5) := (blk_cell BK225.out 5).trans rfl
       have hcz18_6 : wc.cell? ⟨gb225, 6, none⟩ = some (.int .i64 a0_6) := (blk_cell BK225.out 6).trans rfl
       have hcz18_7 : wc.cell? ⟨gb225, 7, none⟩ = some (.int .i64 a0_7) := (blk_cell BK225.out 7).trans rfl
       have hcz18_8 : wc.cell? ⟨gb225, 8, none⟩ = some (.int .i64 a0_8) := (blk_cell BK225.out 8).trans rfl
       have hcz18_9 : wc.cell? ⟨gb225, 9, none⟩ = some (.int .i64 a0_9) := (blk_cell BK225.out 9).trans rfl
       have hcz18_10 : wc.cell? ⟨gb225, 10, none⟩ = some (.int .i64 a0_10) := (blk_cell BK225.out 10).trans rfl
       have hfz18_0 := blk_frozen BK225.out 0
       have hfz18_1 := blk_frozen BK225.out 1
       have hfz18_2 := blk_frozen BK225.out 2
       have hfz18_3 := blk_frozen BK225.out 3
       have hfz18_4 := blk_frozen BK225.out 4
       have hfz18_5 := blk_frozen BK225.out 5
       have hfz18_6 := blk_frozen BK225.out 6
       have hfz18_7 := blk_frozen BK225.out 7
       have hfz18_8 := blk_frozen BK225.out 8
       have hfz18_9 := blk_frozen BK225.out 9
       have hfz18_10 := blk_frozen BK225.out 10
       go_wp2
       go_meet
       case rel => exact ⟨_, ((a0_8 == 0)), (by first | rfl | (simp; done) | (simp [*]; done)), H', ⟨by have := HJ2.out; have := HJ10.out; first | omega | exact Nat.le_refl _⟩, ⟨by (with_reducible repeat (first | refine blk_drewN ?_ _ | refine blk_drew ?_ | refine blk_alloc ?_ _)); exact BK225.out⟩, ⟨by repeat (first | (with_reducible first | exact HB.out | apply below_alloc | apply pw_below_drewN | apply below_drew1 | refine below_set ?_ GE225.out) | exact HB.out)⟩⟩
      ·rw [if_neg c17] at H
       have c17b0 : (a0_7 == 0) = false := beq_eq_false_iff_ne.mpr c17
       have c17b1 : (a0_7 != 0) = true := bne_iff_ne.mpr c17
       (first | rw [c17b0] | (simp only [i64_w, i32_w]; rw [c17b0]) | skip)
       have H' := Aside0.mk H
       clear H
       have hcz19_0 : wc.cell? ⟨gb225, 0, none⟩ = some (.int .i64 a0_0) := (blk_cell BK225.out 0).trans rfl
       have hcz19_1 : wc.cell? ⟨gb225, 1, none⟩ = some (.int .i64 a0_1) := (blk_cell BK225.out 1).trans rfl
       have hcz19_2 : wc.cell? ⟨gb225, 2, none⟩ = some (.int .i64 a0_2) := (blk_cell BK225.out 2).trans rfl
       have hcz19_3 : wc.cell? ⟨gb225, 3, none⟩ = some (.int .i64 a0_3) := (blk_cell BK225.out 3).trans rfl
       have hcz19_4 : wc.cell? ⟨gb225, 4, none⟩ = some (.int .i64 a0_4) := (blk_cell BK225.out 4).trans rfl
       have hcz19_5 : wc.cell? ⟨gb225, 5, none⟩ = some (.int .i64 a0_5) := (blk_cell BK225.out 5).trans rfl
       have hcz19_6 : wc.cell? ⟨gb225, 6, none⟩ = some (.int .i64 a0_6) := (blk_cell BK225.out 6).trans rfl
       have hcz19_7 : wc.cell? ⟨gb225, 7, none⟩ = some (.int .i64 a0_7) := (blk_cell BK225.out 7).trans rfl
       have hcz19_8 : wc.cell? ⟨gb225, 8, none⟩ = some (.int .i64 a0_8) := (blk_cell BK225.out 8).trans rfl
       have hcz19_9 : wc.cell? ⟨gb225, 9, none⟩ = some (.int .i64 a0_9) := (blk_cell BK225.out 9).trans rfl
       have hcz19_10 : wc.cell? ⟨gb225, 10, none⟩ = some (.int .i64 a0_10) := (blk_cell BK225.out 10).trans rfl
       have hfz19_0 := blk_frozen BK225.out 0
       have hfz19_1 := blk_frozen BK225.out 1
       have hfz19_2 := blk_frozen BK225.out 2
       have hfz19_3 := blk_frozen BK225.out 3
       have hfz19_4 := blk_frozen BK225.out 4
       have hfz19_5 := blk_frozen BK225.out 5
       have hfz19_6 := blk_frozen BK225.out 6
       have hfz19_7 := blk_frozen BK225.out 7
       have hfz19_8 := blk_frozen BK225.out 8
       have hfz19_9 := blk_frozen BK225.out 9
       have hfz19_10 := blk_frozen BK225.out 10
       go_wp2
       go_meet
       case rel => exact ⟨_, (false), (by first | rfl | (simp; done) | (simp [*]; done)), H', ⟨by have := HJ2.out; have := HJ10.out; first | omega | exact Nat.le_refl _⟩, ⟨by (with_reducible repeat (first | refine blk_drewN ?_ _ | refine blk_drew ?_ | refine blk_alloc ?_ _)); exact BK225.out⟩, ⟨by repeat (first | (with_reducible first | exact HB.out | apply below_alloc | apply pw_below_drewN | apply below_drew1 | refine below_set ?_ GE225.out) | exact HB.out)⟩⟩
     case rest =>
      clear HC16
      try clear c1
      try clear p2
      try clear c6
      try clear p6
      try clear c7
      try clear c13
      try clear c17
      try clear c17b0
      try clear c17b1
      try clear hcz10_0
      try clear hcz10_1
      try clear hcz10_10
      try clear hcz10_2
      try clear hcz10_3
      try clear hcz10_4
      try clear hcz10_5
      try clear hcz10_6
      try clear hcz10_7
      try clear hcz10_8
      try clear hcz10_9
      try clear hcz14_0
      try clear hcz14_1
      try clear hcz14_10
      try clear hcz14_2
      try clear hcz14_3
      try clear hcz14_4
      try clear hcz14_5
      try clear hcz14_6
      try clear hcz14_7
      try clear hcz14_8
      try clear hcz14_9
      try clear hcz15_0
      try clear hcz15_1
      try clear hcz15_10
      try clear hcz15_2
      try clear hcz15_3
      try clear hcz15_4
      try clear hcz15_5
      try clear hcz15_6
      try clear hcz15_7
      try clear hcz15_8
      try clear hcz15_9
      try clear hcz18_0
      try clear hcz18_1
      try clear hcz18_10
      try clear hcz18_2
      try clear hcz18_3
      try clear hcz18_4
      try clear hcz18_5
      try clear hcz18_6
      try clear hcz18_7
      try clear hcz18_8
      try clear hcz18_9
      try clear hcz19_0
      try clear hcz19_1
      try clear hcz19_10
      try clear hcz19_2
      try clear hcz19_3
      try clear hcz19_4
      try clear hcz19_5
      try clear hcz19_6
      try clear hcz19_7
      try clear hcz19_8
      try clear hcz19_9
      try clear hcz5_0
      try clear hcz5_1
      try clear hcz5_10
      try clear hcz5_2
      try clear hcz5_3
      try clear hcz5_4
      try clear hcz5_5
      try clear hcz5_6
      try clear hcz5_7
      try clear hcz5_8
      try clear hcz5_9
      try clear hcz9_0
      try clear hcz9_1
      try clear hcz9_10
      try clear hcz9_2
      try clear hcz9_3
      try clear hcz9_4
      try clear hcz9_5
      try clear hcz9_6
      try clear hcz9_7
      try clear hcz9_8
      try clear hcz9_9
      try clear hfz10_0
      try clear hfz10_1
      try clear hfz10_10
      try clear hfz10_2
      try clear hfz10_3
      try clear hfz10_4
      try clear hfz10_5
      try clear hfz10_6
      try clear hfz10_7
      try clear hfz10_8
      try clear hfz10_9
      try clear hfz14_0
      try clear hfz14_1
      try clear hfz14_10
      try clear hfz14_2
      try clear hfz14_3
      try clear hfz14_4
      try clear hfz14_5
      try clear hfz14_6
      try clear hfz14_7
      try clear hfz14_8
      try clear hfz14_9
      try clear hfz15_0
      try clear hfz15_1
      try clear hfz15_10
      try clear hfz15_2
      try clear hfz15_3
      try clear hfz15_4
      try clear hfz15_5
      try clear hfz15_6
      try clear hfz15_7
      try clear hfz15_8
      try clear hfz15_9
      try clear hfz18_0
      try clear hfz18_1
      try clear hfz18_10
      try clear hfz18_2
      try clear hfz18_3
      try clear hfz18_4
      try clear hfz18_5
      try clear hfz18_6
      try clear hfz18_7
      try clear hfz18_8
      try clear hfz18_9
      try clear hfz19_0
      try clear hfz19_1
      try clear hfz19_10
      try clear hfz19_2
      try clear hfz19_3
      try clear hfz19_4
      try clear hfz19_5
      try clear hfz19_6
      try clear hfz19_7
      try clear hfz19_8
      try clear hfz19_9
      try clear hfz5_0
      try clear hfz5_1
      try clear hfz5_10
      try clear hfz5_2
      try clear hfz5_3
      try clear hfz5_4
      try clear hfz5_5
      try clear hfz5_6
      try clear hfz5_7
      try clear hfz5_8
      try clear hfz5_9
      try clear hfz9_0
      try clear hfz9_1
      try clear hfz9_10
      try clear hfz9_2
      try clear hfz9_3
      try clear hfz9_4
      try clear hfz9_5
      try clear hfz9_6
      try clear hfz9_7
      try clear hfz9_8
      try clear hfz9_9
      try clear p2
      try clear p6
      obtain ⟨kq, x6_15, rfl, HA, HJ15, BK225, HB⟩ := hcut
      cases kq with
      | zero => exact absurd HA.out (by simp [storagebarterref15_parts.j2])
      | succ kj15 =>
       have H := HA.out
       clear HA
       simp only [storagebarterref15_parts.j2] at H
       by_cases c20 : a0_5 = 1
       ·rw [if_pos c20] at H
        have c20b0 : (a0_5 == 1) = true := beq_iff_eq.mpr c20
        have c20b1 : (a0_5 != 1) = false := bne_eq_false_iff_eq.mpr c20
        clear c20
        by_cases c21 : t226 = true
        ·subst c21
         rw [if_pos rfl] at H
         by_cases c22 : x4_2 = true
         ·subst c22
          rw [if_pos rfl] at H
          obtain rfl := Option.some.inj H
          have hcz23_0 : wc.cell? ⟨gb225, 0, none⟩ = some (.int .i64 a0_0) := (blk_cell BK225.out 0).trans rfl
          have hcz23_1 : wc.cell? ⟨gb225, 1, none⟩ = some (.int .i64 a0_1) := (blk_cell BK225.out 1).trans rfl
          have hcz23_2 : wc.cell? ⟨gb225, 2, none⟩ = some (.int .i64 a0_2) := (blk_cell BK225.out 2).trans rfl
          have hcz23_3 : wc.cell? ⟨gb225, 3, none⟩ = some (.int .i64 a0_3) := (blk_cell BK225.out 3).trans rfl
          have hcz23_4 : wc.cell? ⟨gb225, 4, none⟩ = some (.int .i64 a0_4) := (blk_cell BK225.out 4).trans rfl
          have hcz23_5 : wc.cell? ⟨gb225, 5, none⟩ = some (.int .i64 a0_5) := (blk_cell BK225.out 5).trans rfl
          have hcz23_6 : wc.cell? ⟨gb225, 6, none⟩ = some (.int .i64 a0_6) := (blk_cell BK225.out 6).trans rfl
          have hcz23_7 : wc.cell? ⟨gb225, 7, none⟩ = some (.int .i64 a0_7) := (blk_cell BK225.out 7).trans rfl
          have hcz23_8 : wc.cell? ⟨gb225, 8, none⟩ = some (.int .i64 a0_8) := (blk_cell BK225.out 8).trans rfl
          have hcz23_9 : wc.cell? ⟨gb225, 9, none⟩ = some (.int .i64 a0_9) := (blk_cell BK225.out 9).trans rfl
          have hcz23_10 : wc.cell? ⟨gb225, 10, none⟩ = some (.int .i64 a0_10) := (blk_cell BK225.out 10).trans rfl
          have hfz23_0 := blk_frozen BK225.out 0
          have hfz23_1 := blk_frozen BK225.out 1
          have hfz23_2 := blk_frozen BK225.out 2
          have hfz23_3 := blk_frozen BK225.out 3
          have hfz23_4 := blk_frozen BK225.out 4
          have hfz23_5 := blk_frozen BK225.out 5
          have hfz23_6 := blk_frozen BK225.out 6
          have hfz23_7 := blk_frozen BK225.out 7
          have hfz23_8 := blk_frozen BK225.out 8
          have hfz23_9 := blk_frozen BK225.out 9
          have hfz23_10 := blk_frozen BK225.out 10
          go_wp2
          go_ret
          exact ⟨by first | rfl | (simp [errW_none, errW_some] <;> rfl) | (simp [*, errW_none, errW_some] <;> rfl), by repeat (first | (with_reducible first | exact HB.out | apply below_alloc | apply pw_below_drewN | apply below_drew1 | refine below_set ?_ GE225.out) | exact HB.out)⟩
         ·replace c22 := Bool.eq_false_iff.mpr c22
          subst c22
          rw [if_neg (show ¬ (false = true) by decide)] at H
          obtain rfl := Option.some.inj H
          have hcz24_0 : wc.cell? ⟨gb225, 0, none⟩ = some (.int .i64 a0_0) := (blk_cell BK225.out 0).trans rfl
          have hcz24_1 : wc.cell? ⟨gb225, 1, none⟩ = some (.int .i64 a0_1) := (blk_cell BK225.out 1).trans rfl
          have hcz24_2 : wc.cell? ⟨gb225, 2, none⟩ = some (.int .i64 a0_2) := (blk_cell BK225.out 2).trans rfl
          have hcz24_3 : wc.cell? ⟨gb225, 3, none⟩ = some (.int .i64 a0_3) := (blk_cell BK225.out 3).trans rfl
          have hcz24_4 : wc.cell? ⟨gb225, 4, none⟩ = some (.int .i64 a0_4) := (blk_cell BK225.out 4).trans rfl
          have hcz24_5 : wc.cell? ⟨gb225, 5, none⟩ = some (.int .i64 a0_5) := (blk_cell BK225.out 5).trans rfl
          have hcz24_6 : wc.cell? ⟨gb225, 6, none⟩ = some (.int .i64 a0_6) := (blk_cell BK225.out 6).trans rfl
          have hcz24_7 : wc.cell? ⟨gb225, 7, none⟩ = some (.int .i64 a0_7) := (blk_cell BK225.out 7).trans rfl
          have hcz24_8 : wc.cell? ⟨gb225, 8, none⟩ = some (.int .i64 a0_8) := (blk_cell BK225.out 8).trans rfl
          have hcz24_9 : wc.cell? ⟨gb225, 9, none⟩ = some (.int .i64 a0_9) := (blk_cell BK225.out 9).trans rfl
          have hcz24_10 : wc.cell? ⟨gb225, 10, none⟩ = some (.int .i64 a0_10) := (blk_cell BK225.out 10).trans rfl
          have hfz24_0 := blk_frozen BK225.out 0
          have hfz24_1 := blk_frozen BK225.out 1
          have hfz24_2 := blk_frozen BK225.out 2
          have hfz24_3 := blk_frozen BK225.out 3
          have hfz24_4 := blk_frozen BK225.out 4
          have hfz24_5 := blk_frozen BK225.out 5
          have hfz24_6 := blk_frozen BK225.out 6
          have hfz24_7 := blk_frozen BK225.out 7
          have hfz24_8 := blk_frozen BK225.out 8
          have hfz24_9 := blk_frozen BK225.out 9
          have hfz24_10 := blk_frozen BK225.out 10
          go_wp2
          go_ret
          exact ⟨by first | rfl | (simp [errW_none, errW_some] <;> rfl) | (simp [*, errW_none, errW_some] <;> rfl), by repeat (first | (with_reducible first | exact HB.out | apply below_alloc | apply pw_below_drewN | apply below_drew1 | refine below_set ?_ GE225.out) | exact HB.out)⟩
        ·replace c21 := Bool.eq_false_iff.mpr c21
         subst c21
         rw [if_neg (show ¬ (false = true) by decide)] at H
         obtain rfl := Option.some.inj H
         have hcz25_0 : wc.cell? ⟨gb225, 0, none⟩ = some (.int .i64 a0_0) := (blk_cell BK225.out 0).trans rfl
         have hcz25_1 : wc.cell? ⟨gb225, 1, none⟩ = some (.int .i64 a0_1) := (blk_cell BK225.out 1).trans rfl
         have hcz25_2 : wc.cell? ⟨gb225, 2, none⟩ = some (.int .i64 a0_2) := (blk_cell BK225.out 2).trans rfl
         have hcz25_3 : wc.cell? ⟨gb225, 3, none⟩ = some (.int .i64 a0_3) := (blk_cell BK225.out 3).trans rfl
         have hcz25_4 : wc.cell? ⟨gb225, 4, none⟩ = some (.int .i64 a0_4) := (blk_cell BK225.out 4).trans rfl
         have hcz25_5 : wc.cell? ⟨gb225, 5, none⟩ = some (.int .i64 a0_5) := (blk_cell BK225.out 5).trans rfl
         have hcz25_6 : wc.cell? ⟨gb225, 6, none⟩ = some (.int .i64 a0_6) := (blk_cell BK225.out 6).trans rfl
         have hcz25_7 : wc.cell? ⟨gb225, 7, none⟩ = some (.int .i64 a0_7) := (blk_cell BK225.out 7).trans rfl
         have hcz25_8 : wc.cell? ⟨gb225, 8, none⟩ = some (.int .i64 a0_8) := (blk_cell BK225.out 8).trans rfl
         have hcz25_9 : wc.cell? ⟨gb225, 9, none⟩ = some (.int .i64 a0_9) := (blk_cell BK225.out 9).trans rfl
         have hcz25_10 : wc.cell? ⟨gb225, 10, none⟩ = some (.int .i64 a0_10) := (blk_cell BK225.out 10).trans rfl
         have hfz25_0 := blk_frozen BK225.out 0
         have hfz25_1 := blk_frozen BK225.out 1
         have hfz25_2 := blk_frozen BK225.out 2
         have hfz25_3 := blk_frozen BK225.out 3
         have hfz25_4 := blk_frozen BK225.out 4
         have hfz25_5 := blk_frozen BK225.out 5
         have hfz25_6 := blk_frozen BK225.out 6
         have hfz25_7 := blk_frozen BK225.out 7
         have hfz25_8 := blk_frozen BK225.out 8
         have hfz25_9 := blk_frozen BK225.out 9
         have hfz25_10 := blk_frozen BK225.out 10
         go_wp2
         go_ret
         exact ⟨by first | rfl | (simp [errW_none, errW_some] <;> rfl) | (simp [*, errW_none, errW_some] <;> rfl), by repeat (first | (with_reducible first | exact HB.out | apply below_alloc | apply pw_below_drewN | apply below_drew1 | refine below_set ?_ GE225.out) | exact HB.out)⟩
       ·rw [if_neg c20] at H
        have c20b0 : (a0_5 == 1) = false := beq_eq_false_iff_ne.mpr c20
        have c20b1 : (a0_5 != 1) = true := bne_iff_ne.mpr c20
        by_cases c26 : a0_5 = 2
        ·rw [if_pos c26] at H
         have c26b0 : (a0_5 == 2) = true := beq_iff_eq.mpr c26
         have c26b1 : (a0_5 != 2) = false := bne_eq_false_iff_eq.mpr c26
         clear c26
         by_cases c27 : t226 = true
         ·subst c27
          rw [if_pos rfl] at H
          by_cases c28 : x6_15 = true
          ·subst c28
           rw [if_pos rfl] at H
           obtain rfl := Option.some.inj H
           have hcz29_0 : wc.cell? ⟨gb225, 0, none⟩ = some (.int .i64 a0_0) := (blk_cell BK225.out 0).trans rfl
           have hcz29_1 : wc.cell? ⟨gb225, 1, none⟩ = some (.int .i64 a0_1) := (blk_cell BK225.out 1).trans rfl
           have hcz29_2 : wc.cell? ⟨gb225, 2, none⟩ = some (.int .i64 a0_2) := (blk_cell BK225.out 2).trans rfl
           have hcz29_3 : wc.cell? ⟨gb225, 3, none⟩ = some (.int .i64 a0_3) := (blk_cell BK225.out 3).trans rfl
           have hcz29_4 : wc.cell? ⟨gb225, 4, none⟩ = some (.int .i64 a0_4) := (blk_cell BK225.out 4).trans rfl
           have hcz29_5 : wc.cell? ⟨gb225, 5, none⟩ = some (.int .i64 a0_5) := (blk_cell BK225.out 5).trans rfl
           have hcz29_6 : wc.cell? ⟨gb225, 6, none⟩ = some (.int .i64 a0_6) := (blk_cell BK225.out 6).trans rfl
           have hcz29_7 : wc.cell? ⟨gb225, 7, none⟩ = some (.int .i64 a0_7) := (blk_cell BK225.out 7).trans rfl
           have hcz29_8 : wc.cell? ⟨gb225, 8, none⟩ = some (.int .i64 a0_8) := (blk_cell BK225.out 8).trans rfl
           have hcz29_9 : wc.cell? ⟨gb225, 9, none⟩ = some (.int .i64 a0_9) := (blk_cell BK225.out 9).trans rfl
           have hcz29_10 : wc.cell? ⟨gb225, 10, none⟩ = some (.int .i64 a0_10) := (blk_cell BK225.out 10).trans rfl
           have hfz29_0 := blk_frozen BK225.out 0
           have hfz29_1 := blk_frozen BK225.out 1
           have hfz29_2 := blk_frozen BK225.out 2
           have hfz29_3 := blk_frozen BK225.out 3
           have hfz29_4 := blk_frozen BK225.out 4
           have hfz29_5 := blk_frozen BK225.out 5
           have hfz29_6 := blk_frozen BK225.out 6
           have hfz29_7 := blk_frozen BK225.out 7
           have hfz29_8 := blk_frozen BK225.out 8
           have hfz29_9 := blk_frozen BK225.out 9
           have hfz29_10 := blk_frozen BK225.out 10
           go_wp2
           go_ret
           exact ⟨by first | rfl | (simp [errW_none, errW_some] <;> rfl) | (simp [*, errW_none, errW_some] <;> rfl), by repeat (first | (with_reducible first | exact HB.out | apply below_alloc | apply pw_below_drewN | apply below_drew1 | refine below_set ?_ GE225.out) | exact HB.out)⟩
          ·replace c28 := Bool.eq_false_iff.mpr c28
           subst c28
           rw [if_neg (show ¬ (false = true) by decide)] at H
           obtain rfl := Option.some.inj H
           have hcz30_0 : wc.cell? ⟨gb225, 0, none⟩ = some (.int .i64 a0_0) := (blk_cell BK225.out 0).trans rfl
           have hcz30_1 : wc.cell? ⟨gb225, 1, none⟩ = some (.int .i64 a0_1) := (blk_cell BK225.out 1).trans rfl
           have hcz30_2 : wc.cell? ⟨gb225, 2, none⟩ = some (.int .i64 a0_2) := (blk_cell BK225.out 2).trans rfl
           have hcz30_3 : wc.cell? ⟨gb225, 3, none⟩ = some (.int .i64 a0_3) := (blk_cell BK225.out 3).trans rfl
           have hcz30_4 : wc.cell? ⟨gb225, 4, none⟩ = some (.int .i64 a0_4) := (blk_cell BK225.out 4).trans rfl
           have hcz30_5 : wc.cell? ⟨gb225, 5, none⟩ = some (.int .i64 a0_5) := (blk_cell BK225.out 5).trans rfl
           have hcz30_6 : wc.cell? ⟨gb225, 6, none⟩ = some (.int .i64 a0_6) := (blk_cell BK225.out 6).trans rfl
           have hcz30_7 : wc.cell? ⟨gb225, 7, none⟩ = some (.int .i64 a0_7) := (blk_cell BK225.out 7).trans rfl
           have hcz30_8 : wc.cell? ⟨gb225, 8, none⟩ = some (.int .i64 a0_8) := (blk_cell BK225.out 8).trans rfl
           have hcz30_9 : wc.cell? ⟨gb225, 9, none⟩ = some (.int .i64 a0_9) := (blk_cell BK225.out 9).trans rfl
           have hcz30_10 : wc.cell? ⟨gb225, 10, none⟩ = some (.int .i64 a0_10) := (blk_cell BK225.out 10).trans rfl
           have hfz30_0 := blk_frozen BK225.out 0
           have hfz30_1 := blk_frozen BK225.out 1
           have hfz30_2 := blk_frozen BK225.out 2
           have hfz30_3 := blk_frozen BK225.out 3
           have hfz30_4 := blk_frozen BK225.out 4
           have hfz30_5 := blk_frozen BK225.out 5
           have hfz30_6 := blk_frozen BK225.out 6
           have hfz30_7 := blk_frozen BK225.out 7
           have hfz30_8 := blk_frozen BK225.out 8
           have hfz30_9 := blk_frozen BK225.out 9
           have hfz30_10 := blk_frozen BK225.out 10
           go_wp2
           go_ret
           exact ⟨by first | rfl | (simp [errW_none, errW_some] <;> rfl) | (simp [*, errW_none, errW_some] <;> rfl), by repeat (first | (with_reducible first | exact HB.out | apply below_alloc | apply pw_below_drewN | apply below_drew1 | refine below_set ?_ GE225.out) | exact HB.out)⟩
         ·replace c27 := Bool.eq_false_iff.mpr c27
          subst c27
          rw [if_neg (show ¬ (false = true) by decide)] at H
          obtain rfl := Option.some.inj H
          have hcz31_0 : wc.cell? ⟨gb225, 0, none⟩ = some (.int .i64 a0_0) := (blk_cell BK225.out 0).trans rfl
          have hcz31_1 : wc.cell? ⟨gb225, 1, none⟩ = some (.int .i64 a0_1) := (blk_cell BK225.out 1).trans rfl
          have hcz31_2 : wc.cell? ⟨gb225, 2, none⟩ = some (.int .i64 a0_2) := (blk_cell BK225.out 2).trans rfl
          have hcz31_3 : wc.cell? ⟨gb225, 3, none⟩ = some (.int .i64 a0_3) := (blk_cell BK225.out 3).trans rfl
          have hcz31_4 : wc.cell? ⟨gb225, 4, none⟩ = some (.int .i64 a0_4) := (blk_cell BK225.out 4).trans rfl
          have hcz31_5 : wc.cell? ⟨gb225, 5, none⟩ = some (.int .i64 a0_5) := (blk_cell BK225.out 5).trans rfl
          have hcz31_6 : wc.cell? ⟨gb225, 6, none⟩ = some (.int .i64 a0_6) := (blk_cell BK225.out 6).trans rfl
          have hcz31_7 : wc.cell? ⟨gb225, 7, none⟩ = some (.int .i64 a0_7) := (blk_cell BK225.out 7).trans rfl
          have hcz31_8 : wc.cell? ⟨gb225, 8, none⟩ = some (.int .i64 a0_8) := (blk_cell BK225.out 8).trans rfl
          have hcz31_9 : wc.cell? ⟨gb225, 9, none⟩ = some (.int .i64 a0_9) := (blk_cell BK225.out 9).trans rfl
          have hcz31_10 : wc.cell? ⟨gb225, 10, none⟩ = some (.int .i64 a0_10) := (blk_cell BK225.out 10).trans rfl
          have hfz31_0 := blk_frozen BK225.out 0
          have hfz31_1 := blk_frozen BK225.out 1
          have hfz31_2 := blk_frozen BK225.out 2
          have hfz31_3 := blk_frozen BK225.out 3
          have hfz31_4 := blk_frozen BK225.out 4
          have hfz31_5 := blk_frozen BK225.out 5
          have hfz31_6 := blk_frozen BK225.out 6
          have hfz31_7 := blk_frozen BK225.out 7
          have hfz31_8 := blk_frozen BK225.out 8
          have hfz31_9 := blk_frozen BK225.out 9
          have hfz31_10 := blk_frozen BK225.out 10
          go_wp2
          go_ret
          exact ⟨by first | rfl | (simp [errW_none, errW_some] <;> rfl) | (simp [*, errW_none, errW_some] <;> rfl), by repeat (first | (with_reducible first | exact HB.out | apply below_alloc | apply pw_below_drewN | apply below_drew1 | refine below_set ?_ GE225.out) | exact HB.out)⟩
        ·rw [if_neg c26] at H
         have c26b0 : (a0_5 == 2) = false := beq_eq_false_iff_ne.mpr c26
         have c26b1 : (a0_5 != 2) = true := bne_iff_ne.mpr c26
         have HC32 := Aside0.mk H
         clear H
         have hcz33_0 : wc.cell? ⟨gb225, 0, none⟩ = some (.int .i64 a0_0) := (blk_cell BK225.out 0).trans rfl
         have hcz33_1 : wc.cell? ⟨gb225, 1, none⟩ = some (.int .i64 a0_1) := (blk_cell BK225.out 1).trans rfl
         have hcz33_2 : wc.cell? ⟨gb225, 2, none⟩ = some (.int .i64 a0_2) := (blk_cell BK225.out 2).trans rfl
         have hcz33_3 : wc.cell? ⟨gb225, 3, none⟩ = some (.int .i64 a0_3) := (blk_cell BK225.out 3).trans rfl
         have hcz33_4 : wc.cell? ⟨gb225, 4, none⟩ = some (.int .i64 a0_4) := (blk_cell BK225.out 4).trans rfl
         have hcz33_5 : wc.cell? ⟨gb225, 5, none⟩ = some (.int .i64 a0_5) := (blk_cell BK225.out 5).trans rfl
         have hcz33_6 : wc.cell? ⟨gb225, 6, none⟩ = some (.int .i64 a0_6) := (blk_cell BK225.out 6).trans rfl
         have hcz33_7 : wc.cell? ⟨gb225, 7, none⟩ = some (.int .i64 a0_7) := (blk_cell BK225.out 7).trans rfl
         have hcz33_8 : wc.cell? ⟨gb225, 8, none⟩ = some (.int .i64 a0_8) := (blk_cell BK225.out 8).trans rfl
         have hcz33_9 : wc.cell? ⟨gb225, 9, none⟩ = some (.int .i64 a0_9) := (blk_cell BK225.out 9).trans rfl
         have hcz33_10 : wc.cell? ⟨gb225, 10, none⟩ = some (.int .i64 a0_10) := (blk_cell BK225.out 10).trans rfl
         have hfz33_0 := blk_frozen BK225.out 0
         have hfz33_1 := blk_frozen BK225.out 1
         have hfz33_2 := blk_frozen BK225.out 2
         have hfz33_3 := blk_frozen BK225.out 3
         have hfz33_4 := blk_frozen BK225.out 4
         have hfz33_5 := blk_frozen BK225.out 5
         have hfz33_6 := blk_frozen BK225.out 6
         have hfz33_7 := blk_frozen BK225.out 7
         have hfz33_8 := blk_frozen BK225.out 8
         have hfz33_9 := blk_frozen BK225.out 9
         have hfz33_10 := blk_frozen BK225.out 10
         go_upto_if 60 with (fail)
         go_cut [60] (fun v60 wc => ∃ (kq : Nat) (x60_31 : Bool), v60 = .bool x60_31 ∧ Aside0 (storagebarterref15_parts.j3 kq t226 x4_2 x6_15 a0_5 x60_31 a0_0 a0_1 a0_2 a0_3 a0_4 a0_5 a0_6 a0_7 a0_8 a0_9 a0_10 = some r) ∧ Aside0 (kq ≤ kj15) ∧ Aside0 (wc.heap[gb225]? = some (.cells #[.int .i64 a0_0, .int .i64 a0_1, .int .i64 a0_2, .int .i64 a0_3, .int .i64 a0_4, .int .i64 a0_5, .int .i64 a0_6, .int .i64 a0_7, .int .i64 a0_8, .int .i64 a0_9, .int .i64 a0_10] 64 (0, 0))) ∧ Aside0 (Below w.heap.size w wc))
         case first =>
          have H := HC32.out
          clear HC32
          by_cases c34 : a0_5 = 3
          ·rw [if_pos c34] at H
           have c34b0 : (a0_5 == 3) = true := beq_iff_eq.mpr c34
           have c34b1 : (a0_5 != 3) = false := bne_eq_false_iff_eq.mpr c34
           clear c34
           (first | rw [c34b0] | (simp only [i64_w, i32_w]; rw [c34b0]) | skip)
           have H' := Aside0.mk H
           clear H
           go_wp2
           go_meet
           case rel => exact ⟨_, ((a0_5 == 3)), (by first | rfl | (simp; done) | (simp [*]; done)), H', ⟨by have := HJ2.out; have := HJ10.out; have := HJ15.out; first | omega | exact Nat.le_refl _⟩, ⟨by (with_reducible repeat (first | refine blk_drewN ?_ _ | refine blk_drew ?_ | refine blk_alloc ?_ _)); exact BK225.out⟩, ⟨by repeat (first | (with_reducible first | exact HB.out | apply below_alloc | apply pw_below_drewN | apply below_drew1 | refine below_set ?_ GE225.out) | exact HB.out)⟩⟩
          ·rw [if_neg c34] at H
           have c34b0 : (a0_5 == 3) = false := beq_eq_false_iff_ne.mpr c34
           have c34b1 : (a0_5 != 3) = true := bne_iff_ne.mpr c34
           (first | rw [c34b0] | (simp only [i64_w, i32_w]; rw [c34b0]) | skip)
           have H' := Aside0.mk H
           clear H
           go_wp2
           go_meet
           case rel => exact ⟨_, ((a0_5 == 5)), (by first | rfl | (simp; done) | (simp [*]; done)), H', ⟨by have := HJ2.out; have := HJ10.out; have := HJ15.out; first | omega | exact Nat.le_refl _⟩, ⟨by (with_reducible repeat (first | refine blk_drewN ?_ _ | refine blk_drew ?_ | refine blk_alloc ?_ _)); exact BK225.out⟩, ⟨by repeat (first | (with_reducible first | exact HB.out | apply below_alloc | apply pw_below_drewN | apply below_drew1 | refine below_set ?_ GE225.out) | exact HB.out)⟩⟩
         case rest =>
          clear HC32
          try clear c1
          try clear c2
          try clear p2
          try clear c3
          try clear c6
          try clear p6
          try clear c7
          try clear c13
          try clear c17
          try clear c17b0
          try clear c17b1
          try clear c20
          try clear c20b0
          try clear c20b1
          try clear c21
          try clear c22
          try clear c26
          try clear c26b0
          try clear c26b1
          try clear c27
          try clear c28
          try clear c34
          try clear c34b0
          try clear c34b1
          try clear hcz10_0
          try clear hcz10_1
          try clear hcz10_10
          try clear hcz10_2
          try clear hcz10_3
          try clear hcz10_4
          try clear hcz10_5
          try clear hcz10_6
          try clear hcz10_7
          try clear hcz10_8
          try clear hcz10_9
          try clear hcz14_0
          try clear hcz14_1
          try clear hcz14_10
          try clear hcz14_2
          try clear hcz14_3
          try clear hcz14_4
          try clear hcz14_5
          try clear hcz14_6
          try clear hcz14_7
          try clear hcz14_8
          try clear hcz14_9
          try clear hcz15_0
          try clear hcz15_1
          try clear hcz15_10
          try clear hcz15_2
          try clear hcz15_3
          try clear hcz15_4
          try clear hcz15_5
          try clear hcz15_6
          try clear hcz15_7
          try clear hcz15_8
          try clear hcz15_9
          try clear hcz18_0
          try clear hcz18_1
          try clear hcz18_10
          try clear hcz18_2
          try clear hcz18_3
          try clear hcz18_4
          try clear hcz18_5
          try clear hcz18_6
          try clear hcz18_7
          try clear hcz18_8
          try clear hcz18_9
          try clear hcz19_0
          try clear hcz19_1
          try clear hcz19_10
          try clear hcz19_2
          try clear hcz19_3
          try clear hcz19_4
          try clear hcz19_5
          try clear hcz19_6
          try clear hcz19_7
          try clear hcz19_8
          try clear hcz19_9
          try clear hcz23_0
          try clear hcz23_1
          try clear hcz23_10
          try clear hcz23_2
          try clear hcz23_3
          try clear hcz23_4
          try clear hcz23_5
          try clear hcz23_6
          try clear hcz23_7
          try clear hcz23_8
          try clear hcz23_9
          try clear hcz24_0
          try clear hcz24_1
          try clear hcz24_10
          try clear hcz24_2
          try clear hcz24_3
          try clear hcz24_4
          try clear hcz24_5
          try clear hcz24_6
          try clear hcz24_7
          try clear hcz24_8
          try clear hcz24_9
          try clear hcz25_0
          try clear hcz25_1
          try clear hcz25_10
          try clear hcz25_2
          try clear hcz25_3
          try clear hcz25_4
          try clear hcz25_5
          try clear hcz25_6
          try clear hcz25_7
          try clear hcz25_8
          try clear hcz25_9
          try clear hcz29_0
          try clear hcz29_1
          try clear hcz29_10
          try clear hcz29_2
          try clear hcz29_3
          try clear hcz29_4
          try clear hcz29_5
          try clear hcz29_6
          try clear hcz29_7
          try clear hcz29_8
          try clear hcz29_9
          try clear hcz30_0
          try clear hcz30_1
          try clear hcz30_10
          try clear hcz30_2
          try clear hcz30_3
          try clear hcz30_4
          try clear hcz30_5
          try clear hcz30_6
          try clear hcz30_7
          try clear hcz30_8
          try clear hcz30_9
          try clear hcz31_0
          try clear hcz31_1
          try clear hcz31_10
          try clear hcz31_2
          try clear hcz31_3
          try clear hcz31_4
          try clear hcz31_5
          try clear hcz31_6
          try clear hcz31_7
          try clear hcz31_8
          try clear hcz31_9
          try clear hcz33_0
          try clear hcz33_1
          try clear hcz33_10
          try clear hcz33_2
          try clear hcz33_3
          try clear hcz33_4
          try clear hcz33_5
          try clear hcz33_6
          try clear hcz33_7
          try clear hcz33_8
          try clear hcz33_9
          try clear hcz5_0
          try clear hcz5_1
          try clear hcz5_10
          try clear hcz5_2
          try clear hcz5_3
          try clear hcz5_4
          try clear hcz5_5
          try clear hcz5_6
          try clear hcz5_7
          try clear hcz5_8
          try clear hcz5_9
          try clear hcz9_0
          try clear hcz9_1
          try clear hcz9_10
          try clear hcz9_2
          try clear hcz9_3
          try clear hcz9_4
          try clear hcz9_5
          try clear hcz9_6
          try clear hcz9_7
          try clear hcz9_8
          try clear hcz9_9
          try clear hfz10_0
          try clear hfz10_1
          try clear hfz10_10
          try clear hfz10_2
          try clear hfz10_3
          try clear hfz10_4
          try clear hfz10_5
          try clear hfz10_6
          try clear hfz10_7
          try clear hfz10_8
          try clear hfz10_9
          try clear hfz14_0
          try clear hfz14_1
          try clear hfz14_10
          try clear hfz14_2
          try clear hfz14_3
          try clear hfz14_4
          try clear hfz14_5
          try clear hfz14_6
          try clear hfz14_7
          try clear hfz14_8
          try clear hfz14_9
          try clear hfz15_0
          try clear hfz15_1
          try clear hfz15_10
          try clear hfz15_2
          try clear hfz15_3
          try clear hfz15_4
          try clear hfz15_5
          try clear hfz15_6
          try clear hfz15_7
          try clear hfz15_8
          try clear hfz15_9
          try clear hfz18_0
          try clear hfz18_1
          try clear hfz18_10
          try clear hfz18_2
          try clear hfz18_3
          try clear hfz18_4
          try clear hfz18_5
          try clear hfz18_6
          try clear hfz18_7
          try clear hfz18_8
          try clear hfz18_9
          try clear hfz19_0
          try clear hfz19_1
          try clear hfz19_10
          try clear hfz19_2
          try clear hfz19_3
          try clear hfz19_4
          try clear hfz19_5
          try clear hfz19_6
          try clear hfz19_7
          try clear hfz19_8
          try clear hfz19_9
          try clear hfz23_0
          try clear hfz23_1
          try clear hfz23_10
          try clear hfz23_2
          try clear hfz23_3
          try clear hfz23_4
          try clear hfz23_5
          try clear hfz23_6
          try clear hfz23_7
          try clear hfz23_8
          try clear hfz23_9
          try clear hfz24_0
          try clear hfz24_1
          try clear hfz24_10
          try clear hfz24_2
          try clear hfz24_3
          try clear hfz24_4
          try clear hfz24_5
          try clear hfz24_6
          try clear hfz24_7
          try clear hfz24_8
          try clear hfz24_9
          try clear hfz25_0
          try clear hfz25_1
          try clear hfz25_10
          try clear hfz25_2
          try clear hfz25_3
          try clear hfz25_4
          try clear hfz25_5
          try clear hfz25_6
          try clear hfz25_7
          try clear hfz25_8
          try clear hfz25_9
          try clear hfz29_0
          try clear hfz29_1
          try clear hfz29_10
          try clear hfz29_2
          try clear hfz29_3
          try clear hfz29_4
          try clear hfz29_5
          try clear hfz29_6
          try clear hfz29_7
          try clear hfz29_8
          try clear hfz29_9
          try clear hfz30_0
          try clear hfz30_1
          try clear hfz30_10
          try clear hfz30_2
          try clear hfz30_3
          try clear hfz30_4
          try clear hfz30_5
          try clear hfz30_6
          try clear hfz30_7
          try clear hfz30_8
          try clear hfz30_9
          try clear hfz31_0
          try clear hfz31_1
          try clear hfz31_10
          try clear hfz31_2
          try clear hfz31_3
          try clear hfz31_4
          try clear hfz31_5
          try clear hfz31_6
          try clear hfz31_7
          try clear hfz31_8
          try clear hfz31_9
          try clear hfz33_0
          try clear hfz33_1
          try clear hfz33_10
          try clear hfz33_2
          try clear hfz33_3
          try clear hfz33_4
          try clear hfz33_5
          try clear hfz33_6
          try clear hfz33_7
          try clear hfz33_8
          try clear hfz33_9
          try clear hfz5_0
          try clear hfz5_1
          try clear hfz5_10
          try clear hfz5_2
          try clear hfz5_3
          try clear hfz5_4
          try clear hfz5_5
          try clear hfz5_6
          try clear hfz5_7
          try clear hfz5_8
          try clear hfz5_9
          try clear hfz9_0
          try clear hfz9_1
          try clear hfz9_10
          try clear hfz9_2
          try clear hfz9_3
          try clear hfz9_4
          try clear hfz9_5
          try clear hfz9_6
          try clear hfz9_7
          try clear hfz9_8
          try clear hfz9_9
          try clear p2
          try clear p6
          obtain ⟨kq, x60_31, rfl, HA, HJ31, BK225, HB⟩ := hcut
          cases kq with
          | zero => exact absurd HA.out (by simp [storagebarterref15_parts.j3])
          | succ kj31 =>
           have H := HA.out
           clear HA
           simp only [storagebarterref15_parts.j3] at H
           by_cases c35 : x60_31 = true
           ·subst c35
            rw [if_pos rfl] at H
            by_cases c36 : t226 = true
            ·subst c36
             rw [if_pos rfl] at H
             by_cases c37 : x6_15 = true
             ·subst c37
              rw [if_pos rfl] at H
              obtain rfl := Option.some.inj H
              have hcz38_0 : wc.cell? ⟨gb225, 0, none⟩ = some (.int .i64 a0_0) := (blk_cell BK225.out 0).trans rfl
              have hcz38_1 : wc.cell? ⟨gb225, 1, none⟩ = some (.int .i64 a0_1) := (blk_cell BK225.out 1).trans rfl
              have hcz38_2 : wc.cell? ⟨gb225, 2, none⟩ = some (.int .i64 a0_2) := (blk_cell BK225.out 2).trans rfl
              have hcz38_3 : wc.cell? ⟨gb225, 3, none⟩ = some (.int .i64 a0_3) := (blk_cell BK225.out 3).trans rfl
              have hcz38_4 : wc.cell? ⟨gb225, 4, none⟩ = some (.int .i64 a0_4) := (blk_cell BK225.out 4).trans rfl
              have hcz38_5 : wc.cell? ⟨gb225, 5, none⟩ = some (.int .i64 a0_5) := (blk_cell BK225.out 5).trans rfl
              have hcz38_6 : wc.cell? ⟨gb225, 6, none⟩ = some (.int .i64 a0_6) := (blk_cell BK225.out 6).trans rfl
              have hcz38_7 : wc.cell? ⟨gb225, 7, none⟩ = some (.int .i64 a0_7) := (blk_cell BK225.out 7).trans rfl
              have hcz38_8 : wc.cell? ⟨gb225, 8, none⟩ = some (.int .i64 a0_8) := (blk_cell BK225.out 8).trans rfl
              have hcz38_9 : wc.cell? ⟨gb225, 9, none⟩ = some (.int .i64 a0_9) := (blk_cell BK225.out 9).trans rfl
              have hcz38_10 : wc.cell? ⟨gb225, 10, none⟩ = some (.int .i64 a0_10) := (blk_cell BK225.out 10).trans rfl
              have hfz38_0 := blk_frozen BK225.out 0
              have hfz38_1 := blk_frozen BK225.out 1
              have hfz38_2 := blk_frozen BK225.out 2
              have hfz38_3 := blk_frozen BK225.out 3
              have hfz38_4 := blk_frozen BK225.out 4
              have hfz38_5 := blk_frozen BK225.out 5
              have hfz38_6 := blk_frozen BK225.out 6
              have hfz38_7 := blk_frozen BK225.out 7
              have hfz38_8 := blk_frozen BK225.out 8
              have hfz38_9 := blk_frozen BK225.out 9
              have hfz38_10 := blk_frozen BK225.out 10
              go_wp2
              go_ret
              exact ⟨by first | rfl | (simp [errW_none, errW_some] <;> rfl) | (simp [*, errW_none, errW_some] <;> rfl), by repeat (first | (with_reducible first | exact HB.out | apply below_alloc | apply pw_below_drewN | apply below_drew1 | refine below_set ?_ GE225.out) | exact HB.out)⟩
             ·replace c37 := Bool.eq_false_iff.mpr c37
              subst c37
              rw [if_neg (show ¬ (false = true) by decide)] at H
              obtain rfl := Option.some.inj H
              go_wp2
              go_ret
              exact ⟨by first | rfl | (simp [errW_none, errW_some] <;> rfl) | (simp [*, errW_none, errW_some] <;> rfl), by repeat (first | (with_reducible first | exact HB.out | apply below_alloc | apply pw_below_drewN | apply below_drew1 | refine below_set ?_ GE225.out) | exact HB.out)⟩
            ·replace c36 := Bool.eq_false_iff.mpr c36
             subst c36
             rw [if_neg (show ¬ (false = true) by decide)] at H
             obtain rfl := Option.some.inj H
             go_wp2
             go_ret
             exact ⟨by first | rfl | (simp [errW_none, errW_some] <;> rfl) | (simp [*, errW_none, errW_some] <;> rfl), by repeat (first | (with_reducible first | exact HB.out | apply below_alloc | apply pw_below_drewN | apply below_drew1 | refine below_set ?_ GE225.out) | exact HB.out)⟩
           ·replace c35 := Bool.eq_false_iff.mpr c35
            subst c35
            rw [if_neg (show ¬ (false = true) by decide)] at H
            by_cases c39 : a0_5 = 4
            ·rw [if_pos c39] at H
             have c39b0 : (a0_5 == 4) = true := beq_iff_eq.mpr c39
             have c39b1 : (a0_5 != 4) = false := bne_eq_false_iff_eq.mpr c39
             clear c39
             by_cases c40 : t226 = true
             ·subst c40
              rw [if_pos rfl] at H
              by_cases c41 : x4_2 = true
              ·subst c41
               rw [if_pos rfl] at H
               obtain rfl := Option.some.inj H
               have hcz42_0 : wc.cell? ⟨gb225, 0, none⟩ = some (.int .i64 a0_0) := (blk_cell BK225.out 0).trans rfl
               have hcz42_1 : wc.cell? ⟨gb225, 1, none⟩ = some (.int .i64 a0_1) := (blk_cell BK225.out 1).trans rfl
               have hcz42_2 : wc.cell? ⟨gb225, 2, none⟩ = some (.int .i64 a0_2) := (blk_cell BK225.out 2).trans rfl
               have hcz42_3 : wc.cell? ⟨gb225, 3, none⟩ = some (.int .i64 a0_3) := (blk_cell BK225.out 3).trans rfl
               have hcz42_4 : wc.cell? ⟨gb225, 4, none⟩ = some (.int .i64 a0_4) := (blk_cell BK225.out 4).trans rfl
               have hcz42_5 : wc.cell? ⟨gb225, 5, none⟩ = some (.int .i64 a0_5) := (blk_cell BK225.out 5).trans rfl
               have hcz42_6 : wc.cell? ⟨gb225, 6, none⟩ = some (.int .i64 a0_6) := (blk_cell BK225.out 6).trans rfl
               have hcz42_7 : wc.cell? ⟨gb225, 7, none⟩ = some (.int .i64 a0_7) := (blk_cell BK225.out 7).trans rfl
               have hcz42_8 : wc.cell? ⟨gb225, 8, none⟩ = some (.int .i64 a0_8) := (blk_cell BK225.out 8).trans rfl
               have hcz42_9 : wc.cell? ⟨gb225, 9, none⟩ = some (.int .i64 a0_9) := (blk_cell BK225.out 9).trans rfl
               have hcz42_10 : wc.cell? ⟨gb225, 10, none⟩ = some (.int .i64 a0_10) := (blk_cell BK225.out 10).trans rfl
               have hfz42_0 := blk_frozen BK225.out 0
               have hfz42_1 := blk_frozen BK225.out 1
               have hfz42_2 := blk_frozen BK225.out 2
               have hfz42_3 := blk_frozen BK225.out 3
               have hfz42_4 := blk_frozen BK225.out 4
               have hfz42_5 := blk_frozen BK225.out 5
               have hfz42_6 := blk_frozen BK225.out 6
               have hfz42_7 := blk_frozen BK225.out 7
               have hfz42_8 := blk_frozen BK225.out 8
               have hfz42_9 := blk_frozen BK225.out 9
               have hfz42_10 := blk_frozen BK225.out 10
               go_wp2
               go_ret
               exact ⟨by first | rfl | (simp [errW_none, errW_some] <;> rfl) | (simp [*, errW_none, errW_some] <;> rfl), by repeat (first | (with_reducible first | exact HB.out | apply below_alloc | apply pw_below_drewN | apply below_drew1 | refine below_set ?_ GE225.out) | exact HB.out)⟩
              ·replace c41 := Bool.eq_false_iff.mpr c41
               subst c41
               rw [if_neg (show ¬ (false = true) by decide)] at H
               obtain rfl := Option.some.inj H
               go_wp2
               go_ret
               exact ⟨by first | rfl | (simp [errW_none, errW_some] <;> rfl) | (simp [*, errW_none, errW_some] <;> rfl), by repeat (first | (with_reducible first | exact HB.out | apply below_alloc | apply pw_below_drewN | apply below_drew1 | refine below_set ?_ GE225.out) | exact HB.out)⟩
             ·replace c40 := Bool.eq_false_iff.mpr c40
              subst c40
              rw [if_neg (show ¬ (false = true) by decide)] at H
              obtain rfl := Option.some.inj H
              go_wp2
              go_ret
              exact ⟨by first | rfl | (simp [errW_none, errW_some] <;> rfl) | (simp [*, errW_none, errW_some] <;> rfl), by repeat (first | (with_reducible first | exact HB.out | apply below_alloc | apply pw_below_drewN | apply below_drew1 | refine below_set ?_ GE225.out) | exact HB.out)⟩
            ·rw [if_neg c39] at H
             have c39b0 : (a0_5 == 4) = false := beq_eq_false_iff_ne.mpr c39
             have c39b1 : (a0_5 != 4) = true := bne_iff_ne.mpr c39
             by_cases c43 : a0_5 = 6
             ·rw [if_pos c43] at H
              have c43b0 : (a0_5 == 6) = true := beq_iff_eq.mpr c43
              have c43b1 : (a0_5 != 6) = false := bne_eq_false_iff_eq.mpr c43
              clear c43
              replace H := Option.bind_eq_some_iff.mp H
              obtain ⟨t230, A440, H⟩ := H
              try dsimp only at H
              have A44 := Aside0.mk A440
              clear A440
              by_cases c45 : t230 = true
              ·subst c45
               rw [if_pos rfl] at H
               replace H := Option.bind_eq_some_iff.mp H
               obtain ⟨t231, A460, H⟩ := H
               try dsimp only at H
               have A46 := Aside0.mk A460
               clear A460
               by_cases c47 : t231 = true
               ·subst c47
                rw [if_pos rfl] at H
                replace H := Option.bind_eq_some_iff.mp H
                obtain ⟨t232, A480, H⟩ := H
                try dsimp only at H
                have A48 := Aside0.mk A480
                clear A480
                by_cases c49 : t232 = true
                ·subst c49
                 rw [if_pos rfl] at H
                 obtain rfl := Option.some.inj H
                 have hcz50_0 : wc.cell? ⟨gb225, 0, none⟩ = some (.int .i64 a0_0) := (blk_cell BK225.out 0).trans rfl
                 have hcz50_1 : wc.cell? ⟨gb225, 1, none⟩ = some (.int .i64 a0_1) := (blk_cell BK225.out 1).trans rfl
                 have hcz50_2 : wc.cell? ⟨gb225, 2, none⟩ = some (.int .i64 a0_2) := (blk_cell BK225.out 2).trans rfl
                 have hcz50_3 : wc.cell? ⟨gb225, 3, none⟩ = some (.int .i64 a0_3) := (blk_cell BK225.out 3).trans rfl
                 have hcz50_4 : wc.cell? ⟨gb225, 4, none⟩ = some (.int .i64 a0_4) := (blk_cell BK225.out 4).trans rfl
                 have hcz50_5 : wc.cell? ⟨gb225, 5, none⟩ = some (.int .i64 a0_5) := (blk_cell BK225.out 5).trans rfl
                 have hcz50_6 : wc.cell? ⟨gb225, 6, none⟩ = some (.int .i64 a0_6) := (blk_cell BK225.out 6).trans rfl
                 have hcz50_7 : wc.cell? ⟨gb225, 7, none⟩ = some (.int .i64 a0_7) := (blk_cell BK225.out 7).trans rfl
                 have hcz50_8 : wc.cell? ⟨gb225, 8, none⟩ = some (.int .i64 a0_8) := (blk_cell BK225.out 8).trans rfl
                 have hcz50_9 : wc.cell? ⟨gb225, 9, none⟩ = some (.int .i64 a0_9) := (blk_cell BK225.out 9).trans rfl
                 have hcz50_10 : wc.cell? ⟨gb225, 10, none⟩ = some (.int .i64 a0_10) := (blk_cell BK225.out 10).trans rfl
                 have hfz50_0 := blk_frozen BK225.out 0
                 have hfz50_1 := blk_frozen BK225.out 1
                 have hfz50_2 := blk_frozen BK225.out 2
                 have hfz50_3 := blk_frozen BK225.out 3
                 have hfz50_4 := blk_frozen BK225.out 4
                 have hfz50_5 := blk_frozen BK225.out 5
                 have hfz50_6 := blk_frozen BK225.out 6
                 have hfz50_7 := blk_frozen BK225.out 7
                 have hfz50_8 := blk_frozen BK225.out 8
                 have hfz50_9 := blk_frozen BK225.out 9
                 have hfz50_10 := blk_frozen BK225.out 10
                 go_wp2_with (first | ((with_reducible refine gate_callee (f := 66) rfl ?_); refine goesL_ (some 87) rfl rfl Try.func66 (by kernel_rfl) rfl #[.int .i64 a0_6, .int .i64 0, .int .i64 2147483646] rfl (by (try simp only [List.map_toArray, List.map_cons, List.map_nil]); first | done | rfl | (simp only [List.length_drop, List.length_take]; rfl)) ?_; (with_reducible refine (storagebarterref15_in.calls a0_6 0 2147483646 true _ A44.out).mono ?_); rintro e w' ⟨rfl, ⟨nd, rfl⟩⟩; refine ⟨_, rfl, ?_⟩) | (go_at_call 66; (with_reducible refine (storagebarterref15_in.calls a0_7 0 2147483646 true _ A46.out).mono ?_); rintro e w' ⟨rfl, ⟨nd, rfl⟩⟩) | (go_at_call 66; (with_reducible refine (storagebarterref15_in.calls a0_8 0 256 true _ A48.out).mono ?_); rintro e w' ⟨rfl, ⟨nd, rfl⟩⟩))
                 go_ret
                 exact ⟨by first | rfl | (simp [errW_none, errW_some] <;> rfl) | (simp [*, errW_none, errW_some] <;> rfl), by repeat (first | (with_reducible first | exact HB.out | apply below_alloc | apply pw_below_drewN | apply below_drew1 | refine below_set ?_ GE225.out) | exact HB.out)⟩
                ·replace c49 := Bool.eq_false_iff.mpr c49
                 subst c49
                 rw [if_neg (show ¬ (false = true) by decide)] at H
                 obtain rfl := Option.some.inj H
                 have hcz51_0 : wc.cell? ⟨gb225, 0, none⟩ = some (.int .i64 a0_0) := (blk_cell BK225.out 0).trans rfl
                 have hcz51_1 : wc.cell? ⟨gb225, 1, none⟩ = some (.int .i64 a0_1) := (blk_cell BK225.out 1).trans rfl
                 have hcz51_2 : wc.cell? ⟨gb225, 2, none⟩ = some (.int .i64 a0_2) := (blk_cell BK225.out 2).trans rfl
                 have hcz51_3 : wc.cell? ⟨gb225, 3, none⟩ = some (.int .i64 a0_3) := (blk_cell BK225.out 3).trans rfl
                 have hcz51_4 : wc.cell? ⟨gb225, 4, none⟩ = some (.int .i64 a0_4) := (blk_cell BK225.out 4).trans rfl
                 have hcz51_5 : wc.cell? ⟨gb225, 5, none⟩ = some (.int .i64 a0_5) := (blk_cell BK225.out 5).trans rfl
                 have hcz51_6 : wc.cell? ⟨gb225, 6, none⟩ = some (.int .i64 a0_6) := (blk_cell BK225.out 6).trans rfl
                 have hcz51_7 : wc.cell? ⟨gb225, 7, none⟩ = some (.int .i64 a0_7) := (blk_cell BK225.out 7).trans rfl
                 have hcz51_8 : wc.cell? ⟨gb225, 8, none⟩ = some (.int .i64 a0_8) := (blk_cell BK225.out 8).trans rfl
                 have hcz51_9 : wc.cell? ⟨gb225, 9, none⟩ = some (.int .i64 a0_9) := (blk_cell BK225.out 9).trans rfl
                 have hcz51_10 : wc.cell? ⟨gb225, 10, none⟩ = some (.int .i64 a0_10) := (blk_cell BK225.out 10).trans rfl
                 have hfz51_0 := blk_frozen BK225.out 0
                 have hfz51_1 := blk_frozen BK225.out 1
                 have hfz51_2 := blk_frozen BK225.out 2
                 have hfz51_3 := blk_frozen BK225.out 3
                 have hfz51_4 := blk_frozen BK225.out 4
                 have hfz51_5 := blk_frozen BK225.out 5
                 have hfz51_6 := blk_frozen BK225.out 6
                 have hfz51_7 := blk_frozen BK225.out 7
                 have hfz51_8 := blk_frozen BK225.out 8
                 have hfz51_9 := blk_frozen BK225.out 9
                 have hfz51_10 := blk_frozen BK225.out 10
                 go_wp2_with (first | ((with_reducible refine gate_callee (f := 66) rfl ?_); refine goesL_ (some 87) rfl rfl Try.func66 (by kernel_rfl) rfl #[.int .i64 a0_6, .int .i64 0, .int .i64 2147483646] rfl (by (try simp only [List.map_toArray, List.map_cons, List.map_nil]); first | done | rfl | (simp only [List.length_drop, List.length_take]; rfl)) ?_; (with_reducible refine (storagebarterref15_in.calls a0_6 0 2147483646 true _ A44.out).mono ?_); rintro e w' ⟨rfl, ⟨nd, rfl⟩⟩; refine ⟨_, rfl, ?_⟩) | (go_at_call 66; (with_reducible refine (storagebarterref15_in.calls a0_7 0 2147483646 true _ A46.out).mono ?_); rintro e w' ⟨rfl, ⟨nd, rfl⟩⟩) | (go_at_call 66; (with_reducible refine (storagebarterref15_in.calls a0_8 0 256 false _ A48.out).mono ?_); rintro e w' ⟨rfl, ⟨nd, rfl⟩⟩))
                 go_ret
                 exact ⟨by first | rfl | (simp [errW_none, errW_some] <;> rfl) | (simp [*, errW_none, errW_some] <;> rfl), by repeat (first | (with_reducible first | exact HB.out | apply below_alloc | apply pw_below_drewN | apply below_drew1 | refine below_set ?_ GE225.out) | exact HB.out)⟩
               ·replace c47 := Bool.eq_false_iff.mpr c47
                subst c47
                rw [if_neg (show ¬ (false = true) by decide)] at H
                obtain rfl := Option.some.inj H
                have hcz52_0 : wc.cell? ⟨gb225, 0, none⟩ = some (.int .i64 a0_0) := (blk_cell BK225.out 0).trans rfl
                have hcz52_1 : wc.cell? ⟨gb225, 1, none⟩ = some (.int .i64 a0_1) := (blk_cell BK225.out 1).trans rfl
                have hcz52_2 : wc.cell? ⟨gb225, 2, none⟩ = some (.int .i64 a0_2) := (blk_cell BK225.out 2).trans rfl
                have hcz52_3 : wc.cell? ⟨gb225, 3, none⟩ = some (.int .i64 a0_3) := (blk_cell BK225.out 3).trans rfl
                have hcz52_4 : wc.cell? ⟨gb225, 4, none⟩ = some (.int .i64 a0_4) := (blk_cell BK225.out 4).trans rfl
                have hcz52_5 : wc.cell? ⟨gb225, 5, none⟩ = some (.int .i64 a0_5) := (blk_cell BK225.out 5).trans rfl
                have hcz52_6 : wc.cell? ⟨gb225, 6, none⟩ = some (.int .i64 a0_6) := (blk_cell BK225.out 6).trans rfl
                have hcz52_7 : wc.cell? ⟨gb225, 7, none⟩ = some (.int .i64 a0_7) := (blk_cell BK225.out 7).trans rfl
                have hcz52_8 : wc.cell? ⟨gb225, 8, none⟩ = some (.int .i64 a0_8) := (blk_cell BK225.out 8).trans rfl
                have hcz52_9 : wc.cell? ⟨gb225, 9, none⟩ = some (.int .i64 a0_9) := (blk_cell BK225.out 9).trans rfl
                have hcz52_10 : wc.cell? ⟨gb225, 10, none⟩ = some (.int .i64 a0_10) := (blk_cell BK225.out 10).trans rfl
                have hfz52_0 := blk_frozen BK225.out 0
                have hfz52_1 := blk_frozen BK225.out 1
                have hfz52_2 := blk_frozen BK225.out 2
                have hfz52_3 := blk_frozen BK225.out 3
                have hfz52_4 := blk_frozen BK225.out 4
                have hfz52_5 := blk_frozen BK225.out 5
                have hfz52_6 := blk_frozen BK225.out 6
                have hfz52_7 := blk_frozen BK225.out 7
                have hfz52_8 := blk_frozen BK225.out 8
                have hfz52_9 := blk_frozen BK225.out 9
                have hfz52_10 := blk_frozen BK225.out 10
                go_wp2_with (first | ((with_reducible refine gate_callee (f := 66) rfl ?_); refine goesL_ (some 87) rfl rfl Try.func66 (by kernel_rfl) rfl #[.int .i64 a0_6, .int .i64 0, .int .i64 2147483646] rfl (by (try simp only [List.map_toArray, List.map_cons, List.map_nil]); first | done | rfl | (simp only [List.length_drop, List.length_take]; rfl)) ?_; (with_reducible refine (storagebarterref15_in.calls a0_6 0 2147483646 true _ A44.out).mono ?_); rintro e w' ⟨rfl, ⟨nd, rfl⟩⟩; refine ⟨_, rfl, ?_⟩) | (go_at_call 66; (with_reducible refine (storagebarterref15_in.calls a0_7 0 2147483646 false _ A46.out).mono ?_); rintro e w' ⟨rfl, ⟨nd, rfl⟩⟩))
                go_ret
                exact ⟨by first | rfl | (simp [errW_none, errW_some] <;> rfl) | (simp [*, errW_none, errW_some] <;> rfl), by repeat (first | (with_reducible first | exact HB.out | apply below_alloc | apply pw_below_drewN | apply below_drew1 | refine below_set ?_ GE225.out) | exact HB.out)⟩
              ·replace c45 := Bool.eq_false_iff.mpr c45
               subst c45
               rw [if_neg (show ¬ (false = true) by decide)] at H
               obtain rfl := Option.some.inj H
               have hcz53_0 : wc.cell? ⟨gb225, 0, none⟩ = some (.int .i64 a0_0) := (blk_cell BK225.out 0).trans rfl
               have hcz53_1 : wc.cell? ⟨gb225, 1, none⟩ = some (.int .i64 a0_1) := (blk_cell BK225.out 1).trans rfl
               have hcz53_2 : wc.cell? ⟨gb225, 2, none⟩ = some (.int .i64 a0_2) := (blk_cell BK225.out 2).trans rfl
               have hcz53_3 : wc.cell? ⟨gb225, 3, none⟩ = some (.int .i64 a0_3) := (blk_cell BK225.out 3).trans rfl
               have hcz53_4 : wc.cell? ⟨gb225, 4, none⟩ = some (.int .i64 a0_4) := (blk_cell BK225.out 4).trans rfl
               have hcz53_5 : wc.cell? ⟨gb225, 5, none⟩ = some (.int .i64 a0_5) := (blk_cell BK225.out 5).trans rfl
               have hcz53_6 : wc.cell? ⟨gb225, 6, none⟩ = some (.int .i64 a0_6) := (blk_cell BK225.out 6).trans rfl
               have hcz53_7 : wc.cell? ⟨gb225, 7, none⟩ = some (.int .i64 a0_7) := (blk_cell BK225.out 7).trans rfl
               have hcz53_8 : wc.cell? ⟨gb225, 8, none⟩ = some (.int .i64 a0_8) := (blk_cell BK225.out 8).trans rfl
               have hcz53_9 : wc.cell? ⟨gb225, 9, none⟩ = some (.int .i64 a0_9) := (blk_cell BK225.out 9).trans rfl
               have hcz53_10 : wc.cell? ⟨gb225, 10, none⟩ = some (.int .i64 a0_10) := (blk_cell BK225.out 10).trans rfl
               have hfz53_0 := blk_frozen BK225.out 0
               have hfz53_1 := blk_frozen BK225.out 1
               have hfz53_2 := blk_frozen BK225.out 2
               have hfz53_3 := blk_frozen BK225.out 3
               have hfz53_4 := blk_frozen BK225.out 4
               have hfz53_5 := blk_frozen BK225.out 5
               have hfz53_6 := blk_frozen BK225.out 6
               have hfz53_7 := blk_frozen BK225.out 7
               have hfz53_8 := blk_frozen BK225.out 8
               have hfz53_9 := blk_frozen BK225.out 9
               have hfz53_10 := blk_frozen BK225.out 10
               go_wp2_with (first | ((with_reducible refine gate_callee (f := 66) rfl ?_); refine goesL_ (some 87) rfl rfl Try.func66 (by kernel_rfl) rfl #[.int .i64 a0_6, .int .i64 0, .int .i64 2147483646] rfl (by (try simp only [List.map_toArray, List.map_cons, List.map_nil]); first | done | rfl | (simp only [List.length_drop, List.length_take]; rfl)) ?_; (with_reducible refine (storagebarterref15_in.calls a0_6 0 2147483646 false _ A44.out).mono ?_); rintro e w' ⟨rfl, ⟨nd, rfl⟩⟩; refine ⟨_, rfl, ?_⟩))
               go_ret
               exact ⟨by first | rfl | (simp [errW_none, errW_some] <;> rfl) | (simp [*, errW_none, errW_some] <;> rfl), by repeat (first | (with_reducible first | exact HB.out | apply below_alloc | apply pw_below_drewN | apply below_drew1 | refine below_set ?_ GE225.out) | exact HB.out)⟩
             ·rw [if_neg c43] at H
              have c43b0 : (a0_5 == 6) = false := beq_eq_false_iff_ne.mpr c43
              have c43b1 : (a0_5 != 6) = true := bne_iff_ne.mpr c43
              by_cases c54 : a0_5 = 7
              ·rw [if_pos c54] at H
               have c54b0 : (a0_5 == 7) = true := beq_iff_eq.mpr c54
               have c54b1 : (a0_5 != 7) = false := bne_eq_false_iff_eq.mpr c54
               clear c54
               replace H := Option.bind_eq_some_iff.mp H
               obtain ⟨t233, A550, H⟩ := H
               try dsimp only at H
               have A55 := Aside0.mk A550
               clear A550
               by_cases c56 : t233 = true
               ·subst c56
                rw [if_pos rfl] at H
                by_cases c57 : x4_2 = true
                ·subst c57
                 rw [if_pos rfl] at H
                 replace H := Option.bind_eq_some_iff.mp H
                 obtain ⟨t234, A580, H⟩ := H
                 try dsimp only at H
                 have A58 := Aside0.mk A580
                 clear A580
                 obtain rfl := Option.some.inj H
                 have hcz59_0 : wc.cell? ⟨gb225, 0, none⟩ = some (.int .i64 a0_0) := (blk_cell BK225.out 0).trans rfl
                 have hcz59_1 : wc.cell? ⟨gb225, 1, none⟩ = some (.int .i64 a0_1) := (blk_cell BK225.out 1).trans rfl
                 have hcz59_2 : wc.cell? ⟨gb225, 2, none⟩ = some (.int .i64 a0_2) := (blk_cell BK225.out 2).trans rfl
                 have hcz59_3 : wc.cell? ⟨gb225, 3, none⟩ = some (.int .i64 a0_3) := (blk_cell BK225.out 3).trans rfl
                 have hcz59_4 : wc.cell? ⟨gb225, 4, none⟩ = some (.int .i64 a0_4) := (blk_cell BK225.out 4).trans rfl
                 have hcz59_5 : wc.cell? ⟨gb225, 5, none⟩ = some (.int .i64 a0_5) := (blk_cell BK225.out 5).trans rfl
                 have hcz59_6 : wc.cell? ⟨gb225, 6, none⟩ = some (.int .i64 a0_6) := (blk_cell BK225.out 6).trans rfl
                 have hcz59_7 : wc.cell? ⟨gb225, 7, none⟩ = some (.int .i64 a0_7) := (blk_cell BK225.out 7).trans rfl
                 have hcz59_8 : wc.cell? ⟨gb225, 8, none⟩ = some (.int .i64 a0_8) := (blk_cell BK225.out 8).trans rfl
                 have hcz59_9 : wc.cell? ⟨gb225, 9, none⟩ = some (.int .i64 a0_9) := (blk_cell BK225.out 9).trans rfl
                 have hcz59_10 : wc.cell? ⟨gb225, 10, none⟩ = some (.int .i64 a0_10) := (blk_cell BK225.out 10).trans rfl
                 have hfz59_0 := blk_frozen BK225.out 0
                 have hfz59_1 := blk_frozen BK225.out 1
                 have hfz59_2 := blk_frozen BK225.out 2
                 have hfz59_3 := blk_frozen BK225.out 3
                 have hfz59_4 := blk_frozen BK225.out 4
                 have hfz59_5 := blk_frozen BK225.out 5
                 have hfz59_6 := blk_frozen BK225.out 6
                 have hfz59_7 := blk_frozen BK225.out 7
                 have hfz59_8 := blk_frozen BK225.out 8
                 have hfz59_9 := blk_frozen BK225.out 9
                 have hfz59_10 := blk_frozen BK225.out 10
                 go_wp2_with (first | ((with_reducible refine gate_callee (f := 66) rfl ?_); refine goesL_ (some 107) rfl rfl Try.func66 (by kernel_rfl) rfl #[.int .i64 a0_6, .int .i64 0, .int .i64 2147483646] rfl (by (try simp only [List.map_toArray, List.map_cons, List.map_nil]); first | done | rfl | (simp only [List.length_drop, List.length_take]; rfl)) ?_; (with_reducible refine (storagebarterref15_in.calls a0_6 0 2147483646 true _ A55.out).mono ?_); rintro e w' ⟨rfl, ⟨nd, rfl⟩⟩; refine ⟨_, rfl, ?_⟩) | (go_at_call 73; (with_reducible refine (storagebarterref15_lock.calls a0_9 t234 _ A58.out).mono ?_); rintro e w' ⟨rfl, ⟨nd, rfl⟩⟩))
                 go_ret
                 exact ⟨by first | rfl | (simp [errW_none, errW_some] <;> rfl) | (simp [*, errW_none, errW_some] <;> rfl), by repeat (first | (with_reducible first | exact HB.out | apply below_alloc | apply pw_below_drewN | apply below_drew1 | refine below_set ?_ GE225.out) | exact HB.out)⟩
                ·replace c57 := Bool.eq_false_iff.mpr c57
                 subst c57
                 rw [if_neg (show ¬ (false = true) by decide)] at H
                 obtain rfl := Option.some.inj H
                 have hcz60_0 : wc.cell? ⟨gb225, 0, none⟩ = some (.int .i64 a0_0) := (blk_cell BK225.out 0).trans rfl
                 have hcz60_1 : wc.cell? ⟨gb225, 1, none⟩ = some (.int .i64 a0_1) := (blk_cell BK225.out 1).trans rfl
                 have hcz60_2 : wc.cell? ⟨gb225, 2, none⟩ = some (.int .i64 a0_2) := (blk_cell BK225.out 2).trans rfl
                 have hcz60_3 : wc.cell? ⟨gb225, 3, none⟩ = some (.int .i64 a0_3) := (blk_cell BK225.out 3).trans rfl
                 have hcz60_4 : wc.cell? ⟨gb225, 4, none⟩ = some (.int .i64 a0_4) := (blk_cell BK225.out 4).trans rfl
                 have hcz60_5 : wc.cell? ⟨gb225, 5, none⟩ = some (.int .i64 a0_5) := (blk_cell BK225.out 5).trans rfl
                 have hcz60_6 : wc.cell? ⟨gb225, 6, none⟩ = some (.int .i64 a0_6) := (blk_cell BK225.out 6).trans rfl
                 have hcz60_7 : wc.cell? ⟨gb225, 7, none⟩ = some (.int .i64 a0_7) := (blk_cell BK225.out 7).trans rfl
                 have hcz60_8 : wc.cell? ⟨gb225, 8, none⟩ = some (.int .i64 a0_8) := (blk_cell BK225.out 8).trans rfl
                 have hcz60_9 : wc.cell? ⟨gb225, 9, none⟩ = some (.int .i64 a0_9) := (blk_cell BK225.out 9).trans rfl
                 have hcz60_10 : wc.cell? ⟨gb225, 10, none⟩ = some (.int .i64 a0_10) := (blk_cell BK225.out 10).trans rfl
                 have hfz60_0 := blk_frozen BK225.out 0
                 have hfz60_1 := blk_frozen BK225.out 1
                 have hfz60_2 := blk_frozen BK225.out 2
                 have hfz60_3 := blk_frozen BK225.out 3
                 have hfz60_4 := blk_frozen BK225.out 4
                 have hfz60_5 := blk_frozen BK225.out 5
                 have hfz60_6 := blk_frozen BK225.out 6
                 have hfz60_7 := blk_frozen BK225.out 7
                 have hfz60_8 := blk_frozen BK225.out 8
                 have hfz60_9 := blk_frozen BK225.out 9
                 have hfz60_10 := blk_frozen BK225.out 10
                 go_wp2_with (first | ((with_reducible refine gate_callee (f := 66) rfl ?_); refine goesL_ (some 107) rfl rfl Try.func66 (by kernel_rfl) rfl #[.int .i64 a0_6, .int .i64 0, .int .i64 2147483646] rfl (by (try simp only [List.map_toArray, List.map_cons, List.map_nil]); first | done | rfl | (simp only [List.length_drop, List.length_take]; rfl)) ?_; (with_reducible refine (storagebarterref15_in.calls a0_6 0 2147483646 true _ A55.out).mono ?_); rintro e w' ⟨rfl, ⟨nd, rfl⟩⟩; refine ⟨_, rfl, ?_⟩))
                 go_ret
                 exact ⟨by first | rfl | (simp [errW_none, errW_some] <;> rfl) | (simp [*, errW_none, errW_some] <;> rfl), by repeat (first | (with_reducible first | exact HB.out | apply below_alloc | apply pw_below_drewN | apply below_drew1 | refine below_set ?_ GE225.out) | exact HB.out)⟩
               ·replace c56 := Bool.eq_false_iff.mpr c56
                subst c56
                rw [if_neg (show ¬ (false = true) by decide)] at H
                obtain rfl := Option.some.inj H
                have hcz61_0 : wc.cell? ⟨gb225, 0, none⟩ = some (.int .i64 a0_0) := (blk_cell BK225.out 0).trans rfl
                have hcz61_1 : wc.cell? ⟨gb225, 1, none⟩ = some (.int .i64 a0_1) := (blk_cell BK225.out 1).trans rfl
                have hcz61_2 : wc.cell? ⟨gb225, 2, none⟩ = some (.int .i64 a0_2) := (blk_cell BK225.out 2).trans rfl
                have hcz61_3 : wc.cell? ⟨gb225, 3, none⟩ = some (.int .i64 a0_3) := (blk_cell BK225.out 3).trans rfl
                have hcz61_4 : wc.cell? ⟨gb225, 4, none⟩ = some (.int .i64 a0_4) := (blk_cell BK225.out 4).trans rfl
                have hcz61_5 : wc.cell? ⟨gb225, 5, none⟩ = some (.int .i64 a0_5) := (blk_cell BK225.out 5).trans rfl
                have hcz61_6 : wc.cell? ⟨gb225, 6, none⟩ = some (.int .i64 a0_6) := (blk_cell BK225.out 6).trans rfl
                have hcz61_7 : wc.cell? ⟨gb225, 7, none⟩ = some (.int .i64 a0_7) := (blk_cell BK225.out 7).trans rfl
                have hcz61_8 : wc.cell? ⟨gb225, 8, none⟩ = some (.int .i64 a0_8) := (blk_cell BK225.out 8).trans rfl
                have hcz61_9 : wc.cell? ⟨gb225, 9, none⟩ = some (.int .i64 a0_9) := (blk_cell BK225.out 9).trans rfl
                have hcz61_10 : wc.cell? ⟨gb225, 10, none⟩ = some (.int .i64 a0_10) := (blk_cell BK225.out 10).trans rfl
                have hfz61_0 := blk_frozen BK225.out 0
                have hfz61_1 := blk_frozen BK225.out 1
                have hfz61_2 := blk_frozen BK225.out 2
                have hfz61_3 := blk_frozen BK225.out 3
                have hfz61_4 := blk_frozen BK225.out 4
                have hfz61_5 := blk_frozen BK225.out 5
                have hfz61_6 := blk_frozen BK225.out 6
                have hfz61_7 := blk_frozen BK225.out 7
                have hfz61_8 := blk_frozen BK225.out 8
                have hfz61_9 := blk_frozen BK225.out 9
                have hfz61_10 := blk_frozen BK225.out 10
                go_wp2_with (first | ((with_reducible refine gate_callee (f := 66) rfl ?_); refine goesL_ (some 107) rfl rfl Try.func66 (by kernel_rfl) rfl #[.int .i64 a0_6, .int .i64 0, .int .i64 2147483646] rfl (by (try simp only [List.map_toArray, List.map_cons, List.map_nil]); first | done | rfl | (simp only [List.length_drop, List.length_take]; rfl)) ?_; (with_reducible refine (storagebarterref15_in.calls a0_6 0 2147483646 false _ A55.out).mono ?_); rintro e w' ⟨rfl, ⟨nd, rfl⟩⟩; refine ⟨_, rfl, ?_⟩))
                go_ret
                exact ⟨by first | rfl | (simp [errW_none, errW_some] <;> rfl) | (simp [*, errW_none, errW_some] <;> rfl), by repeat (first | (with_reducible first | exact HB.out | apply below_alloc | apply pw_below_drewN | apply below_drew1 | refine below_set ?_ GE225.out) | exact HB.out)⟩
              ·rw [if_neg c54] at H
               have c54b0 : (a0_5 == 7) = false := beq_eq_false_iff_ne.mpr c54
               have c54b1 : (a0_5 != 7) = true := bne_iff_ne.mpr c54
               by_cases c62 : a0_5 = 8
               ·rw [if_pos c62] at H
                have c62b0 : (a0_5 == 8) = true := beq_iff_eq.mpr c62
                have c62b1 : (a0_5 != 8) = false := bne_eq_false_iff_eq.mpr c62
                clear c62
                replace H := Option.bind_eq_some_iff.mp H
                obtain ⟨t235, A630, H⟩ := H
                try dsimp only at H
                have A63 := Aside0.mk A630
                clear A630
                by_cases c64 : t235 = true
                ·subst c64
                 rw [if_pos rfl] at H
                 replace H := Option.bind_eq_some_iff.mp H
                 obtain ⟨t236, A650, H⟩ := H
                 try dsimp only at H
                 have A65 := Aside0.mk A650
                 clear A650
                 by_cases c66 : t236 = true
                 ·subst c66
                  rw [if_pos rfl] at H
                  by_cases c67 : a0_8 = 0
                  ·rw [if_pos c67] at H
                   have c67b0 : (a0_8 == 0) = true := beq_iff_eq.mpr c67
                   have c67b1 : (a0_8 != 0) = false := bne_eq_false_iff_eq.mpr c67
                   clear c67
                   obtain rfl := Option.some.inj H
                   have hcz68_0 : wc.cell? ⟨gb225, 0, none⟩ = some (.int .i64 a0_0) := (blk_cell BK225.out 0).trans rfl
                   have hcz68_1 : wc.cell? ⟨gb225, 1, none⟩ = some (.int .i64 a0_1) := (blk_cell BK225.out 1).trans rfl
                   have hcz68_2 : wc.cell? ⟨gb225, 2, none⟩ = some (.int .i64 a0_2) := (blk_cell BK225.out 2).trans rfl
                   have hcz68_3 : wc.cell? ⟨gb225, 3, none⟩ = some (.int .i64 a0_3) := (blk_cell BK225.out 3).trans rfl
                   have hcz68_4 : wc.cell? ⟨gb225, 4, none⟩ = some (.int .i64 a0_4) := (blk_cell BK225.out 4).trans rfl
                   have hcz68_5 : wc.cell? ⟨gb225, 5, none⟩ = some (.int .i64 a0_5) := (blk_cell BK225.out 5).trans rfl
                   have hcz68_6 : wc.cell? ⟨gb225, 6, none⟩ = some (.int .i64 a0_6) := (blk_cell BK225.out 6).trans rfl
                   have hcz68_7 : wc.cell? ⟨gb225, 7, none⟩ = some (.int .i64 a0_7) := (blk_cell BK225.out 7).trans rfl
                   have hcz68_8 : wc.cell? ⟨gb225, 8, none⟩ = some (.int .i64 a0_8) := (blk_cell BK225.out 8).trans rfl
                   have hcz68_9 : wc.cell? ⟨gb225, 9, none⟩ = some (.int .i64 a0_9) := (blk_cell BK225.out 9).trans rfl
                   have hcz68_10 : wc.cell? ⟨gb225, 10, none⟩ = some (.int .i64 a0_10) := (blk_cell BK225.out 10).trans rfl
                   have hfz68_0 := blk_frozen BK225.out 0
                   have hfz68_1 := blk_frozen BK225.out 1
                   have hfz68_2 := blk_frozen BK225.out 2
                   have hfz68_3 := blk_frozen BK225.out 3
                   have hfz68_4 := blk_frozen BK225.out 4
                   have hfz68_5 := blk_frozen BK225.out 5
                   have hfz68_6 := blk_frozen BK225.out 6
                   have hfz68_7 := blk_frozen BK225.out 7
                   have hfz68_8 := blk_frozen BK225.out 8
                   have hfz68_9 := blk_frozen BK225.out 9
                   have hfz68_10 := blk_frozen BK225.out 10
                   go_wp2_with (first | ((with_reducible refine gate_callee (f := 66) rfl ?_); refine goesL_ (some 120) rfl rfl Try.func66 (by kernel_rfl) rfl #[.int .i64 a0_6, .int .i64 0, .int .i64 2147483646] rfl (by (try simp only [List.map_toArray, List.map_cons, List.map_nil]); first | done | rfl | (simp only [List.length_drop, List.length_take]; rfl)) ?_; (with_reducible refine (storagebarterref15_in.calls a0_6 0 2147483646 true _ A63.out).mono ?_); rintro e w' ⟨rfl, ⟨nd, rfl⟩⟩; refine ⟨_, rfl, ?_⟩) | (go_at_call 66; (with_reducible refine (storagebarterref15_in.calls a0_7 0 4294967293 true _ A65.out).mono ?_); rintro e w' ⟨rfl, ⟨nd, rfl⟩⟩))
                   go_ret
                   exact ⟨by first | rfl | (simp [errW_none, errW_some] <;> rfl) | (simp [*, errW_none, errW_some] <;> rfl), by repeat (first | (with_reducible first | exact HB.out | apply below_alloc | apply pw_below_drewN | apply below_drew1 | refine below_set ?_ GE225.out) | exact HB.out)⟩
                  ·rw [if_neg c67] at H
                   have c67b0 : (a0_8 == 0) = false := beq_eq_false_iff_ne.mpr c67
                   have c67b1 : (a0_8 != 0) = true := bne_iff_ne.mpr c67
                   obtain rfl := Option.some.inj H
                   have hcz69_0 : wc.cell? ⟨gb225, 0, none⟩ = some (.int .i64 a0_0) := (blk_cell BK225.out 0).trans rfl
                   have hcz69_1 : wc.cell? ⟨gb225, 1, none⟩ = some (.int .i64 a0_1) := (blk_cell BK225.out 1).trans rfl
                   have hcz69_2 : wc.cell? ⟨gb225, 2, none⟩ = some (.int .i64 a0_2) := (blk_cell BK225.out 2).trans rfl
                   have hcz69_3 : wc.cell? ⟨gb225, 3, none⟩ = some (.int .i64 a0_3) := (blk_cell BK225.out 3).trans rfl
                   have hcz69_4 : wc.cell? ⟨gb225, 4, none⟩ = some (.int .i64 a0_4) := (blk_cell BK225.out 4).trans rfl
                   have hcz69_5 : wc.cell? ⟨gb225, 5, none⟩ = some (.int .i64 a0_5) := (blk_cell BK225.out 5).trans rfl
                   have hcz69_6 : wc.cell? ⟨gb225, 6, none⟩ = some (.int .i64 a0_6) := (blk_cell BK225.out 6).trans rfl
                   have hcz69_7 : wc.cell? ⟨gb225, 7, none⟩ = some (.int .i64 a0_7) := (blk_cell BK225.out 7).trans rfl
                   have hcz69_8 : wc.cell? ⟨gb225, 8, none⟩ = some (.int .i64 a0_8) := (blk_cell BK225.out 8).trans rfl
                   have hcz69_9 : wc.cell? ⟨gb225, 9, none⟩ = some (.int .i64 a0_9) := (blk_cell BK225.out 9).trans rfl
                   have hcz69_10 : wc.cell? ⟨gb225, 10, none⟩ = some (.int .i64 a0_10) := (blk_cell BK225.out 10).trans rfl
                   have hfz69_0 := blk_frozen BK225.out 0
                   have hfz69_1 := blk_frozen BK225.out 1
                   have hfz69_2 := blk_frozen BK225.out 2
                   have hfz69_3 := blk_frozen BK225.out 3
                   have hfz69_4 := blk_frozen BK225.out 4
                   have hfz69_5 := blk_frozen BK225.out 5
                   have hfz69_6 := blk_frozen BK225.out 6
                   have hfz69_7 := blk_frozen BK225.out 7
                   have hfz69_8 := blk_frozen BK225.out 8
                   have hfz69_9 := blk_frozen BK225.out 9
                   have hfz69_10 := blk_frozen BK225.out 10
                   go_wp2_with (first | ((with_reducible refine gate_callee (f := 66) rfl ?_); refine goesL_ (some 120) rfl rfl Try.func66 (by kernel_rfl) rfl #[.int .i64 a0_6, .int .i64 0, .int .i64 2147483646] rfl (by (try simp only [List.map_toArray, List.map_cons, List.map_nil]); first | done | rfl | (simp only [List.length_drop, List.length_take]; rfl)) ?_; (with_reducible refine (storagebarterref15_in.calls a0_6 0 2147483646 true _ A63.out).mono ?_); rintro e w' ⟨rfl, ⟨nd, rfl⟩⟩; refine ⟨_, rfl, ?_⟩) | (go_at_call 66; (with_reducible refine (storagebarterref15_in.calls a0_7 0 4294967293 true _ A65.out).mono ?_); rintro e w' ⟨rfl, ⟨nd, rfl⟩⟩))
                   go_ret
                   exact ⟨by first | rfl | (simp [errW_none, errW_some] <;> rfl) | (simp [*, errW_none, errW_some] <;> rfl), by repeat (first | (with_reducible first | exact HB.out | apply below_alloc | apply pw_below_drewN | apply below_drew1 | refine below_set ?_ GE225.out) | exact HB.out)⟩
                 ·replace c66 := Bool.eq_false_iff.mpr c66
                  subst c66
                  rw [if_neg (show ¬ (false = true) by decide)] at H
                  obtain rfl := Option.some.inj H
                  have hcz70_0 : wc.cell? ⟨gb225, 0, none⟩ = some (.int .i64 a0_0) := (blk_cell BK225.out 0).trans rfl
                  have hcz70_1 : wc.cell? ⟨gb225, 1, none⟩ = some (.int .i64 a0_1) := (blk_cell BK225.out 1).trans rfl
                  have hcz70_2 : wc.cell? ⟨gb225, 2, none⟩ = some (.int .i64 a0_2) := (blk_cell BK225.out 2).trans rfl
                  have hcz70_3 : wc.cell? ⟨gb225, 3, none⟩ = some (.int .i64 a0_3) := (blk_cell BK225.out 3).trans rfl
                  have hcz70_4 : wc.cell? ⟨gb225, 4, none⟩ = some (.int .i64 a0_4) := (blk_cell BK225.out 4).trans rfl
                  have hcz70_5 : wc.cell? ⟨gb225, 5, none⟩ = some (.int .i64 a0_5) := (blk_cell BK225.out 5).trans rfl
                  have hcz70_6 : wc.cell? ⟨gb225, 6, none⟩ = some (.int .i64 a0_6) := (blk_cell BK225.out 6).trans rfl
                  have hcz70_7 : wc.cell? ⟨gb225, 7, none⟩ = some (.int .i64 a0_7) := (blk_cell BK225.out 7).trans rfl
                  have hcz70_8 : wc.cell? ⟨gb225, 8, none⟩ = some (.int .i64 a0_8) := (blk_cell BK225.out 8).trans rfl
                  have hcz70_9 : wc.cell? ⟨gb225, 9, none⟩ = some (.int .i64 a0_9) := (blk_cell BK225.out 9).trans rfl
                  have hcz70_10 : wc.cell? ⟨gb225, 10, none⟩ = some (.int .i64 a0_10) := (blk_cell BK225.out 10).trans rfl
                  have hfz70_0 := blk_frozen BK225.out 0
                  have hfz70_1 := blk_frozen BK225.out 1
                  have hfz70_2 := blk_frozen BK225.out 2
                  have hfz70_3 := blk_frozen BK225.out 3
                  have hfz70_4 := blk_frozen BK225.out 4
                  have hfz70_5 := blk_frozen BK225.out 5
                  have hfz70_6 := blk_frozen BK225.out 6
                  have hfz70_7 := blk_frozen BK225.out 7
                  have hfz70_8 := blk_frozen BK225.out 8
                  have hfz70_9 := blk_frozen BK225.out 9
                  have hfz70_10 := blk_frozen BK225.out 10
                  go_wp2_with (first | ((with_reducible refine gate_callee (f := 66) rfl ?_); refine goesL_ (some 120) rfl rfl Try.func66 (by kernel_rfl) rfl #[.int .i64 a0_6, .int .i64 0, .int .i64 2147483646] rfl (by (try simp only [List.map_toArray, List.map_cons, List.map_nil]); first | done | rfl | (simp only [List.length_drop, List.length_take]; rfl)) ?_; (with_reducible refine (storagebarterref15_in.calls a0_6 0 2147483646 true _ A63.out).mono ?_); rintro e w' ⟨rfl, ⟨nd, rfl⟩⟩; refine ⟨_, rfl, ?_⟩) | (go_at_call 66; (with_reducible refine (storagebarterref15_in.calls a0_7 0 4294967293 false _ A65.out).mono ?_); rintro e w' ⟨rfl, ⟨nd, rfl⟩⟩))
                  go_ret
                  exact ⟨by first | rfl | (simp [errW_none, errW_some] <;> rfl) | (simp [*, errW_none, errW_some] <;> rfl), by repeat (first | (with_reducible first | exact HB.out | apply below_alloc | apply pw_below_drewN | apply below_drew1 | refine below_set ?_ GE225.out) | exact HB.out)⟩
                ·replace c64 := Bool.eq_false_iff.mpr c64
                 subst c64
                 rw [if_neg (show ¬ (false = true) by decide)] at H
                 obtain rfl := Option.some.inj H
                 have hcz71_0 : wc.cell? ⟨gb225, 0, none⟩ = some (.int .i64 a0_0) := (blk_cell BK225.out 0).trans rfl
                 have hcz71_1 : wc.cell? ⟨gb225, 1, none⟩ = some (.int .i64 a0_1) := (blk_cell BK225.out 1).trans rfl
                 have hcz71_2 : wc.cell? ⟨gb225, 2, none⟩ = some (.int .i64 a0_2) := (blk_cell BK225.out 2).trans rfl
                 have hcz71_3 : wc.cell? ⟨gb225, 3, none⟩ = some (.int .i64 a0_3) := (blk_cell BK225.out 3).trans rfl
                 have hcz71_4 : wc.cell? ⟨gb225, 4, none⟩ = some (.int .i64 a0_4) := (blk_cell BK225.out 4).trans rfl
                 have hcz71_5 : wc.cell? ⟨gb225, 5, none⟩ = some (.int .i64 a0_5) := (blk_cell BK225.out 5).trans rfl
                 have hcz71_6 : wc.cell? ⟨gb225, 6, none⟩ = some (.int .i64 a0_6) := (blk_cell BK225.out 6).trans rfl
                 have hcz71_7 : wc.cell? ⟨gb225, 7, none⟩ = some (.int .i64 a0_7) := (blk_cell BK225.out 7).trans rfl
                 have hcz71_8 : wc.cell? ⟨gb225, 8, none⟩ = some (.int .i64 a0_8) := (blk_cell BK225.out 8).trans rfl
                 have hcz71_9 : wc.cell? ⟨gb225, 9, none⟩ = some (.int .i64 a0_9) := (blk_cell BK225.out 9).trans rfl
                 have hcz71_10 : wc.cell? ⟨gb225, 10, none⟩ = some (.int .i64 a0_10) := (blk_cell BK225.out 10).trans rfl
                 have hfz71_0 := blk_frozen BK225.out 0
                 have hfz71_1 := blk_frozen BK225.out 1
                 have hfz71_2 := blk_frozen BK225.out 2
                 have hfz71_3 := blk_frozen BK225.out 3
                 have hfz71_4 := blk_frozen BK225.out 4
                 have hfz71_5 := blk_frozen BK225.out 5
                 have hfz71_6 := blk_frozen BK225.out 6
                 have hfz71_7 := blk_frozen BK225.out 7
                 have hfz71_8 := blk_frozen BK225.out 8
                 have hfz71_9 := blk_frozen BK225.out 9
                 have hfz71_10 := blk_frozen BK225.out 10
                 go_wp2_with (first | ((with_reducible refine gate_callee (f := 66) rfl ?_); refine goesL_ (some 120) rfl rfl Try.func66 (by kernel_rfl) rfl #[.int .i64 a0_6, .int .i64 0, .int .i64 2147483646] rfl (by (try simp only [List.map_toArray, List.map_cons, List.map_nil]); first | done | rfl | (simp only [List.length_drop, List.length_take]; rfl)) ?_; (with_reducible refine (storagebarterref15_in.calls a0_6 0 2147483646 false _ A63.out).mono ?_); rintro e w' ⟨rfl, ⟨nd, rfl⟩⟩; refine ⟨_, rfl, ?_⟩))
                 go_ret
                 exact ⟨by first | rfl | (simp [errW_none, errW_some] <;> rfl) | (simp [*, errW_none, errW_some] <;> rfl), by repeat (first | (with_reducible first | exact HB.out | apply below_alloc | apply pw_below_drewN | apply below_drew1 | refine below_set ?_ GE225.out) | exact HB.out)⟩
               ·rw [if_neg c62] at H
                have c62b0 : (a0_5 == 8) = false := beq_eq_false_iff_ne.mpr c62
                have c62b1 : (a0_5 != 8) = true := bne_iff_ne.mpr c62
                obtain rfl := Option.some.inj H
                go_wp2
                go_ret
                exact ⟨by first | rfl | (simp [errW_none, errW_some] <;> rfl) | (simp [*, errW_none, errW_some] <;> rfl), by repeat (first | (with_reducible first | exact HB.out | apply below_alloc | apply pw_below_drewN | apply below_drew1 | refine below_set ?_ GE225.out) | exact HB.out)⟩
end Go.Proofs.Ytcjdnahgffkbdaa.Q

namespace Go.Proofs.Ytcjdnahgffkbdaa.Q
open Go.RowKit Go.Proofs.YtcjdnahgffkbdaaW.PrintWords Go.Proofs.YtcjdnahgffkbdaaW.PrintLast Go.Proofs.YtcjdnahgffkbdaaW.PrintMore Go.Proofs.Ytcjdnahgffkbdaa.Gput Go.Proofs.Ytcjdnahgffkbdaa.Gputl
attribute [local go_sem] max2_int min2_int max_two min_two max_three min_three max_four min_four   -- for this text's walks alone
set_option linter.unusedVariables false
set_option linter.unusedSimpArgs false
def storagebarterref15_Valid.f (k : Nat) (a0_0 : Int) (a0_1 : Int) (a0_2 : Int) (a0_3 : Int) (a0_4 : Int) (a0_5 : Int) (a0_6 : Int) (a0_7 : Int) (a0_8 : Int) (a0_9 : Int) (a0_10 : Int) : Option (Bool) := (storagebarterref15_in.f a0_0 1 2147483646).bind fun t238 => (if t238 = true then ((storagebarterref15_in.f a0_1 1 2147483646).bind fun t239 => (if t239 = true then (if a0_0 = a0_1 then (some false) else ((storagebarterref15_in.f a0_2 1 256).bind fun t240 => (if t240 = true then ((storagebarterref15_in.f a0_3 0 2147483646).bind fun t241 => (if t241 = true then (if a0_2 > 1 then ((storagebarterref15_in.f a0_4 0 1048576).bind fun t242 => (if t242 = true then ((storagebarterref15_in.f a0_10 0 2147483646).bind fun t243 => (if t243 = true then ((storagebarterref15_parts.f k a0_0 a0_1 a0_2 a0_3 a0_4 a0_5 a0_6 a0_7 a0_8 a0_9 a0_10).bind fun t244 => (some t244)) else (some false))) else (some false))) else (if a0_3 = 0 then ((storagebarterref15_in.f a0_4 0 1048576).bind fun t245 => (if t245 = true then ((storagebarterref15_in.f a0_10 0 2147483646).bind fun t246 => (if t246 = true then ((storagebarterref15_parts.f k a0_0 a0_1 a0_2 a0_3 a0_4 a0_5 a0_6 a0_7 a0_8 a0_9 a0_10).bind fun t247 => (some t247)) else (some false))) else (some false))) else (some false))) else (some false))) else (some false)))) else (some false))) else (some false))
theorem storagebarterref15_Valid.mono : ∀ a0 a1 a2 a3 a4 a5 a6 a7 a8 a9 a10 k, LeO (storagebarterref15_Valid.f k a0 a1 a2 a3 a4 a5 a6 a7 a8 a9 a10) (storagebarterref15_Valid.f (k + 1) a0 a1 a2 a3 a4 a5 a6 a7 a8 a9 a10) := by
 intro a0 a1 a2 a3 a4 a5 a6 a7 a8 a9 a10 k
 unfold storagebarterref15_Valid.f
 repeat' first
  | (with_reducible exact storagebarterref15_parts.mono _ _ _ _ _ _ _ _ _ _ _ _)
  | (with_reducible exact LeO.refl _)
  | (with_reducible exact LeO.none _)
  | (with_reducible refine LeO.ite ?_ ?_)
  | (with_reducible refine LeO.bind ?_ (fun _ => ?_))
  | exact storagebarterref15_parts.mono _ _ _ _ _ _ _ _ _ _ _ _
  | exact LeO.none _
  | refine LeO.ite ?_ ?_
  | refine LeO.bind ?_ (fun _ => ?_)
set_option maxHeartbeats 8000000 in
set_option maxRecDepth 100000 in
theorem storagebarterref15_Valid.calls (k : Nat) (a0_0 : Int) (a0_1 : Int) (a0_2 : Int) (a0_3 : Int) (a0_4 : Int) (a0_5 : Int) (a0_6 : Int) (a0_7 : Int) (a0_8 : Int) (a0_9 : Int) (a0_10 : Int) (r : Bool) (w : World) (h : storagebarterref15_Valid.f k a0_0 a0_1 a0_2 a0_3 a0_4 a0_5 a0_6 a0_7 a0_8 a0_9 a0_10 = some r) :
 Calls Try.prog 70 #[.agg #[.int .i64 a0_0, .int .i64 a0_1, .int .i64 a0_2, .int .i64 a0_3, .int .i64 a0_4, .int .i64 a0_5, .int .i64 a0_6, .int .i64 a0_7, .int .i64 a0_8, .int .i64 a0_9, .int .i64 a0_10]] w fun e w' => e = .returned (.bool r) ∧ Below w.heap.size w w' := by
 have hu64 := Try.underlying64
 have HB := Aside0.mk (Below.refl w.heap.size w)
 have H : ((storagebarterref15_in.f a0_0 1 2147483646).bind fun t238 => (if t238 = true then ((storagebarterref15_in.f a0_1 1 2147483646).bind fun t239 => (if t239 = true then (if a0_0 = a0_1 then (some false) else ((storagebarterref15_in.f a0_2 1 256).bind fun t240 => (if t240 = true then ((storagebarterref15_in.f a0_3 0 2147483646).bind fun t241 => (if t241 = true then (if a0_2 > 1 then ((storagebarterref15_in.f a0_4 0 1048576).bind fun t242 => (if t242 = true then ((storagebarterref15_in.f a0_10 0 2147483646).bind fun t243 => (if t243 = true then ((storagebarterref15_parts.f k a0_0 a0_1 a0_2 a0_3 a0_4 a0_5 a0_6 a0_7 a0_8 a0_9 a0_10).bind fun t244 => (some t244)) else (some false))) else (some false))) else (if a0_3 = 0 then ((storagebarterref15_in.f a0_4 0 1048576).bind fun t245 => (if t245 = true then ((storagebarterref15_in.f a0_10 0 2147483646).bind fun t246 => (if t246 = true then ((storagebarterref15_parts.f k a0_0 a0_1 a0_2 a0_3 a0_4 a0_5 a0_6 a0_7 a0_8 a0_9 a0_10).bind fun t247 => (some t247)) else (some false))) else (some false))) else (some false))) else (some false))) else (some false)))) else (some false))) else (some false))) = some r := h
 clear h
 replace H := Option.bind_eq_some_iff.mp H
 obtain ⟨t238, A20, H⟩ := H
 replace H : (if t238 = true then ((storagebarterref15_in.f a0_1 1 2147483646).bind fun t239 => (if t239 = true then (if a0_0 = a0_1 then (some false) else ((storagebarterref15_in.f a0_2 1 256).bind fun t240 => (if t240 = true then ((storagebarterref15_in.f a0_3 0 2147483646).bind fun t241 => (if t241 = true then (if a0_2 > 1 then ((storagebarterref15_in.f a0_4 0 1048576).bind fun t242 => (if t242 = true then ((storagebarterref15_in.f a0_10 0 2147483646).bind fun t243 => (if t243 = true then ((storagebarterref15_parts.f k a0_0 a0_1 a0_2 a0_3 a0_4 a0_5 a0_6 a0_7 a0_8 a0_9 a0_10).bind fun t244 => (some t244)) else (some false))) else (some false))) else (if a0_3 = 0 then ((storagebarterref15_in.f a0_4 0 1048576).bind fun t245 => (if t245 = true then ((storagebarterref15_in.f a0_10 0 2147483646).bind fun t246 => (if t246 = true then ((storagebarterref15_parts.f k a0_0 a0_1 a0_2 a0_3 a0_4 a0_5 a0_6 a0_7 a0_8 a0_9 a0_10).bind fun t247 => (some t247)) else (some false))) else (some false))) else (some false))) else (some false))) else (some false)))) else (some false))) else (some false)) = some r := H
 have A2 := Aside0.mk A20
 clear A20
 by_cases c3 : t238 = true
 ·subst c3
  have H1 : ((storagebarterref15_in.f a0_1 1 2147483646).bind fun t239 => (if t239 = true then (if a0_0 = a0_1 then (some false) else ((storagebarterref15_in.f a0_2 1 256).bind fun t240 => (if t240 = true then ((storagebarterref15_in.f a0_3 0 2147483646).bind fun t241 => (if t241 = true then (if a0_2 > 1 then ((storagebarterref15_in.f a0_4 0 1048576).bind fun t242 => (if t242 = true then ((storagebarterref15_in.f a0_10 0 2147483646).bind fun t243 => (if t243 = true then ((storagebarterref15_parts.f k a0_0 a0_1 a0_2 a0_3 a0_4 a0_5 a0_6 a0_7 a0_8 a0_9 a0_10).bind fun t244 => (some t244)) else (some false))) else (some false))) else (if a0_3 = 0 then ((storagebarterref15_in.f a0_4 0 1048576).bind fun t245 => (if t245 = true then ((storagebarterref15_in.f a0_10 0 2147483646).bind fun t246 => (if t246 = true then ((storagebarterref15_parts.f k a0_0 a0_1 a0_2 a0_3 a0_4 a0_5 a0_6 a0_7 a0_8 a0_9 a0_10).bind fun t247 => (some t247)) else (some false))) else (some false))) else (some false))) else (some false))) else (some false)))) else (some false))) = some r := by rw [if_pos rfl] at H; exact H
  clear H
  have H := H1
  clear H1
  replace H := Option.bind_eq_some_iff.mp H
  obtain ⟨t239, A40, H⟩ := H
  replace H : (if t239 = true then (if a0_0 = a0_1 then (some false) else ((storagebarterref15_in.f a0_2 1 256).bind fun t240 => (if t240 = true then ((storagebarterref15_in.f a0_3 0 2147483646).bind fun t241 => (if t241 = true then (if a0_2 > 1 then ((storagebarterref15_in.f a0_4 0 1048576).bind fun t242 => (if t242 = true then ((storagebarterref15_in.f a0_10 0 2147483646).bind fun t243 => (if t243 = true then ((storagebarterref15_parts.f k a0_0 a0_1 a0_2 a0_3 a0_4 a0_5 a0_6 a0_7 a0_8 a0_9 a0_10).bind fun t244 => (some t244)) else (some false))) else (some false))) else (if a0_3 = 0 then ((storagebarterref15_in.f a0_4 0 1048576).bind fun t245 => (if t245 = true then ((storagebarterref15_in.f a0_10 0 2147483646).bind fun t246 => (if t246 = true then ((storagebarterref15_parts.f k a0_0 a0_1 a0_2 a0_3 a0_4 a0_5 a0_6 a0_7 a0_8 a0_9 a0_10).bind fun t247 => (some t247)) else (some false))) else (some false))) else (some false))) else (some false))) else (some false)))) else (some false)) = some r := H
  have A4 := Aside0.mk A40
  clear A40
  by_cases c5 : t239 = true
  ·subst c5
   have H1 : (if a0_0 = a0_1 then (some false) else ((storagebarterref15_in.f a0_2 1 256).bind fun t240 => (if t240 = true then ((storagebarterref15_in.f a0_3 0 2147483646).bind fun t241 => (if t241 = true then (if a0_2 > 1 then ((storagebarterref15_in.f a0_4 0 1048576).bind fun t242 => (if t242 = true then ((storagebarterref15_in.f a0_10 0 2147483646).bind fun t243 => (if t243 = true then ((storagebarterref15_parts.f k a0_0 a0_1 a0_2 a0_3 a0_4 a0_5 a0_6 a0_7 a0_8 a0_9 a0_10).bind fun t244 => (some t244)) else (some false))) else (some false))) else (if a0_3 = 0 then ((storagebarterref15_in.f a0_4 0 1048576).bind fun t245 => (if t245 = true then ((storagebarterref15_in.f a0_10 0 2147483646).bind fun t246 => (if t246 = true then ((storagebarterref15_parts.f k a0_0 a0_1 a0_2 a0_3 a0_4 a0_5 a0_6 a0_7 a0_8 a0_9 a0_10).bind fun t247 => (some t247)) else (some false))) else (some false))) else (some false))) else (some false))) else (some false)))) = some r := by rw [if_pos rfl] at H; exact H
   clear H
   have H := H1
   clear H1
   by_cases c6 : a0_0 = a0_1
   ·rw [if_pos c6] at H
    have c6b0 : (a0_0 == a0_1) = true := beq_iff_eq.mpr c6
    have c6b1 : (a0_0 != a0_1) = false := bne_eq_false_iff_eq.mpr c6
    clear c6
    obtain rfl := Option.some.inj H
    go_enter Try.func70, Try.ntmps70
    go_wp2_with (first | ((with_reducible refine gate_dst (N := 1) rfl ?_); refine box_event ?hg (N := 1) ?hd (cs := #[.int .i64 a0_0, .int .i64 a0_1, .int .i64 a0_2, .int .i64 a0_3, .int .i64 a0_4, .int .i64 a0_5, .int .i64 a0_6, .int .i64 a0_7, .int .i64 a0_8, .int .i64 a0_9, .int .i64 a0_10]) (t := 64) ?hr ?_; (case hd => rfl); (case hg => rfl); (case hr => first | (go_simp; done) | (go_simp; rfl)); intro gb237 hg w7 hbox hb; have n0_ := Aside0.mk (below_step (by repeat (first | (with_reducible first | exact HB.out | apply below_alloc | apply pw_below_drewN | apply below_drew1) | exact HB.out)) hb); have n1_ := Aside0.mk (hbox); have n2_ := Aside0.mk ((by rw [hg]; exact (below_size (by repeat (first | (with_reducible first | exact HB.out | apply below_alloc | apply pw_below_drewN | apply below_drew1) | exact HB.out))) : w.heap.size ≤ gb237)); have n3_ := Aside0.mk ((by rw [hg]; exact (below_size (by repeat (first | (with_reducible first | exact HB.out | apply below_alloc | apply pw_below_drewN | apply below_drew1) | exact HB.out))) : w.heap.size ≤ gb237)); clear HB; have HB := n0_; have BK237 := n1_; have GW237 := n2_; have GE237 := n3_; clear n0_ n1_ n2_ n3_; clear hb hbox hg; have hcz8_0 : w7.cell? ⟨gb237, 0, none⟩ = some (.int .i64 a0_0) := (blk_cell BK237.out 0).trans rfl; have hcz8_1 : w7.cell? ⟨gb237, 1, none⟩ = some (.int .i64 a0_1) := (blk_cell BK237.out 1).trans rfl; have hcz8_2 : w7.cell? ⟨gb237, 2, none⟩ = some (.int .i64 a0_2) := (blk_cell BK237.out 2).trans rfl; have hcz8_3 : w7.cell? ⟨gb237, 3, none⟩ = some (.int .i64 a0_3) := (blk_cell BK237.out 3).trans rfl; have hcz8_4 : w7.cell? ⟨gb237, 4, none⟩ = some (.int .i64 a0_4) := (blk_cell BK237.out 4).trans rfl; have hcz8_5 : w7.cell? ⟨gb237, 5, none⟩ = some (.int .i64 a0_5) := (blk_cell BK237.out 5).trans rfl; have hcz8_6 : w7.cell? ⟨gb237, 6, none⟩ = some (.int .i64 a0_6) := (blk_cell BK237.out 6).trans rfl; have hcz8_7 : w7.cell? ⟨gb237, 7, none⟩ = some (.int .i64 a0_7) := (blk_cell BK237.out 7).trans rfl; have hcz8_8 : w7.cell? ⟨gb237, 8, none⟩ = some (.int .i64 a0_8) := (blk_cell BK237.out 8).trans rfl; have hcz8_9 : w7.cell? ⟨gb237, 9, none⟩ = some (.int .i64 a0_9) := (blk_cell BK237.out 9).trans rfl; have hcz8_10 : w7.cell? ⟨gb237, 10, none⟩ = some (.int .i64 a0_10) := (blk_cell BK237.out 10).trans rfl; have hfz8_0 := blk_frozen BK237.out 0; have hfz8_1 := blk_frozen BK237.out 1; have hfz8_2 := blk_frozen BK237.out 2; have hfz8_3 := blk_frozen BK237.out 3; have hfz8_4 := blk_frozen BK237.out 4; have hfz8_5 := blk_frozen BK237.out 5; have hfz8_6 := blk_frozen BK237.out 6; have hfz8_7 := blk_frozen BK237.out 7; have hfz8_8 := blk_frozen BK237.out 8; have hfz8_9 := blk_frozen BK237.out 9; have hfz8_10 := blk_frozen BK237.out 10) | ((with_reducible refine gate_callee (f := 66) rfl ?_); refine goesL_ (some 5) rfl rfl Try.func66 (by kernel_rfl) rfl #[.int .i64 a0_0, .int .i64 1, .int .i64 2147483646] rfl (by (try simp only [List.map_toArray, List.map_cons, List.map_nil]); first | done | rfl | (simp only [List.length_drop, List.length_take]; rfl)) ?_; (with_reducible refine (storagebarterref15_in.calls a0_0 1 2147483646 true _ A2.out).mono ?_); rintro e w' ⟨rfl, ⟨nd, rfl⟩⟩; refine ⟨_, rfl, ?_⟩) | (go_at_call 66; (with_reducible refine (storagebarterref15_in.calls a0_1 1 2147483646 true _ A4.out).mono ?_); rintro e w' ⟨rfl, ⟨nd, rfl⟩⟩))
    go_ret
    exact ⟨by first | rfl | (simp [errW_none, errW_some] <;> rfl) | (simp [*, errW_none, errW_some] <;> rfl), by repeat (first | (with_reducible first | exact HB.out | apply below_alloc | apply pw_below_drewN | apply below_drew1 | refine below_set ?_ GE237.out) | exact HB.out)⟩
   ·rw [if_neg c6] at H
    have c6b0 : (a0_0 == a0_1) = false := beq_eq_false_iff_ne.mpr c6
    have c6b1 : (a0_0 != a0_1) = true := bne_iff_ne.mpr c6
    replace H := Option.bind_eq_some_iff.mp H
    obtain ⟨t240, A90, H⟩ := H
    replace H : (if t240 = true then ((storagebarterref15_in.f a0_3 0 2147483646).bind fun t241 => (if t241 = true then (if a0_2 > 1 then ((storagebarterref15_in.f a0_4 0 1048576).bind fun t242 => (if t242 = true then ((storagebarterref15_in.f a0_10 0 2147483646).bind fun t243 => (if t243 = true then ((storagebarterref15_parts.f k a0_0 a0_1 a0_2 a0_3 a0_4 a0_5 a0_6 a0_7 a0_8 a0_9 a0_10).bind fun t244 => (some t244)) else (some false))) else (some false))) else (if a0_3 = 0 then ((storagebarterref15_in.f a0_4 0 1048576).bind fun t245 => (if t245 = true then ((storagebarterref15_in.f a0_10 0 2147483646).bind fun t246 => (if t246 = true then ((storagebarterref15_parts.f k a0_0 a0_1 a0_2 a0_3 a0_4 a0_5 a0_6 a0_7 a0_8 a0_9 a0_10).bind fun t247 => (some t247)) else (some false))) else (some false))) else (some false))) else (some false))) else (some false)) = some r := H
    have A9 := Aside0.mk A90
    clear A90
    by_cases c10 : t240 = true
    ·subst c10
     have H1 : ((storagebarterref15_in.f a0_3 0 2147483646).bind fun t241 => (if t241 = true then (if a0_2 > 1 then ((storagebarterref15_in.f a0_4 0 1048576).bind fun t242 => (if t242 = true then ((storagebarterref15_in.f a0_10 0 2147483646).bind fun t243 => (if t243 = true then ((storagebarterref15_parts.f k a0_0 a0_1 a0_2 a0_3 a0_4 a0_5 a0_6 a0_7 a0_8 a0_9 a0_10).bind fun t244 => (some t244)) else (some false))) else (some false))) else (if a0_3 = 0 then ((storagebarterref15_in.f a0_4 0 1048576).bind fun t245 => (if t245 = true then ((storagebarterref15_in.f a0_10 0 2147483646).bind fun t246 => (if t246 = true then ((storagebarterref15_parts.f k a0_0 a0_1 a0_2 a0_3 a0_4 a0_5 a0_6 a0_7 a0_8 a0_9 a0_10).bind fun t247 => (some t247)) else (some false))) else (some false))) else (some false))) else (some false))) = some r := by rw [if_pos rfl] at H; exact H
     clear H
     have H := H1
     clear H1
     replace H := Option.bind_eq_some_iff.mp H
     obtain ⟨t241, A110, H⟩ := H
     replace H : (if t241 = true then (if a0_2 > 1 then ((storagebarterref15_in.f a0_4 0 1048576).bind fun t242 => (if t242 = true then ((storagebarterref15_in.f a0_10 0 2147483646).bind fun t243 => (if t243 = true then ((storagebarterref15_parts.f k a0_0 a0_1 a0_2 a0_3 a0_4 a0_5 a0_6 a0_7 a0_8 a0_9 a0_10).bind fun t244 => (some t244)) else (some false))) else (some false))) else (if a0_3 = 0 then ((storagebarterref15_in.f a0_4 0 1048576).bind fun t245 => (if t245 = true then ((storagebarterref15_in.f a0_10 0 2147483646).bind fun t246 => (if t246 = true then ((storagebarterref15_parts.f k a0_0 a0_1 a0_2 a0_3 a0_4 a0_5 a0_6 a0_7 a0_8 a0_9 a0_10).bind fun t247 => (some t247)) else (some false))) else (some false))) else (some false))) else (some false)) = some r := H
     have A11 := Aside0.mk A110
     clear A110
     by_cases c12 : t241 = true
     ·subst c12
      have H1 : (if a0_2 > 1 then ((storagebarterref15_in.f a0_4 0 1048576).bind fun t242 => (if t242 = true then ((storagebarterref15_in.f a0_10 0 2147483646).bind fun t243 => (if t243 = true then ((storagebarterref15_parts.f k a0_0 a0_1 a0_2 a0_3 a0_4 a0_5 a0_6 a0_7 a0_8 a0_9 a0_10).bind fun t244 => (some t244)) else (some false))) else (some false))) else (if a0_3 = 0 then ((storagebarterref15_in.f a0_4 0 1048576).bind fun t245 => (if t245 = true then ((storagebarterref15_in.f a0_10 0 2147483646).bind fun t246 => (if t246 = true then ((storagebarterref15_parts.f k a0_0 a0_1 a0_2 a0_3 a0_4 a0_5 a0_6 a0_7 a0_8 a0_9 a0_10).bind fun t247 => (some t247)) else (some false))) else (some false))) else (some false))) = some r := by rw [if_pos rfl] at H; exact H
      clear H
      have H := H1
      clear H1
      by_cases c13 : a0_2 > 1
      ·rw [if_pos c13] at H
       have c13b0 : decide (1 < a0_2) = true := decide_eq_true c13
       clear c13
       replace H := Option.bind_eq_some_iff.mp H
       obtain ⟨t242, A140, H⟩ := H
       replace H : (if t242 = true then ((storagebarterref15_in.f a0_10 0 2147483646).bind fun t243 => (if t243 = true then ((storagebarterref15_parts.f k a0_0 a0_1 a0_2 a0_3 a0_4 a0_5 a0_6 a0_7 a0_8 a0_9 a0_10).bind fun t244 => (some t244)) else (some false))) else (some false)) = some r := H
       have A14 := Aside0.mk A140
       clear A140
       by_cases c15 : t242 = true
       ·subst c15
        have H1 : ((storagebarterref15_in.f a0_10 0 2147483646).bind fun t243 => (if t243 = true then ((storagebarterref15_parts.f k a0_0 a0_1 a0_2 a0_3 a0_4 a0_5 a0_6 a0_7 a0_8 a0_9 a0_10).bind fun t244 => (some t244)) else (some false))) = some r := by rw [if_pos rfl] at H; exact H
        clear H
        have H := H1
        clear H1
        replace H := Option.bind_eq_some_iff.mp H
        obtain ⟨t243, A160, H⟩ := H
        replace H : (if t243 = true then ((storagebarterref15_parts.f k a0_0 a0_1 a0_2 a0_3 a0_4 a0_5 a0_6 a0_7 a0_8 a0_9 a0_10).bind fun t244 => (some t244)) else (some false)) = some r := H
        have A16 := Aside0.mk A160
        clear A160
        by_cases c17 : t243 = true
        ·subst c17
         have H1 : ((storagebarterref15_parts.f k a0_0 a0_1 a0_2 a0_3 a0_4 a0_5 a0_6 a0_7 a0_8 a0_9 a0_10).bind fun t244 => (some t244)) = some r := by rw [if_pos rfl] at H; exact H
         clear H
         have H := H1
         clear H1
         replace H := Option.bind_eq_some_iff.mp H
         obtain ⟨t244, A180, H⟩ := H
         replace H : (some t244) = some r := H
         have A18 := Aside0.mk A180
         clear A180
         obtain rfl := Option.some.inj H
         go_enter Try.func70, Try.ntmps70
         go_wp2_with (first | ((with_reducible refine gate_dst (N := 1) rfl ?_); refine box_event ?hg (N := 1) ?hd (cs := #[.int .i64 a0_0, .int .i64 a0_1, .int .i64 a0_2, .int .i64 a0_3, .int .i64 a0_4, .int .i64 a0_5, .int .i64 a0_6, .int .i64 a0_7, .int .i64 a0_8, .int .i64 a0_9, .int .i64 a0_10]) (t := 64) ?hr ?_; (case hd => rfl); (case hg => rfl); (case hr => first | (go_simp; done) | (go_simp; rfl)); intro gb237 hg w19 hbox hb; have n0_ := Aside0.mk (below_step (by repeat (first | (with_reducible first | exact HB.out | apply below_alloc | apply pw_below_drewN | apply below_drew1) | exact HB.out)) hb); have n1_ := Aside0.mk (hbox); have n2_ := Aside0.mk ((by rw [hg]; exact (below_size (by repeat (first | (with_reducible first | exact HB.out | apply below_alloc | apply pw_below_drewN | apply below_drew1) | exact HB.out))) : w.heap.size ≤ gb237)); have n3_ := Aside0.mk ((by rw [hg]; exact (below_size (by repeat (first | (with_reducible first | exact HB.out | apply below_alloc | apply pw_below_drewN | apply below_drew1) | exact HB.out))) : w.heap.size ≤ gb237)); clear HB; have HB := n0_; have BK237 := n1_; have GW237 := n2_; have GE237 := n3_; clear n0_ n1_ n2_ n3_; clear hb hbox hg; have hcz20_0 : w19.cell? ⟨gb237, 0, none⟩ = some (.int .i64 a0_0) := (blk_cell BK237.out 0).trans rfl; have hcz20_1 : w19.cell? ⟨gb237, 1, none⟩ = some (.int .i64 a0_1) := (blk_cell BK237.out 1).trans rfl; have hcz20_2 : w19.cell? ⟨gb237, 2, none⟩ = some (.int .i64 a0_2) := (blk_cell BK237.out 2).trans rfl; have hcz20_3 : w19.cell? ⟨gb237, 3, none⟩ = some (.int .i64 a0_3) := (blk_cell BK237.out 3).trans rfl; have hcz20_4 : w19.cell? ⟨gb237, 4, none⟩ = some (.int .i64 a0_4) := (blk_cell BK237.out 4).trans rfl; have hcz20_5 : w19.cell? ⟨gb237, 5, none⟩ = some (.int .i64 a0_5) := (blk_cell BK237.out 5).trans rfl; have hcz20_6 : w19.cell? ⟨gb237, 6, none⟩ = some (.int .i64 a0_6) := (blk_cell BK237.out 6).trans rfl; have hcz20_7 : w19.cell? ⟨gb237, 7, none⟩ = some (.int .i64 a0_7) := (blk_cell BK237.out 7).trans rfl; have hcz20_8 : w19.cell? ⟨gb237, 8, none⟩ = some (.int .i64 a0_8) := (blk_cell BK237.out 8).trans rfl; have hcz20_9 : w19.cell? ⟨gb237, 9, none⟩ = some (.int .i64 a0_9) := (blk_cell BK237.out 9).trans rfl; have hcz20_10 : w19.cell? ⟨gb237, 10, none⟩ = some (.int .i64 a0_10) := (blk_cell BK237.out 10).trans rfl; have hfz20_0 := blk_frozen BK237.out 0; have hfz20_1 := blk_frozen BK237.out 1; have hfz20_2 := blk_frozen BK237.out 2; have hfz20_3 := blk_frozen BK237.out 3; have hfz20_4 := blk_frozen BK237.out 4; have hfz20_5 := blk_frozen BK237.out 5; have hfz20_6 := blk_frozen BK237.out 6; have hfz20_7 := blk_frozen BK237.out 7; have hfz20_8 := blk_frozen BK237.out 8; have hfz20_9 := blk_frozen BK237.out 9; have hfz20_10 := blk_frozen BK237.out 10) | ((with_reducible refine gate_callee (f := 66) rfl ?_); refine goesL_ (some 5) rfl rfl Try.func66 (by kernel_rfl) rfl #[.int .i64 a0_0, .int .i64 1, .int .i64 2147483646] rfl (by (try simp only [List.map_toArray, List.map_cons, List.map_nil]); first | done | rfl | (simp only [List.length_drop, List.length_take]; rfl)) ?_; (with_reducible refine (storagebarterref15_in.calls a0_0 1 2147483646 true _ A2.out).mono ?_); rintro e w' ⟨rfl, ⟨nd, rfl⟩⟩; refine ⟨_, rfl, ?_⟩) | (go_at_call 66; (with_reducible refine (storagebarterref15_in.calls a0_1 1 2147483646 true _ A4.out).mono ?_); rintro e w' ⟨rfl, ⟨nd, rfl⟩⟩) | (go_at_call 66; (with_reducible refine (storagebarterref15_in.calls a0_2 1 256 true _ A9.out).mono ?_); rintro e w' ⟨rfl, ⟨nd, rfl⟩⟩) | (go_at_call 66; (with_reducible refine (storagebarterref15_in.calls a0_3 0 2147483646 true _ A11.out).mono ?_); rintro e w' ⟨rfl, ⟨nd, rfl⟩⟩) | (go_at_call 66; (with_reducible refine (storagebarterref15_in.calls a0_4 0 1048576 true _ A14.out).mono ?_); rintro e w' ⟨rfl, ⟨nd, rfl⟩⟩) | (go_at_call 66; (with_reducible refine (storagebarterref15_in.calls a0_10 0 2147483646 true _ A16.out).mono ?_); rintro e w' ⟨rfl, ⟨nd, rfl⟩⟩) | (go_at_call 72; (with_reducible refine (storagebarterref15_parts.calls k a0_0 a0_1 a0_2 a0_3 a0_4 a0_5 a0_6 a0_7 a0_8 a0_9 a0_10 t244 _ A18.out).mono ?_); rintro e w21 ⟨rfl, hb⟩; have n0_ := Aside0.mk (blk_below (g := gb237) (o := .cells #[.int .i64 a0_0, .int .i64 a0_1, .int .i64 a0_2, .int .i64 a0_3, .int .i64 a0_4, .int .i64 a0_5, .int .i64 a0_6, .int .i64 a0_7, .int .i64 a0_8, .int .i64 a0_9, .int .i64 a0_10] 64 (0, 0)) (by (with_reducible repeat (first | refine blk_drewN ?_ _ | refine blk_drew ?_ | refine blk_alloc ?_ _)); exact BK237.out) hb); have n1_ := Aside0.mk (below_step (by repeat (first | (with_reducible first | exact HB.out | apply below_alloc | apply pw_below_drewN | apply below_drew1 | refine below_set ?_ GE237.out) | exact HB.out)) hb); clear BK237; clear HB; have BK237 := n0_; have HB := n1_; clear n0_ n1_; (try clear hb); (try clear hb2); (try clear hk); (try clear hi)))
         go_ret
         exact ⟨by first | rfl | (simp [errW_none, errW_some] <;> rfl) | (simp [*, errW_none, errW_some] <;> rfl), by repeat (first | (with_reducible first | exact HB.out | apply below_alloc | apply pw_below_drewN | apply below_drew1 | refine below_set ?_ GE237.out) | exact HB.out)⟩
        ·replace c17 := Bool.eq_false_iff.mpr c17
         subst c17
         have H1 : (some false) = some r := by rw [if_neg (show ¬ (false = true) by decide)] at H; exact H
         clear H
         have H := H1
         clear H1
         obtain rfl := Option.some.inj H
         go_enter Try.func70, Try.ntmps70
         go_wp2_with (first | ((with_reducible refine gate_dst (N := 1) rfl ?_); refine box_event ?hg (N := 1) ?hd (cs := #[.int .i64 a0_0, .int .i64 a0_1, .int .i64 a0_2, .int .i64 a0_3, .int .i64 a0_4, .int .i64 a0_5, .int .i64 a0_6, .int .i64 a0_7, .int .i64 a0_8, .int .i64 a0_9, .int .i64 a0_10]) (t := 64) ?hr ?_; (case hd => rfl); (case hg => rfl); (case hr => first | (go_simp; done) | (go_simp; rfl)); intro gb237 hg w22 hbox hb; have n0_ := Aside0.mk (below_step (by repeat (first | (with_reducible first | exact HB.out | apply below_alloc | apply pw_below_drewN | apply below_drew1) | exact HB.out)) hb); have n1_ := Aside0.mk (hbox); have n2_ := Aside0.mk ((by rw [hg]; exact (below_size (by repeat (first | (with_reducible first | exact HB.out | apply below_alloc | apply pw_below_drewN | apply below_drew1) | exact HB.out))) : w.heap.size ≤ gb237)); have n3_ := Aside0.mk ((by rw [hg]; exact (below_size (by repeat (first | (with_reducible first | exact HB.out | apply below_alloc | apply pw_below_drewN | apply below_drew1) | exact HB.out))) : w.heap.size ≤ gb237)); clear HB; have HB := n0_; have BK237 := n1_; have GW237 := n2_; have GE237 := n3_; clear n0_ n1_ n2_ n3_; clear hb hbox hg; have hcz23_0 : w22.cell? ⟨gb237, 0, none⟩ = some (.int .i64 a0_0) := (blk_cell BK237.out 0).trans rfl; have hcz23_1 : w22.cell? ⟨gb237, 1, none⟩ = some (.int .i64 a0_1) := (blk_cell BK237.out 1).trans rfl; have hcz23_2 : w22.cell? ⟨gb237, 2, none⟩ = some (.int .i64 a0_2) := (blk_cell BK237.out 2).trans rfl; have hcz23_3 : w22.cell? ⟨gb237, 3, none⟩ = some (.int .i64 a0_3) := (blk_cell BK237.out 3).trans rfl; have hcz23_4 : w22.cell? ⟨gb237, 4, none⟩ = some (.int .i64 a0_4) := (blk_cell BK237.out 4).trans rfl; have hcz23_5 : w22.cell? ⟨gb237, 5, none⟩ = some (.int .i64 a0_5) := (blk_cell BK237.out 5).trans rfl; have hcz23_6 : w22.cell? ⟨gb237, 6, none⟩ = some (.int .i64 a0_6) := (blk_cell BK237.out 6).trans rfl; have hcz23_7 : w22.cell? ⟨gb237, 7, none⟩ = some (.int .i64 a0_7) := (blk_cell BK237.out 7).trans rfl; have hcz23_8 : w22.cell? ⟨gb237, 8, none⟩ = some (.int .i64 a0_8) := (blk_cell BK237.out 8).trans rfl; have hcz23_9 : w22.cell? ⟨gb237, 9, none⟩ = some (.int .i64 a0_9) := (blk_cell BK237.out 9).trans rfl; have hcz23_10 : w22.cell? ⟨gb237, 10, none⟩ = some (.int .i64 a0_10) := (blk_cell BK237.out 10).trans rfl; have hfz23_0 := blk_frozen BK237.out 0; have hfz23_1 := blk_frozen BK237.out 1; have hfz23_2 := blk_frozen BK237.out 2; have hfz23_3 := blk_frozen BK237.out 3; have hfz23_4 := blk_frozen BK237.out 4; have hfz23_5 := blk_frozen BK237.out 5; have hfz23_6 := blk_frozen BK237.out 6; have hfz23_7 := blk_frozen BK237.out 7; have hfz23_8 := blk_frozen BK237.out 8; have hfz23_9 := blk_frozen BK237.out 9; have hfz23_10 := blk_frozen BK237.out 10) | ((with_reducible refine gate_callee (f := 66) rfl ?_); refine goesL_ (some 5) rfl rfl Try.func66 (by kernel_rfl) rfl #[.int .i64 a0_0, .int .i64 1, .int .i64 2147483646] rfl (by (try simp only [List.map_toArray, List.map_cons, List.map_nil]); first | done | rfl | (simp only [List.length_drop, List.length_take]; rfl)) ?_; (with_reducible refine (storagebarterref15_in.calls a0_0 1 2147483646 true _ A2.out).mono ?_); rintro e w' ⟨rfl, ⟨nd, rfl⟩⟩; refine ⟨_, rfl, ?_⟩) | (go_at_call 66; (with_reducible refine (storagebarterref15_in.calls a0_1 1 2147483646 true _ A4.out).mono ?_); rintro e w' ⟨rfl, ⟨nd, rfl⟩⟩) | (go_at_call 66; (with_reducible refine (storagebarterref15_in.calls a0_2 1 256 true _ A9.out).mono ?_); rintro e w' ⟨rfl, ⟨nd, rfl⟩⟩) | (go_at_call 66; (with_reducible refine (storagebarterref15_in.calls a0_3 0 2147483646 true _ A11.out).mono ?_); rintro e w' ⟨rfl, ⟨nd, rfl⟩⟩) | (go_at_call 66; (with_reducible refine (storagebarterref15_in.calls a0_4 0 1048576 true _ A14.out).mono ?_); rintro e w' ⟨rfl, ⟨nd, rfl⟩⟩) | (go_at_call 66; (with_reducible refine (storagebarterref15_in.calls a0_10 0 2147483646 false _ A16.out).mono ?_); rintro e w' ⟨rfl, ⟨nd, rfl⟩⟩))
         go_ret
         exact ⟨by first | rfl | (simp [errW_none, errW_some] <;> rfl) | (simp [*, errW_none, errW_some] <;> rfl), by repeat (first | (with_reducible first | exact HB.out | apply below_alloc | apply pw_below_drewN | apply below_drew1 | refine below_set ?_ GE237.out) | exact HB.out)⟩
       ·replace c15 := Bool.eq_false_iff.mpr c15
        subst c15
        have H1 : (some false) = some r := by rw [if_neg (show ¬ (false = true) by decide)] at H; exact H
        clear H
        have H := H1
        clear H1
        obtain rfl := Option.some.inj H
        go_enter Try.func70, Try.ntmps70
        go_wp2_with (first | ((with_reducible refine gate_dst (N := 1) rfl ?_); refine box_event ?hg (N := 1) ?hd (cs := #[.int .i64 a0_0, .int .i64 a0_1, .int .i64 a0_2, .int .i64 a0_3, .int .i64 a0_4, .int .i64 a0_5, .int .i64 a0_6, .int .i64 a0_7, .int .i64 a0_8, .int .i64 a0_9, .int .i64 a0_10]) (t := 64) ?hr ?_; (case hd => rfl); (case hg => rfl); (case hr => first | (go_simp; done) | (go_simp; rfl)); intro gb237 hg w24 hbox hb; have n0_ := Aside0.mk (below_step (by repeat (first | (with_reducible first | exact HB.out | apply below_alloc | apply pw_below_drewN | apply below_drew1) | exact HB.out)) hb); have n1_ := Aside0.mk (hbox); have n2_ := Aside0.mk ((by rw [hg]; exact (below_size (by repeat (first | (with_reducible first | exact HB.out | apply below_alloc | apply pw_below_drewN | apply below_drew1) | exact HB.out))) : w.heap.size ≤ gb237)); have n3_ := Aside0.mk ((by rw [hg]; exact (below_size (by repeat (first | (with_reducible first | exact HB.out | apply below_alloc | apply pw_below_drewN | apply below_drew1) | exact HB.out))) : w.heap.size ≤ gb237)); clear HB; have HB := n0_; have BK237 := n1_; have GW237 := n2_; have GE237 := n3_; clear n0_ n1_ n2_ n3_; clear hb hbox hg; have hcz25_0 : w24.cell? ⟨gb237, 0, none⟩ = some (.int .i64 a0_0) := (blk_cell BK237.out 0).trans rfl; have hcz25_1 : w24.cell? ⟨gb237, 1, none⟩ = some (.int .i64 a0_1) := (blk_cell BK237.out 1).trans rfl; have hcz25_2 : w24.cell? ⟨gb237, 2, none⟩ = some (.int .i64 a0_2) := (blk_cell BK237.out 2).trans rfl; have hcz25_3 : w24.cell? ⟨gb237, 3, none⟩ = some (.int .i64 a0_3) := (blk_cell BK237.out 3).trans rfl; have hcz25_4 : w24.cell? ⟨gb237, 4, none⟩ = some (.int .i64 a0_4) := (blk_cell BK237.out 4).trans rfl; have hcz25_5 : w24.cell? ⟨gb237, 5, none⟩ = some (.int .i64 a0_5) := (blk_cell BK237.out 5).trans rfl; have hcz25_6 : w24.cell? ⟨gb237, 6, none⟩ = some (.int .i64 a0_6) := (blk_cell BK237.out 6).trans rfl; have hcz25_7 : w24.cell? ⟨gb237, 7, none⟩ = some (.int .i64 a0_7) := (blk_cell BK237.out 7).trans rfl; have hcz25_8 : w24.cell? ⟨gb237, 8, none⟩ = some (.int .i64 a0_8) := (blk_cell BK237.out 8).trans rfl; have hcz25_9 : w24.cell? ⟨gb237, 9, none⟩ = some (.int .i64 a0_9) := (blk_cell BK237.out 9).trans rfl; have hcz25_10 : w24.cell? ⟨gb237, 10, none⟩ = some (.int .i64 a0_10) := (blk_cell BK237.out 10).trans rfl; have hfz25_0 := blk_frozen BK237.out 0; have hfz25_1 := blk_frozen BK237.out 1; have hfz25_2 := blk_frozen BK237.out 2; have hfz25_3 := blk_frozen BK237.out 3; have hfz25_4 := blk_frozen BK237.out 4; have hfz25_5 := blk_frozen BK237.out 5; have hfz25_6 := blk_frozen BK237.out 6; have hfz25_7 := blk_frozen BK237.out 7; have hfz25_8 := blk_frozen BK237.out 8; have hfz25_9 := blk_frozen BK237.out 9; have hfz25_10 := blk_frozen BK237.out 10) | ((with_reducible refine gate_callee (f := 66) rfl ?_); refine goesL_ (some 5) rfl rfl Try.func66 (by kernel_rfl) rfl #[.int .i64 a0_0, .int .i64 1, .int .i64 2147483646] rfl (by (try simp only [List.map_toArray, List.map_cons, List.map_nil]); first | done | rfl | (simp only [List.length_drop, List.length_take]; rfl)) ?_; (with_reducible refine (storagebarterref15_in.calls a0_0 1 2147483646 true _ A2.out).mono ?_); rintro e w' ⟨rfl, ⟨nd, rfl⟩⟩; refine ⟨_, rfl, ?_⟩) | (go_at_call 66; (with_reducible refine (storagebarterref15_in.calls a0_1 1 2147483646 true _ A4.out).mono ?_); rintro e w' ⟨rfl, ⟨nd, rfl⟩⟩) | (go_at_call 66; (with_reducible refine (storagebarterref15_in.calls a0_2 1 256 true _ A9.out).mono ?_); rintro e w' ⟨rfl, ⟨nd, rfl⟩⟩) | (go_at_call 66; (with_reducible refine (storagebarterref15_in.calls a0_3 0 2147483646 true _ A11.out).mono ?_); rintro e w' ⟨rfl, ⟨nd, rfl⟩⟩) | (go_at_call 66; (with_reducible refine (storagebarterref15_in.calls a0_4 0 1048576 false _ A14.out).mono ?_); rintro e w' ⟨rfl, ⟨nd, rfl⟩⟩))
        go_ret
        exact ⟨by first | rfl | (simp [errW_none, errW_some] <;> rfl) | (simp [*, errW_none, errW_some] <;> rfl), by repeat (first | (with_reducible first | exact HB.out | apply below_alloc | apply pw_below_drewN | apply below_drew1 | refine below_set ?_ GE237.out) | exact HB.out)⟩
      ·rw [if_neg c13] at H
       have c13b0 : decide (1 < a0_2) = false := decide_eq_false c13
       clear c13
       by_cases c26 : a0_3 = 0
       ·rw [if_pos c26] at H
        have c26b0 : (a0_3 == 0) = true := beq_iff_eq.mpr c26
        have c26b1 : (a0_3 != 0) = false := bne_eq_false_iff_eq.mpr c26
        clear c26
        replace H := Option.bind_eq_some_iff.mp H
        obtain ⟨t245, A270, H⟩ := H
        replace H : (if t245 = true then ((storagebarterref15_in.f a0_10 0 2147483646).bind fun t246 => (if t246 = true then ((storagebarterref15_parts.f k a0_0 a0_1 a0_2 a0_3 a0_4 a0_5 a0_6 a0_7 a0_8 a0_9 a0_10).bind fun t247 => (some t247)) else (some false))) else (some false)) = some r := H
        have A27 := Aside0.mk A270
        clear A270
        by_cases c28 : t245 = true
        ·subst c28
         have H1 : ((storagebarterref15_in.f a0_10 0 2147483646).bind fun t246 => (if t246 = true then ((storagebarterref15_parts.f k a0_0 a0_1 a0_2 a0_3 a0_4 a0_5 a0_6 a0_7 a0_8 a0_9 a0_10).bind fun t247 => (some t247)) else (some false))) = some r := by rw [if_pos rfl] at H; exact H
         clear H
         have H := H1
         clear H1
         replace H := Option.bind_eq_some_iff.mp H
         obtain ⟨t246, A290, H⟩ := H
         replace H : (if t246 = true then ((storagebarterref15_parts.f k a0_0 a0_1 a0_2 a0_3 a0_4 a0_5 a0_6 a0_7 a0_8 a0_9 a0_10).bind fun t247 => (some t247)) else (some false)) = some r := H
         have A29 := Aside0.mk A290
         clear A290
         by_cases c30 : t246 = true
         ·subst c30
          have H1 : ((storagebarterref15_parts.f k a0_0 a0_1 a0_2 a0_3 a0_4 a0_5 a0_6 a0_7 a0_8 a0_9 a0_10).bind fun t247 => (some t247)) = some r := by rw [if_pos rfl] at H; exact H
          clear H
          have H := H1
          clear H1
          replace H := Option.bind_eq_some_iff.mp H
          obtain ⟨t247, A310, H⟩ := H
          replace H : (some t247) = some r := H
          have A31 := Aside0.mk A310
          clear A310
          obtain rfl := Option.some.inj H
          go_enter Try.func70, Try.ntmps70
          go_wp2_with (first | ((with_reducible refine gate_dst (N := 1) rfl ?_); refine box_event ?hg (N := 1) ?hd (cs := #[.int .i64 a0_0, .int .i64 a0_1, .int .i64 a0_2, .int .i64 a0_3, .int .i64 a0_4, .int .i64 a0_5, .int .i64 a0_6, .int .i64 a0_7, .int .i64 a0_8, .int .i64 a0_9, .int .i64 a0_10]) (t := 64) ?hr ?_; (case hd => rfl); (case hg => rfl); (case hr => first | (go_simp; done) | (go_simp; rfl)); intro gb237 hg w32 hbox hb; have n0_ := Aside0.mk (below_step (by repeat (first | (with_reducible first | exact HB.out | apply below_alloc | apply pw_below_drewN | apply below_drew1) | exact HB.out)) hb); have n1_ := Aside0.mk (hbox); have n2_ := Aside0.mk ((by rw [hg]; exact (below_size (by repeat (first | (with_reducible first | exact HB.out | apply below_alloc | apply pw_below_drewN | apply below_drew1) | exact HB.out))) : w.heap.size ≤ gb237)); have n3_ := Aside0.mk ((by rw [hg]; exact (below_size (by repeat (first | (with_reducible first | exact HB.out | apply below_alloc | apply pw_below_drewN | apply below_drew1) | exact HB.out))) : w.heap.size ≤ gb237)); clear HB; have HB := n0_; have BK237 := n1_; have GW237 := n2_; have GE237 := n3_; clear n0_ n1_ n2_ n3_; clear hb hbox hg; have hcz33_0 : w32.cell? ⟨gb237, 0, none⟩ = some (.int .i64 a0_0) := (blk_cell BK237.out 0).trans rfl; have hcz33_1 : w32.cell? ⟨gb237, 1, none⟩ = some (.int .i64 a0_1) := (blk_cell BK237.out 1).trans rfl; have hcz33_2 : w32.cell? ⟨gb237, 2, none⟩ = some (.int .i64 a0_2) := (blk_cell BK237.out 2).trans rfl; have hcz33_3 : w32.cell? ⟨gb237, 3, none⟩ = some (.int .i64 a0_3) := (blk_cell BK237.out 3).trans rfl; have hcz33_4 : w32.cell? ⟨gb237, 4, none⟩ = some (.int .i64 a0_4) := (blk_cell BK237.out 4).trans rfl; have hcz33_5 : w32.cell? ⟨gb237, 5, none⟩ = some (.int .i64 a0_5) := (blk_cell BK237.out 5).trans rfl; have hcz33_6 : w32.cell? ⟨gb237, 6, none⟩ = some (.int .i64 a0_6) := (blk_cell BK237.out 6).trans rfl; have hcz33_7 : w32.cell? ⟨gb237, 7, none⟩ = some (.int .i64 a0_7) := (blk_cell BK237.out 7).trans rfl; have hcz33_8 : w32.cell? ⟨gb237, 8, none⟩ = some (.int .i64 a0_8) := (blk_cell BK237.out 8).trans rfl; have hcz33_9 : w32.cell? ⟨gb237, 9, none⟩ = some (.int .i64 a0_9) := (blk_cell BK237.out 9).trans rfl; have hcz33_10 : w32.cell? ⟨gb237, 10, none⟩ = some (.int .i64 a0_10) := (blk_cell BK237.out 10).trans rfl; have hfz33_0 := blk_frozen BK237.out 0; have hfz33_1 := blk_frozen BK237.out 1; have hfz33_2 := blk_frozen BK237.out 2; have hfz33_3 := blk_frozen BK237.out 3; have hfz33_4 := blk_frozen BK237.out 4; have hfz33_5 := blk_frozen BK237.out 5; have hfz33_6 := blk_frozen BK237.out 6; have hfz33_7 := blk_frozen BK237.out 7; have hfz33_8 := blk_frozen BK237.out 8; have hfz33_9 := blk_frozen BK237.out 9; have hfz33_10 := blk_frozen BK237.out 10) | ((with_reducible refine gate_callee (f := 66) rfl ?_); refine goesL_ (some 5) rfl rfl Try.func66 (by kernel_rfl) rfl #[.int .i64 a0_0, .int .i64 1, .int .i64 2147483646] rfl (by (try simp only [List.map_toArray, List.map_cons, List.map_nil]); first | done | rfl | (simp only [List.length_drop, List.length_take]; rfl)) ?_; (with_reducible refine (storagebarterref15_in.calls a0_0 1 2147483646 true _ A2.out).mono ?_); rintro e w' ⟨rfl, ⟨nd, rfl⟩⟩; refine ⟨_, rfl, ?_⟩) | (go_at_call 66; (with_reducible refine (storagebarterref15_in.calls a0_1 1 2147483646 true _ A4.out).mono ?_); rintro e w' ⟨rfl, ⟨nd, rfl⟩⟩) | (go_at_call 66; (with_reducible refine (storagebarterref15_in.calls a0_2 1 256 true _ A9.out).mono ?_); rintro e w' ⟨rfl, ⟨nd, rfl⟩⟩) | (go_at_call 66; (with_reducible refine (storagebarterref15_in.calls a0_3 0 2147483646 true _ A11.out).mono ?_); rintro e w' ⟨rfl, ⟨nd, rfl⟩⟩) | (go_at_call 66; (with_reducible refine (storagebarterref15_in.calls a0_4 0 1048576 true _ A27.out).mono ?_); rintro e w' ⟨rfl, ⟨nd, rfl⟩⟩) | (go_at_call 66; (with_reducible refine (storagebarterref15_in.calls a0_10 0 2147483646 true _ A29.out).mono ?_); rintro e w' ⟨rfl, ⟨nd, rfl⟩⟩) | (go_at_call 72; (with_reducible refine (storagebarterref15_parts.calls k a0_0 a0_1 a0_2 a0_3 a0_4 a0_5 a0_6 a0_7 a0_8 a0_9 a0_10 t247 _ A31.out).mono ?_); rintro e w34 ⟨rfl, hb⟩; have n0_ := Aside0.mk (blk_below (g := gb237) (o := .cells #[.int .i64 a0_0, .int .i64 a0_1, .int .i64 a0_2, .int .i64 a0_3, .int .i64 a0_4, .int .i64 a0_5, .int .i64 a0_6, .int .i64 a0_7, .int .i64 a0_8, .int .i64 a0_9, .int .i64 a0_10] 64 (0, 0)) (by (with_reducible repeat (first | refine blk_drewN ?_ _ | refine blk_drew ?_ | refine blk_alloc ?_ _)); exact BK237.out) hb); have n1_ := Aside0.mk (below_step (by repeat (first | (with_reducible first | exact HB.out | apply below_alloc | apply pw_below_drewN | apply below_drew1 | refine below_set ?_ GE237.out) | exact HB.out)) hb); clear BK237; clear HB; have BK237 := n0_; have HB := n1_; clear n0_ n1_; (try clear hb); (try clear hb2); (try clear hk); (try clear hi)))
          go_ret
          exact ⟨by first | rfl | (simp [errW_none, errW_some] <;> rfl) | (simp [*, errW_none, errW_some] <;> rfl), by repeat (first | (with_reducible first | exact HB.out | apply below_alloc | apply pw_below_drewN | apply below_drew1 | refine below_set ?_ GE237.out) | exact HB.out)⟩
         ·replace c30 := Bool.eq_false_iff.mpr c30
          subst c30
          have H1 : (some false) = some r := by rw [if_neg (show ¬ (false = true) by decide)] at H; exact H
          clear H
          have H := H1
          clear H1
          obtain rfl := Option.some.inj H
          go_enter Try.func70, Try.ntmps70
          go_wp2_with (first | ((with_reducible refine gate_dst (N := 1) rfl ?_); refine box_event ?hg (N := 1) ?hd (cs := #[.int .i64 a0_0, .int .i64 a0_1, .int .i64 a0_2, .int .i64 a0_3, .int .i64 a0_4, .int .i64 a0_5, .int .i64 a0_6, .int .i64 a0_7, .int .i64 a0_8, .int .i64 a0_9, .int .i64 a0_10]) (t := 64) ?hr ?_; (case hd => rfl); (case hg => rfl); (case hr => first | (go_simp; done) | (go_simp; rfl)); intro gb237 hg w35 hbox hb; have n0_ := Aside0.mk (below_step (by repeat (first | (with_reducible first | exact HB.out | apply below_alloc | apply pw_below_drewN | apply below_drew1) | exact HB.out)) hb); have n1_ := Aside0.mk (hbox); have n2_ := Aside0.mk ((by rw [hg]; exact (below_size (by repeat (first | (with_reducible first | exact HB.out | apply below_alloc | apply pw_below_drewN | apply below_drew1) | exact HB.out))) : w.heap.size ≤ gb237)); have n3_ := Aside0.mk ((by rw [hg]; exact (below_size (by repeat (first | (with_reducible first | exact HB.out | apply below_alloc | apply pw_below_drewN | apply below_drew1) | exact HB.out))) : w.heap.size ≤ gb237)); clear HB; have HB := n0_; have BK237 := n1_; have GW237 := n2_; have GE237 := n3_; clear n0_ n1_ n2_ n3_; clear hb hbox hg; have hcz36_0 : w35.cell? ⟨gb237, 0, none⟩ = some (.int .i64 a0_0) := (blk_cell BK237.out 0).trans rfl; have hcz36_1 : w35.cell? ⟨gb237, 1, none⟩ = some (.int .i64 a0_1) := (blk_cell BK237.out 1).trans rfl; have hcz36_2 : w35.cell? ⟨gb237, 2, none⟩ = some (.int .i64 a0_2) := (blk_cell BK237.out 2).trans rfl; have hcz36_3 : w35.cell? ⟨gb237, 3, none⟩ = some (.int .i64 a0_3) := (blk_cell BK237.out 3).trans rfl; have hcz36_4 : w35.cell? ⟨gb237, 4, none⟩ = some (.int .i64 a0_4) := (blk_cell BK237.out 4).trans rfl; have hcz36_5 : w35.cell? ⟨gb237, 5, none⟩ = some (.int .i64 a0_5) := (blk_cell BK237.out 5).trans rfl; have hcz36_6 : w35.cell? ⟨gb237, 6, none⟩ = some (.int .i64 a0_6) := (blk_cell BK237.out 6).trans rfl; have hcz36_7 : w35.cell? ⟨gb237, 7, none⟩ = some (.int .i64 a0_7) := (blk_cell BK237.out 7).trans rfl; have hcz36_8 : w35.cell? ⟨gb237, 8, none⟩ = some (.int .i64 a0_8) := (blk_cell BK237.out 8).trans rfl; have hcz36_9 : w35.cell? ⟨gb237, 9, none⟩ = some (.int .i64 a0_9) := (blk_cell BK237.out 9).trans rfl; have hcz36_10 : w35.cell? ⟨gb237, 10, none⟩ = some (.int .i64 a0_10) := (blk_cell BK237.out 10).trans rfl; have hfz36_0 := blk_frozen BK237.out 0; have hfz36_1 := blk_frozen BK237.out 1; have hfz36_2 := blk_frozen BK237.out 2; have hfz36_3 := blk_frozen BK237.out 3; have hfz36_4 := blk_frozen BK237.out 4; have hfz36_5 := blk_frozen BK237.out 5; have hfz36_6 := blk_frozen BK237.out 6; have hfz36_7 := blk_frozen BK237.out 7; have hfz36_8 := blk_frozen BK237.out 8; have hfz36_9 := blk_frozen BK237.out 9; have hfz36_10 := blk_frozen BK237.out 10) | ((with_reducible refine gate_callee (f := 66) rfl ?_); refine goesL_ (some 5) rfl rfl Try.func66 (by kernel_rfl) rfl #[.int .i64 a0_0, .int .i64 1, .int .i64 2147483646] rfl (by (try simp only [List.map_toArray, List.map_cons, List.map_nil]); first | done | rfl | (simp only [List.length_drop, List.length_take]; rfl)) ?_; (with_reducible refine (storagebarterref15_in.calls a0_0 1 2147483646 true _ A2.out).mono ?_); rintro e w' ⟨rfl, ⟨nd, rfl⟩⟩; refine ⟨_, rfl, ?_⟩) | (go_at_call 66; (with_reducible refine (storagebarterref15_in.calls a0_1 1 2147483646 true _ A4.out).mono ?_); rintro e w' ⟨rfl, ⟨nd, rfl⟩⟩) | (go_at_call 66; (with_reducible refine (storagebarterref15_in.calls a0_2 1 256 true _ A9.out).mono ?_); rintro e w' ⟨rfl, ⟨nd, rfl⟩⟩) | (go_at_call 66; (with_reducible refine (storagebarterref15_in.calls a0_3 0 2147483646 true _ A11.out).mono ?_); rintro e w' ⟨rfl, ⟨nd, rfl⟩⟩) | (go_at_call 66; (with_reducible refine (storagebarterref15_in.calls a0_4 0 1048576 true _ A27.out).mono ?_); rintro e w' ⟨rfl, ⟨nd, rfl⟩⟩) | (go_at_call 66; (with_reducible refine (storagebarterref15_in.calls a0_10 0 2147483646 false _ A29.out).mono ?_); rintro e w' ⟨rfl, ⟨nd, rfl⟩⟩))
          go_ret
          exact ⟨by first | rfl | (simp [errW_none, errW_some] <;> rfl) | (simp [*, errW_none, errW_some] <;> rfl), by repeat (first | (with_reducible first | exact HB.out | apply below_alloc | apply pw_below_drewN | apply below_drew1 | refine below_set ?_ GE237.out) | exact HB.out)⟩
        ·replace c28 := Bool.eq_false_iff.mpr c28
         subst c28
         have H1 : (some false) = some r := by rw [if_neg (show ¬ (false = true) by decide)] at H; exact H
         clear H
         have H := H1
         clear H1
         obtain rfl := Option.some.inj H
         go_enter Try.func70, Try.ntmps70
         go_wp2_with (first | ((with_reducible refine gate_dst (N := 1) rfl ?_); refine box_event ?hg (N := 1) ?hd (cs := #[.int .i64 a0_0, .int .i64 a0_1, .int .i64 a0_2, .int .i64 a0_3, .int .i64 a0_4, .int .i64 a0_5, .int .i64 a0_6, .int .i64 a0_7, .int .i64 a0_8, .int .i64 a0_9, .int .i64 a0_10]) (t := 64) ?hr ?_; (case hd => rfl); (case hg => rfl); (case hr => first | (go_simp; done) | (go_simp; rfl)); intro gb237 hg w37 hbox hb; have n0_ := Aside0.mk (below_step (by repeat (first | (with_reducible first | exact HB.out | apply below_alloc | apply pw_below_drewN | apply below_drew1) | exact HB.out)) hb); have n1_ := Aside0.mk (hbox); have n2_ := Aside0.mk ((by rw [hg]; exact (below_size (by repeat (first | (with_reducible first | exact HB.out | apply below_alloc | apply pw_below_drewN | apply below_drew1) | exact HB.out))) : w.heap.size ≤ gb237)); have n3_ := Aside0.mk ((by rw [hg]; exact (below_size (by repeat (first | (with_reducible first | exact HB.out | apply below_alloc | apply pw_below_drewN | apply below_drew1) | exact HB.out))) : w.heap.size ≤ gb237)); clear HB; have HB := n0_; have BK237 := n1_; have GW237 := n2_; have GE237 := n3_; clear n0_ n1_ n2_ n3_; clear hb hbox hg; have hcz38_0 : w37.cell? ⟨gb237, 0, none⟩ = some (.int .i64 a0_0) := (blk_cell BK237.out 0).trans rfl; have hcz38_1 : w37.cell? ⟨gb237, 1, none⟩ = some (.int .i64 a0_1) := (blk_cell BK237.out 1).trans rfl; have hcz38_2 : w37.cell? ⟨gb237, 2, none⟩ = some (.int .i64 a0_2) := (blk_cell BK237.out 2).trans rfl; have hcz38_3 : w37.cell? ⟨gb237, 3, none⟩ = some (.int .i64 a0_3) := (blk_cell BK237.out 3).trans rfl; have hcz38_4 : w37.cell? ⟨gb237, 4, none⟩ = some (.int .i64 a0_4) := (blk_cell BK237.out 4).trans rfl; have hcz38_5 : w37.cell? ⟨gb237, 5, none⟩ = some (.int .i64 a0_5) := (blk_cell BK237.out 5).trans rfl; have hcz38_6 : w37.cell? ⟨gb237, 6, none⟩ = some (.int .i64 a0_6) := (blk_cell BK237.out 6).trans rfl; have hcz38_7 : w37.cell? ⟨gb237, 7, none⟩ = some (.int .i64 a0_7) := (blk_cell BK237.out 7).trans rfl; have hcz38_8 : w37.cell? ⟨gb237, 8, none⟩ = some (.int .i64 a0_8) := (blk_cell BK237.out 8).trans rfl; have hcz38_9 : w37.cell? ⟨gb237, 9, none⟩ = some (.int .i64 a0_9) := (blk_cell BK237.out 9).trans rfl; have hcz38_10 : w37.cell? ⟨gb237, 10, none⟩ = some (.int .i64 a0_10) := (blk_cell BK237.out 10).trans rfl; have hfz38_0 := blk_frozen BK237.out 0; have hfz38_1 := blk_frozen BK237.out 1; have hfz38_2 := blk_frozen BK237.out 2; have hfz38_3 := blk_frozen BK237.out 3; have hfz38_4 := blk_frozen BK237.out 4; have hfz38_5 := blk_frozen BK237.out 5; have hfz38_6 := blk_frozen BK237.out 6; have hfz38_7 := blk_frozen BK237.out 7; have hfz38_8 := blk_frozen BK237.out 8; have hfz38_9 := blk_frozen BK237.out 9; have hfz38_10 := blk_frozen BK237.out 10) | ((with_reducible refine gate_callee (f := 66) rfl ?_); refine goesL_ (some 5) rfl rfl Try.func66 (by kernel_rfl) rfl #[.int .i64 a0_0, .int .i64 1, .int .i64 2147483646] rfl (by (try simp only [List.map_toArray, List.map_cons, List.map_nil]); first | done | rfl | (simp only [List.length_drop, List.length_take]; rfl)) ?_; (with_reducible refine (storagebarterref15_in.calls a0_0 1 2147483646 true _ A2.out).mono ?_); rintro e w' ⟨rfl, ⟨nd, rfl⟩⟩; refine ⟨_, rfl, ?_⟩) | (go_at_call 66; (with_reducible refine (storagebarterref15_in.calls a0_1 1 2147483646 true _ A4.out).mono ?_); rintro e w' ⟨rfl, ⟨nd, rfl⟩⟩) | (go_at_call 66; (with_reducible refine (storagebarterref15_in.calls a0_2 1 256 true _ A9.out).mono ?_); rintro e w' ⟨rfl, ⟨nd, rfl⟩⟩) | (go_at_call 66; (with_reducible refine (storagebarterref15_in.calls a0_3 0 2147483646 true _ A11.out).mono ?_); rintro e w' ⟨rfl, ⟨nd, rfl⟩⟩) | (go_at_call 66; (with_reducible refine (storagebarterref15_in.calls a0_4 0 1048576 false _ A27.out).mono ?_); rintro e w' ⟨rfl, ⟨nd, rfl⟩⟩))
         go_ret
         exact ⟨by first | rfl | (simp [errW_none, errW_some] <;> rfl) | (simp [*, errW_none, errW_some] <;> rfl), by repeat (first | (with_reducible first | exact HB.out | apply below_alloc | apply pw_below_drewN | apply below_drew1 | refine below_set ?_ GE237.out) | exact HB.out)⟩
       ·rw [if_neg c26] at H
        have c26b0 : (a0_3 == 0) = false := beq_eq_false_iff_ne.mpr c26
        have c26b1 : (a0_3 != 0) = true := bne_iff_ne.mpr c26
        obtain rfl := Option.some.inj H
        go_enter Try.func70, Try.ntmps70
        go_wp2_with (first | ((with_reducible refine gate_dst (N := 1) rfl ?_); refine box_event ?hg (N := 1) ?hd (cs := #[.int .i64 a0_0, .int .i64 a0_1, .int .i64 a0_2, .int .i64 a0_3, .int .i64 a0_4, .int .i64 a0_5, .int .i64 a0_6, .int .i64 a0_7, .int .i64 a0_8, .int .i64 a0_9, .int .i64 a0_10]) (t := 64) ?hr ?_; (case hd => rfl); (case hg => rfl); (case hr => first | (go_simp; done) | (go_simp; rfl)); intro gb237 hg w39 hbox hb; have n0_ := Aside0.mk (below_step (by repeat (first | (with_reducible first | exact HB.out | apply below_alloc | apply pw_below_drewN | apply below_drew1) | exact HB.out)) hb); have n1_ := Aside0.mk (hbox); have n2_ := Aside0.mk ((by rw [hg]; exact (below_size (by repeat (first | (with_reducible first | exact HB.out | apply below_alloc | apply pw_below_drewN | apply below_drew1) | exact HB.out))) : w.heap.size ≤ gb237)); have n3_ := Aside0.mk ((by rw [hg]; exact (below_size (by repeat (first | (with_reducible first | exact HB.out | apply below_alloc | apply pw_below_drewN | apply below_drew1) | exact HB.out))) : w.heap.size ≤ gb237)); clear HB; have HB := n0_; have BK237 := n1_; have GW237 := n2_; have GE237 := n3_; clear n0_ n1_ n2_ n3_; clear hb hbox hg; have hcz40_0 : w39.cell? ⟨gb237, 0, none⟩ = some (.int .i64 a0_0) := (blk_cell BK237.out 0).trans rfl; have hcz40_1 : w39.cell? ⟨gb237, 1, none⟩ = some (.int .i64 a0_1) := (blk_cell BK237.out 1).trans rfl; have hcz40_2 : w39.cell? ⟨gb237, 2, none⟩ = some (.int .i64 a0_2) := (blk_cell BK237.out 2).trans rfl; have hcz40_3 : w39.cell? ⟨gb237, 3, none⟩ = some (.int .i64 a0_3) := (blk_cell BK237.out 3).trans rfl; have hcz40_4 : w39.cell? ⟨gb237, 4, none⟩ = some (.int .i64 a0_4) := (blk_cell BK237.out 4).trans rfl; have hcz40_5 : w39.cell? ⟨gb237, 5, none⟩ = some (.int .i64 a0_5) := (blk_cell BK237.out 5).trans rfl; have hcz40_6 : w39.cell? ⟨gb237, 6, none⟩ = some (.int .i64 a0_6) := (blk_cell BK237.out 6).trans rfl; have hcz40_7 : w39.cell? ⟨gb237, 7, none⟩ = some (.int .i64 a0_7) := (blk_cell BK237.out 7).trans rfl; have hcz40_8 : w39.cell? ⟨gb237, 8, none⟩ = some (.int .i64 a0_8) := (blk_cell BK237.out 8).trans rfl; have hcz40_9 : w39.cell? ⟨gb237, 9, none⟩ = some (.int .i64 a0_9) := (blk_cell BK237.out 9).trans rfl; have hcz40_10 : w39.cell? ⟨gb237, 10, none⟩ = some (.int .i64 a0_10) := (blk_cell BK237.out 10).trans rfl; have hfz40_0 := blk_frozen BK237.out 0; have hfz40_1 := blk_frozen BK237.out 1; have hfz40_2 := blk_frozen BK237.out 2; have hfz40_3 := blk_frozen BK237.out 3; have hfz40_4 := blk_frozen BK237.out 4; have hfz40_5 := blk_frozen BK237.out 5; have hfz40_6 := blk_frozen BK237.out 6; have hfz40_7 := blk_frozen BK237.out 7; have hfz40_8 := blk_frozen BK237.out 8; have hfz40_9 := blk_frozen BK237.out 9; have hfz40_10 := blk_frozen BK237.out 10) | ((with_reducible refine gate_callee (f := 66) rfl ?_); refine goesL_ (some 5) rfl rfl Try.func66 (by kernel_rfl) rfl #[.int .i64 a0_0, .int .i64 1, .int .i64 2147483646] rfl (by (try simp only [List.map_toArray, List.map_cons, List.map_nil]); first | done | rfl | (simp only [List.length_drop, List.length_take]; rfl)) ?_; (with_reducible refine (storagebarterref15_in.calls a0_0 1 2147483646 true _ A2.out).mono ?_); rintro e w' ⟨rfl, ⟨nd, rfl⟩⟩; refine ⟨_, rfl, ?_⟩) | (go_at_call 66; (with_reducible refine (storagebarterref15_in.calls a0_1 1 2147483646 true _ A4.out).mono ?_); rintro e w' ⟨rfl, ⟨nd, rfl⟩⟩) | (go_at_call 66; (with_reducible refine (storagebarterref15_in.calls a0_2 1 256 true _ A9.out).mono ?_); rintro e w' ⟨rfl, ⟨nd, rfl⟩⟩) | (go_at_call 66; (with_reducible refine (storagebarterref15_in.calls a0_3 0 2147483646 true _ A11.out).mono ?_); rintro e w' ⟨rfl, ⟨nd, rfl⟩⟩))
        go_ret
        exact ⟨by first | rfl | (simp [errW_none, errW_some] <;> rfl) | (simp [*, errW_none, errW_some] <;> rfl), by repeat (first | (with_reducible first | exact HB.out | apply below_alloc | apply pw_below_drewN | apply below_drew1 | refine below_set ?_ GE237.out) | exact HB.out)⟩
     ·replace c12 := Bool.eq_false_iff.mpr c12
      subst c12
      have H1 : (some false) = some r := by rw [if_neg (show ¬ (false = true) by decide)] at H; exact H
      clear H
      have H := H1
      clear H1
      obtain rfl := Option.some.inj H
      go_enter Try.func70, Try.ntmps70
      go_wp2_with (first | ((with_reducible refine gate_dst (N := 1) rfl ?_); refine box_event ?hg (N := 1) ?hd (cs := #[.int .i64 a0_0, .int .i64 a0_1, .int .i64 a0_2, .int .i64 a0_3, .int .i64 a0_4, .int .i64 a0_5, .int .i64 a0_6, .int .i64 a0_7, .int .i64 a0_8, .int .i64 a0_9, .int .i64 a0_10]) (t := 64) ?hr ?_; (case hd => rfl); (case hg => rfl); (case hr => first | (go_simp; done) | (go_simp; rfl)); intro gb237 hg w41 hbox hb; have n0_ := Aside0.mk (below_step (by repeat (first | (with_reducible first | exact HB.out | apply below_alloc | apply pw_below_drewN | apply below_drew1) | exact HB.out)) hb); have n1_ := Aside0.mk (hbox); have n2_ := Aside0.mk ((by rw [hg]; exact (below_size (by repeat (first | (with_reducible first | exact HB.out | apply below_alloc | apply pw_below_drewN | apply below_drew1) | exact HB.out))) : w.heap.size ≤ gb237)); have n3_ := Aside0.mk ((by rw [hg]; exact (below_size (by repeat (first | (with_reducible first | exact HB.out | apply below_alloc | apply pw_below_drewN | apply below_drew1) | exact HB.out))) : w.heap.size ≤ gb237)); clear HB; have HB := n0_; have BK237 := n1_; have GW237 := n2_; have GE237 := n3_; clear n0_ n1_ n2_ n3_; clear hb hbox hg; have hcz42_0 : w41.cell? ⟨gb237, 0, none⟩ = some (.int .i64 a0_0) := (blk_cell BK237.out 0).trans rfl; have hcz42_1 : w41.cell? ⟨gb237, 1, none⟩ = some (.int .i64 a0_1) := (blk_cell BK237.out 1).trans rfl; have hcz42_2 : w41.cell? ⟨gb237, 2, none⟩ = some (.int .i64 a0_2) := (blk_cell BK237.out 2).trans rfl; have hcz42_3 : w41.cell? ⟨gb237, 3, none⟩ = some (.int .i64 a0_3) := (blk_cell BK237.out 3).trans rfl; have hcz42_4 : w41.cell? ⟨gb237, 4, none⟩ = some (.int .i64 a0_4) := (blk_cell BK237.out 4).trans rfl; have hcz42_5 : w41.cell? ⟨gb237, 5, none⟩ = some (.int .i64 a0_5) := (blk_cell BK237.out 5).trans rfl; have hcz42_6 : w41.cell? ⟨gb237, 6, none⟩ = some (.int .i64 a0_6) := (blk_cell BK237.out 6).trans rfl; have hcz42_7 : w41.cell? ⟨gb237, 7, none⟩ = some (.int .i64 a0_7) := (blk_cell BK237.out 7).trans rfl; have hcz42_8 : w41.cell? ⟨gb237, 8, none⟩ = some (.int .i64 a0_8) := (blk_cell BK237.out 8).trans rfl; have hcz42_9 : w41.cell? ⟨gb237, 9, none⟩ = some (.int .i64 a0_9) := (blk_cell BK237.out 9).trans rfl; have hcz42_10 : w41.cell? ⟨gb237, 10, none⟩ = some (.int .i64 a0_10) := (blk_cell BK237.out 10).trans rfl; have hfz42_0 := blk_frozen BK237.out 0; have hfz42_1 := blk_frozen BK237.out 1; have hfz42_2 := blk_frozen BK237.out 2; have hfz42_3 := blk_frozen BK237.out 3; have hfz42_4 := blk_frozen BK237.out 4; have hfz42_5 := blk_frozen BK237.out 5; have hfz42_6 := blk_frozen BK237.out 6; have hfz42_7 := blk_frozen BK237.out 7; have hfz42_8 := blk_frozen BK237.out 8; have hfz42_9 := blk_frozen BK237.out 9; have hfz42_10 := blk_frozen BK237.out 10) | ((with_reducible refine gate_callee (f := 66) rfl ?_); refine goesL_ (some 5) rfl rfl Try.func66 (by kernel_rfl) rfl #[.int .i64 a0_0, .int .i64 1, .int .i64 2147483646] rfl (by (try simp only [List.map_toArray, List.map_cons, List.map_nil]); first | done | rfl | (simp only [List.length_drop, List.length_take]; rfl)) ?_; (with_reducible refine (storagebarterref15_in.calls a0_0 1 2147483646 true _ A2.out).mono ?_); rintro e w' ⟨rfl, ⟨nd, rfl⟩⟩; refine ⟨_, rfl, ?_⟩) | (go_at_call 66; (with_reducible refine (storagebarterref15_in.calls a0_1 1 2147483646 true _ A4.out).mono ?_); rintro e w' ⟨rfl, ⟨nd, rfl⟩⟩) | (go_at_call 66; (with_reducible refine (storagebarterref15_in.calls a0_2 1 256 true _ A9.out).mono ?_); rintro e w' ⟨rfl, ⟨nd, rfl⟩⟩) | (go_at_call 66; (with_reducible refine (storagebarterref15_in.calls a0_3 0 2147483646 false _ A11.out).mono ?_); rintro e w' ⟨rfl, ⟨nd, rfl⟩⟩))
      go_ret
      exact ⟨by first | rfl | (simp [errW_none, errW_some] <;> rfl) | (simp [*, errW_none, errW_some] <;> rfl), by repeat (first | (with_reducible first | exact HB.out | apply below_alloc | apply pw_below_drewN | apply below_drew1 | refine below_set ?_ GE237.out) | exact HB.out)⟩
    ·replace c10 := Bool.eq_false_iff.mpr c10
     subst c10
     have H1 : (some false) = some r := by rw [if_neg (show ¬ (false = true) by decide)] at H; exact H
     clear H
     have H := H1
     clear H1
     obtain rfl := Option.some.inj H
     go_enter Try.func70, Try.ntmps70
     go_wp2_with (first | ((with_reducible refine gate_dst (N := 1) rfl ?_); refine box_event ?hg (N := 1) ?hd (cs := #[.int .i64 a0_0, .int .i64 a0_1, .int .i64 a0_2, .int .i64 a0_3, .int .i64 a0_4, .int .i64 a0_5, .int .i64 a0_6, .int .i64 a0_7, .int .i64 a0_8, .int .i64 a0_9, .int .i64 a0_10]) (t := 64) ?hr ?_; (case hd => rfl); (case hg => rfl); (case hr => first | (go_simp; done) | (go_simp; rfl)); intro gb237 hg w43 hbox hb; have n0_ := Aside0.mk (below_step (by repeat (first | (with_reducible first | exact HB.out | apply below_alloc | apply pw_below_drewN | apply below_drew1) | exact HB.out)) hb); have n1_ := Aside0.mk (hbox); have n2_ := Aside0.mk ((by rw [hg]; exact (below_size (by repeat (first | (with_reducible first | exact HB.out | apply below_alloc | apply pw_below_drewN | apply below_drew1) | exact HB.out))) : w.heap.size ≤ gb237)); have n3_ := Aside0.mk ((by rw [hg]; exact (below_size (by repeat (first | (with_reducible first | exact HB.out | apply below_alloc | apply pw_below_drewN | apply below_drew1) | exact HB.out))) : w.heap.size ≤ gb237)); clear HB; have HB := n0_; have BK237 := n1_; have GW237 := n2_; have GE237 := n3_; clear n0_ n1_ n2_ n3_; clear hb hbox hg; have hcz44_0 : w43.cell? ⟨gb237, 0, none⟩ = some (.int .i64 a0_0) := (blk_cell BK237.out 0).trans rfl; have hcz44_1 : w43.cell? ⟨gb237, 1, none⟩ = some (.int .i64 a0_1) := (blk_cell BK237.out 1).trans rfl; have hcz44_2 : w43.cell? ⟨gb237, 2, none⟩ = some (.int .i64 a0_2) := (blk_cell BK237.out 2).trans rfl; have hcz44_3 : w43.cell? ⟨gb237, 3, none⟩ = some (.int .i64 a0_3) := (blk_cell BK237.out 3).trans rfl; have hcz44_4 : w43.cell? ⟨gb237, 4, none⟩ = some (.int .i64 a0_4) := (blk_cell BK237.out 4).trans rfl; have hcz44_5 : w43.cell? ⟨gb237, 5, none⟩ = some (.int .i64 a0_5) := (blk_cell BK237.out 5).trans rfl; have hcz44_6 : w43.cell? ⟨gb237, 6, none⟩ = some (.int .i64 a0_6) := (blk_cell BK237.out 6).trans rfl; have hcz44_7 : w43.cell? ⟨gb237, 7, none⟩ = some (.int .i64 a0_7) := (blk_cell BK237.out 7).trans rfl; have hcz44_8 : w43.cell? ⟨gb237, 8, none⟩ = some (.int .i64 a0_8) := (blk_cell BK237.out 8).trans rfl; have hcz44_9 : w43.cell? ⟨gb237, 9, none⟩ = some (.int .i64 a0_9) := (blk_cell BK237.out 9).trans rfl; have hcz44_10 : w43.cell? ⟨gb237, 10, none⟩ = some (.int .i64 a0_10) := (blk_cell BK237.out 10).trans rfl; have hfz44_0 := blk_frozen BK237.out 0; have hfz44_1 := blk_frozen BK237.out 1; have hfz44_2 := blk_frozen BK237.out 2; have hfz44_3 := blk_frozen BK237.out 3; have hfz44_4 := blk_frozen BK237.out 4; have hfz44_5 := blk_frozen BK237.out 5; have hfz44_6 := blk_frozen BK237.out 6; have hfz44_7 := blk_frozen BK237.out 7; have hfz44_8 := blk_frozen BK237.out 8; have hfz44_9 := blk_frozen BK237.out 9; have hfz44_10 := blk_frozen BK237.out 10) | ((with_reducible refine gate_callee (f := 66) rfl ?_); refine goesL_ (some 5) rfl rfl Try.func66 (by kernel_rfl) rfl #[.int .i64 a0_0, .int .i64 1, .int .i64 2147483646] rfl (by (try simp only [List.map_toArray, List.map_cons, List.map_nil]); first | done | rfl | (simp only [List.length_drop, List.length_take]; rfl)) ?_; (with_reducible refine (storagebarterref15_in.calls a0_0 1 2147483646 true _ A2.out).mono ?_); rintro e w' ⟨rfl, ⟨nd, rfl⟩⟩; refine ⟨_, rfl, ?_⟩) | (go_at_call 66; (with_reducible refine (storagebarterref15_in.calls a0_1 1 2147483646 true _ A4.out).mono ?_); rintro e w' ⟨rfl, ⟨nd, rfl⟩⟩) | (go_at_call 66; (with_reducible refine (storagebarterref15_in.calls a0_2 1 256 false _ A9.out).mono ?_); rintro e w' ⟨rfl, ⟨nd, rfl⟩⟩))
     go_ret
     exact ⟨by first | rfl | (simp [errW_none, errW_some] <;> rfl) | (simp [*, errW_none, errW_some] <;> rfl), by repeat (first | (with_reducible first | exact HB.out | apply below_alloc | apply pw_below_drewN | apply below_drew1 | refine below_set ?_ GE237.out) | exact HB.out)⟩
  ·replace c5 := Bool.eq_false_iff.mpr c5
   subst c5
   have H1 : (some false) = some r := by rw [if_neg (show ¬ (false = true) by decide)] at H; exact H
   clear H
   have H := H1
   clear H1
   obtain rfl := Option.some.inj H
   go_enter Try.func70, Try.ntmps70
   go_wp2_with (first | ((with_reducible refine gate_dst (N := 1) rfl ?_); refine box_event ?hg (N := 1) ?hd (cs := #[.int .i64 a0_0, .int .i64 a0_1, .int .i64 a0_2, .int .i64 a0_3, .int .i64 a0_4, .int .i64 a0_5, .int .i64 a0_6, .int .i64 a0_7, .int .i64 a0_8, .int .i64 a0_9, .int .i64 a0_10]) (t := 64) ?hr ?_; (case hd => rfl); (case hg => rfl); (case hr => first | (go_simp; done) | (go_simp; rfl)); intro gb237 hg w45 hbox hb; have n0_ := Aside0.mk (below_step (by repeat (first | (with_reducible first | exact HB.out | apply below_alloc | apply pw_below_drewN | apply below_drew1) | exact HB.out)) hb); have n1_ := Aside0.mk (hbox); have n2_ := Aside0.mk ((by rw [hg]; exact (below_size (by repeat (first | (with_reducible first | exact HB.out | apply below_alloc | apply pw_below_drewN | apply below_drew1) | exact HB.out))) : w.heap.size ≤ gb237)); have n3_ := Aside0.mk ((by rw [hg]; exact (below_size (by repeat (first | (with_reducible first | exact HB.out | apply below_alloc | apply pw_below_drewN | apply below_drew1) | exact HB.out))) : w.heap.size ≤ gb237)); clear HB; have HB := n0_; have BK237 := n1_; have GW237 := n2_; have GE237 := n3_; clear n0_ n1_ n2_ n3_; clear hb hbox hg; have hcz46_0 : w45.cell? ⟨gb237, 0, none⟩ = some (.int .i64 a0_0) := (blk_cell BK237.out 0).trans rfl; have hcz46_1 : w45.cell? ⟨gb237, 1, none⟩ = some (.int .i64 a0_1) := (blk_cell BK237.out 1).trans rfl; have hcz46_2 : w45.cell? ⟨gb237, 2, none⟩ = some (.int .i64 a0_2) := (blk_cell BK237.out 2).trans rfl; have hcz46_3 : w45.cell? ⟨gb237, 3, none⟩ = some (.int .i64 a0_3) := (blk_cell BK237.out 3).trans rfl; have hcz46_4 : w45.cell? ⟨gb237, 4, none⟩ = some (.int .i64 a0_4) := (blk_cell BK237.out 4).trans rfl; have hcz46_5 : w45.cell? ⟨gb237, 5, none⟩ = some (.int .i64 a0_5) := (blk_cell BK237.out 5).trans rfl; have hcz46_6 : w45.cell? ⟨gb237, 6, none⟩ = some (.int .i64 a0_6) := (blk_cell BK237.out 6).trans rfl; have hcz46_7 : w45.cell? ⟨gb237, 7, none⟩ = some (.int .i64 a0_7) := (blk_cell BK237.out 7).trans rfl; have hcz46_8 : w45.cell? ⟨gb237, 8, none⟩ = some (.int .i64 a0_8) := (blk_cell BK237.out 8).trans rfl; have hcz46_9 : w45.cell? ⟨gb237, 9, none⟩ = some (.int .i64 a0_9) := (blk_cell BK237.out 9).trans rfl; have hcz46_10 : w45.cell? ⟨gb237, 10, none⟩ = some (.int .i64 a0_10) := (blk_cell BK237.out 10).trans rfl; have hfz46_0 := blk_frozen BK237.out 0; have hfz46_1 := blk_frozen BK237.out 1; have hfz46_2 := blk_frozen BK237.out 2; have hfz46_3 := blk_frozen BK237.out 3; have hfz46_4 := blk_frozen BK237.out 4; have hfz46_5 := blk_frozen BK237.out 5; have hfz46_6 := blk_frozen BK237.out 6; have hfz46_7 := blk_frozen BK237.out 7; have hfz46_8 := blk_frozen BK237.out 8; have hfz46_9 := blk_frozen BK237.out 9; have hfz46_10 := blk_frozen BK237.out 10) | ((with_reducible refine gate_callee (f := 66) rfl ?_); refine goesL_ (some 5) rfl rfl Try.func66 (by kernel_rfl) rfl #[.int .i64 a0_0, .int .i64 1, .int .i64 2147483646] rfl (by (try simp only [List.map_toArray, List.map_cons, List.map_nil]); first | done | rfl | (simp only [List.length_drop, List.length_take]; rfl)) ?_; (with_reducible refine (storagebarterref15_in.calls a0_0 1 2147483646 true _ A2.out).mono ?_); rintro e w' ⟨rfl, ⟨nd, rfl⟩⟩; refine ⟨_, rfl, ?_⟩) | (go_at_call 66; (with_reducible refine (storagebarterref15_in.calls a0_1 1 2147483646 false _ A4.out).mono ?_); rintro e w' ⟨rfl, ⟨nd, rfl⟩⟩))
   go_ret
   exact ⟨by first | rfl | (simp [errW_none, errW_some] <;> rfl) | (simp [*, errW_none, errW_some] <;> rfl), by repeat (first | (with_reducible first | exact HB.out | apply below_alloc | apply pw_below_drewN | apply below_drew1 | refine below_set ?_ GE237.out) | exact HB.out)⟩
 ·replace c3 := Bool.eq_false_iff.mpr c3
  subst c3
  have H1 : (some false) = some r := by rw [if_neg (show ¬ (false = true) by decide)] at H; exact H
  clear H
  have H := H1
  clear H1
  obtain rfl := Option.some.inj H
  go_enter Try.func70, Try.ntmps70
  go_wp2_with (first | ((with_reducible refine gate_dst (N := 1) rfl ?_); refine box_event ?hg (N := 1) ?hd (cs := #[.int .i64 a0_0, .int .i64 a0_1, .int .i64 a0_2, .int .i64 a0_3, .int .i64 a0_4, .int .i64 a0_5, .int .i64 a0_6, .int .i64 a0_7, .int .i64 a0_8, .int .i64 a0_9, .int .i64 a0_10]) (t := 64) ?hr ?_; (case hd => rfl); (case hg => rfl); (case hr => first | (go_simp; done) | (go_simp; rfl)); intro gb237 hg w47 hbox hb; have n0_ := Aside0.mk (below_step (by repeat (first | (with_reducible first | exact HB.out | apply below_alloc | apply pw_below_drewN | apply below_drew1) | exact HB.out)) hb); have n1_ := Aside0.mk (hbox); have n2_ := Aside0.mk ((by rw [hg]; exact (below_size (by repeat (first | (with_reducible first | exact HB.out | apply below_alloc | apply pw_below_drewN | apply below_drew1) | exact HB.out))) : w.heap.size ≤ gb237)); have n3_ := Aside0.mk ((by rw [hg]; exact (below_size (by repeat (first | (with_reducible first | exact HB.out | apply below_alloc | apply pw_below_drewN | apply below_drew1) | exact HB.out))) : w.heap.size ≤ gb237)); clear HB; have HB := n0_; have BK237 := n1_; have GW237 := n2_; have GE237 := n3_; clear n0_ n1_ n2_ n3_; clear hb hbox hg; have hcz48_0 : w47.cell? ⟨gb237, 0, none⟩ = some (.int .i64 a0_0) := (blk_cell BK237.out 0).trans rfl; have hcz48_1 : w47.cell? ⟨gb237, 1, none⟩ = some (.int .i64 a0_1) := (blk_cell BK237.out 1).trans rfl; have hcz48_2 : w47.cell? ⟨gb237, 2, none⟩ = some (.int .i64 a0_2) := (blk_cell BK237.out 2).trans rfl; have hcz48_3 : w47.cell? ⟨gb237, 3, none⟩ = some (.int .i64 a0_3) := (blk_cell BK237.out 3).trans rfl; have hcz48_4 : w47.cell? ⟨gb237, 4, none⟩ = some (.int .i64 a0_4) := (blk_cell BK237.out 4).trans rfl; have hcz48_5 : w47.cell? ⟨gb237, 5, none⟩ = some (.int .i64 a0_5) := (blk_cell BK237.out 5).trans rfl; have hcz48_6 : w47.cell? ⟨gb237, 6, none⟩ = some (.int .i64 a0_6) := (blk_cell BK237.out 6).trans rfl; have hcz48_7 : w47.cell? ⟨gb237, 7, none⟩ = some (.int .i64 a0_7) := (blk_cell BK237.out 7).trans rfl; have hcz48_8 : w47.cell? ⟨gb237, 8, none⟩ = some (.int .i64 a0_8) := (blk_cell BK237.out 8).trans rfl; have hcz48_9 : w47.cell? ⟨gb237, 9, none⟩ = some (.int .i64 a0_9) := (blk_cell BK237.out 9).trans rfl; have hcz48_10 : w47.cell? ⟨gb237, 10, none⟩ = some (.int .i64 a0_10) := (blk_cell BK237.out 10).trans rfl; have hfz48_0 := blk_frozen BK237.out 0; have hfz48_1 := blk_frozen BK237.out 1; have hfz48_2 := blk_frozen BK237.out 2; have hfz48_3 := blk_frozen BK237.out 3; have hfz48_4 := blk_frozen BK237.out 4; have hfz48_5 := blk_frozen BK237.out 5; have hfz48_6 := blk_frozen BK237.out 6; have hfz48_7 := blk_frozen BK237.out 7; have hfz48_8 := blk_frozen BK237.out 8; have hfz48_9 := blk_frozen BK237.out 9; have hfz48_10 := blk_frozen BK237.out 10) | ((with_reducible refine gate_callee (f := 66) rfl ?_); refine goesL_ (some 5) rfl rfl Try.func66 (by kernel_rfl) rfl #[.int .i64 a0_0, .int .i64 1, .int .i64 2147483646] rfl (by (try simp only [List.map_toArray, List.map_cons, List.map_nil]); first | done | rfl | (simp only [List.length_drop, List.length_take]; rfl)) ?_; (with_reducible refine (storagebarterref15_in.calls a0_0 1 2147483646 false _ A2.out).mono ?_); rintro e w' ⟨rfl, ⟨nd, rfl⟩⟩; refine ⟨_, rfl, ?_⟩))
  go_ret
  exact ⟨by first | rfl | (simp [errW_none, errW_some] <;> rfl) | (simp [*, errW_none, errW_some] <;> rfl), by repeat (first | (with_reducible first | exact HB.out | apply below_alloc | apply pw_below_drewN | apply below_drew1 | refine below_set ?_ GE237.out) | exact HB.out)⟩
end Go.Proofs.Ytcjdnahgffkbdaa.Q

namespace Go.Proofs.Ytcjdnahgffkbdaa.Q
open Go.RowKit Go.Proofs.YtcjdnahgffkbdaaW.PrintWords Go.Proofs.YtcjdnahgffkbdaaW.PrintLast Go.Proofs.YtcjdnahgffkbdaaW.PrintMore Go.Proofs.Ytcjdnahgffkbdaa.Gput Go.Proofs.Ytcjdnahgffkbdaa.Gputl
attribute [local go_sem] max2_int min2_int max_two min_two max_three min_three max_four min_four   -- for this text's walks alone
set_option linter.unusedVariables false
set_option linter.unusedSimpArgs false
def storagebarterref02_Sum.l0 : Nat → ByteArray → Int → Int → Option (Int)
 | 0, _, _, _ => none
 | k + 1, x0, x3, x4 => if x4 < (x0.size : Int) then (if 0 ≤ x4 then (storagebarterref02_Sum.l0 k x0 (Int.tmod (wrap64 ((wrap64 ((wrap64 (x3 * 1000003)) + (wrap64 (bt x0 x4)))) + 1)) 2147483647) (wrap64 (x4 + 1))) else (none)) else (some x3)
def storagebarterref02_Sum.f (k : Nat) (a0 : ByteArray) : Option (Int) := storagebarterref02_Sum.l0 k a0 1 0
theorem storagebarterref02_Sum.mono_l : ∀ k, (∀ y0 y1 y2, LeO (storagebarterref02_Sum.l0 k y0 y1 y2) (storagebarterref02_Sum.l0 (k + 1) y0 y1 y2))
 | 0 => fun _ _ _ r h => by simp [storagebarterref02_Sum.l0] at h
 | k + 1 => by
  have ih0 := storagebarterref02_Sum.mono_l k
  ·intro y0 y1 y2
   unfold storagebarterref02_Sum.l0
   repeat' first
   | (with_reducible exact ih0 _ _ _)
   | (with_reducible exact LeO.refl _)
   | (with_reducible exact LeO.none _)
   | (with_reducible refine LeO.ite ?_ ?_)
   | (with_reducible refine LeO.bind ?_ (fun _ => ?_))
   | exact ih0 _ _ _
   | exact LeO.none _
   | refine LeO.ite ?_ ?_
   | refine LeO.bind ?_ (fun _ => ?_)
theorem storagebarterref02_Sum.mono : ∀ a0 k, LeO (storagebarterref02_Sum.f k a0) (storagebarterref02_Sum.f (k + 1) a0) := by
 intro a0 k
 have ih0 := storagebarterref02_Sum.mono_l k
 unfold storagebarterref02_Sum.f
 repeat' first
  | (with_reducible exact ih0 _ _ _)
  | (with_reducible exact LeO.refl _)
  | (with_reducible exact LeO.none _)
  | (with_reducible refine LeO.ite ?_ ?_)
  | (with_reducible refine LeO.bind ?_ (fun _ => ?_))
  | exact ih0 _ _ _
  | exact LeO.none _
  | refine LeO.ite ?_ ?_
  | refine LeO.bind ?_ (fun _ => ?_)
set_option maxHeartbeats 8000000 in
set_option maxRecDepth 100000 in
theorem storagebarterref02_Sum.calls (k : Nat) (a0 : ByteArray) (r : Int) (w : World) (h : storagebarterref02_Sum.f k a0 = some r) :
 Calls Try.prog 67 #[.string a0] w fun e w' => e = .returned (.int .i64 r) ∧ Drawn0 w w' := by
 have H : (storagebarterref02_Sum.l0 k a0 1 0) = some r := h
 clear h
 have H' := Aside0.mk H
 clear H
 go_enter Try.func67, Try.ntmps67
 go_wp2
 go_loopg [3, 4] k (fun kq v3 v4 w' => ∃ (x3_1 : Int) (x4_1 : Int), v3 = .int .i64 x3_1 ∧ v4 = .int .i64 x4_1 ∧ Aside0 (storagebarterref02_Sum.l0 kq a0 x3_1 x4_1 = some r) ∧ Aside0 (kq ≤ k) ∧ Drawn0 w w')
 case atStart => exact ⟨(1), (0), (by first | rfl | (simp; done) | (simp [*]; done)), (by first | rfl | (simp; done) | (simp [*]; done)), H', ⟨Nat.le_refl _⟩, by repeat (first | exact Drawn0.refl _ | apply Drawn0.step)⟩
 case round =>
  clear H'
  obtain ⟨x3_1, x4_1, rfl, rfl, HA, HK1, ⟨m1, rfl⟩⟩ := hrel
  cases gk with
  | zero => exact absurd HA.out (by simp [storagebarterref02_Sum.l0])
  | succ k1 =>
   have H := HA.out
   clear HA
   simp only [storagebarterref02_Sum.l0] at H
   by_cases c2 : x4_1 < (a0.size : Int)
   ·rw [if_pos c2] at H
    have c2b0 : decide (x4_1 < (a0.size : Int)) = true := decide_eq_true c2
    clear c2
    by_cases c3 : 0 ≤ x4_1
    ·rw [if_pos c3] at H
     have c3b0 : decide (0 ≤ x4_1) = true := decide_eq_true c3
     clear c3
     have H' := Aside0.mk H
     clear H
     have p4 : 0 ≤ (x4_1 : Int) := of_decide_eq_true (by first | (with_reducible assumption) | assumption)
     have q4 : x4_1 < (a0.size : Int) := of_decide_eq_true (by first | (with_reducible assumption) | assumption)
     have hx4 := bt_at a0 x4_1
     replace p4 := eq_true p4
     replace q4 := eq_true q4
     go_wp2
     go_roundg k1
     case measure => have := HK1.out; omega
     case rel => exact ⟨(Int.tmod (wrap64 ((wrap64 ((wrap64 (x3_1 * 1000003)) + (wrap64 (bt a0 x4_1)))) + 1)) 2147483647), (wrap64 (x4_1 + 1)), (by first | rfl | (simp; done) | (simp [*]; done)), (by first | rfl | (simp; done) | (simp [*]; done)), H', ⟨by have := HK1.out; omega⟩, by repeat (first | exact Drawn0.refl _ | apply Drawn0.step)⟩
    ·rw [if_neg c3] at H
     exact absurd H (by simp)
   ·rw [if_neg c2] at H
    have c2b0 : decide (x4_1 < (a0.size : Int)) = false := decide_eq_false c2
    clear c2
    obtain rfl := Option.some.inj H
    go_wp2
    go_ret
    exact ⟨by first | rfl | (simp; done) | (simp [*]; done), by repeat (first | exact Drawn0.refl _ | apply Drawn0.step)⟩
end Go.Proofs.Ytcjdnahgffkbdaa.Q

namespace Go.Proofs.Ytcjdnahgffkbdaa.Q
open Go.RowKit Go.Proofs.YtcjdnahgffkbdaaW.PrintWords Go.Proofs.YtcjdnahgffkbdaaW.PrintLast Go.Proofs.YtcjdnahgffkbdaaW.PrintMore Go.Proofs.Ytcjdnahgffkbdaa.Gput Go.Proofs.Ytcjdnahgffkbdaa.Gputl
attribute [local go_sem] max2_int min2_int max_two min_two max_three min_three max_four min_four   -- for this text's walks alone
set_option linter.unusedVariables false
set_option linter.unusedSimpArgs false
def storagebarterref14_number.f (a0 : Int) : Option (Bool) := if a0 ≥ 1 then (some (decide (a0 < 2147483647))) else (some false)
set_option maxHeartbeats 8000000 in
set_option maxRecDepth 100000 in
theorem storagebarterref14_number.calls (a0 : Int) (r : Bool) (w : World) (h : storagebarterref14_number.f a0 = some r) :
 Calls Try.prog 71 #[.int .i64 a0] w fun e w' => e = .returned (.bool r) ∧ Drawn0 w w' := by
 have H : (if a0 ≥ 1 then (some (decide (a0 < 2147483647))) else (some false)) = some r := h
 clear h
 by_cases c2 : a0 ≥ 1
 ·rw [if_pos c2] at H
  have c2b0 : decide (1 ≤ a0) = true := decide_eq_true c2
  clear c2
  obtain rfl := Option.some.inj H
  go_enter Try.func71, Try.ntmps71
  go_wp2
  go_ret
  exact ⟨by first | rfl | (simp; done) | (simp [*]; done), by repeat (first | exact Drawn0.refl _ | apply Drawn0.step)⟩
 ·rw [if_neg c2] at H
  have c2b0 : decide (1 ≤ a0) = false := decide_eq_false c2
  clear c2
  obtain rfl := Option.some.inj H
  go_enter Try.func71, Try.ntmps71
  go_wp2
  go_ret
  exact ⟨by first | rfl | (simp; done) | (simp [*]; done), by repeat (first | exact Drawn0.refl _ | apply Drawn0.step)⟩
end Go.Proofs.Ytcjdnahgffkbdaa.Q

namespace Go.Proofs.Ytcjdnahgffkbdaa.Q
open Go.RowKit Go.Proofs.YtcjdnahgffkbdaaW.PrintWords Go.Proofs.YtcjdnahgffkbdaaW.PrintLast Go.Proofs.YtcjdnahgffkbdaaW.PrintMore Go.Proofs.Ytcjdnahgffkbdaa.Gput Go.Proofs.Ytcjdnahgffkbdaa.Gputl
attribute [local go_sem] max2_int min2_int max_two min_two max_three min_three max_four min_four   -- for this text's walks alone
set_option linter.unusedVariables false
set_option linter.unusedSimpArgs false
def storagebarterref14_Sign.f (k : Nat) (a0 : Int) (a1 : ByteArray) : Option (Int × Int) := (storagebarterref14_number.f a0).bind fun t222 => (if t222 = true then (if (a1.size : Int) > 16384 then (some (0, 4)) else ((storagebarterref01_PutInt.f k (⟨#[]⟩ : ByteArray) a0).bind fun t223 => (if t223.size + a1.size ≤ 9223372036854775807 then ((storagebarterref02_Sum.f k (t223 ++ a1)).bind fun t224 => (some (t224, 0))) else (none)))) else (some (0, 1)))
theorem storagebarterref14_Sign.mono : ∀ a0 a1 k, LeO (storagebarterref14_Sign.f k a0 a1) (storagebarterref14_Sign.f (k + 1) a0 a1) := by
 intro a0 a1 k
 unfold storagebarterref14_Sign.f
 repeat' first
  | (with_reducible exact storagebarterref01_PutInt.mono _ _ _)
  | (with_reducible exact storagebarterref02_Sum.mono _ _)
  | (with_reducible exact LeO.refl _)
  | (with_reducible exact LeO.none _)
  | (with_reducible refine LeO.ite ?_ ?_)
  | (with_reducible refine LeO.bind ?_ (fun _ => ?_))
  | exact storagebarterref01_PutInt.mono _ _ _
  | exact storagebarterref02_Sum.mono _ _
  | exact LeO.none _
  | refine LeO.ite ?_ ?_
  | refine LeO.bind ?_ (fun _ => ?_)
set_option maxHeartbeats 8000000 in
set_option maxRecDepth 100000 in
theorem storagebarterref14_Sign.calls (k : Nat) (a0 : Int) (a1 : ByteArray) (r1 : Int) (r2 : Int) (w : World) (h : storagebarterref14_Sign.f k a0 a1 = some (r1, r2)) :
 Calls Try.prog 69 #[.int .i64 a0, .string a1] w fun e w' => e = .returned (.tuple #[.int .i64 r1, .int .i64 r2]) ∧ Below w.heap.size w w' := by
 have HB := Aside0.mk (Below.refl w.heap.size w)
 have H : ((storagebarterref14_number.f a0).bind fun t222 => (if t222 = true then (if (a1.size : Int) > 16384 then (some (0, 4)) else ((storagebarterref01_PutInt.f k (⟨#[]⟩ : ByteArray) a0).bind fun t223 => (if t223.size + a1.size ≤ 9223372036854775807 then ((storagebarterref02_Sum.f k (t223 ++ a1)).bind fun t224 => (some (t224, 0))) else (none)))) else (some (0, 1)))) = some (r1, r2) := h
 clear h
 replace H := Option.bind_eq_some_iff.mp H
 obtain ⟨t222, A30, H⟩ := H
 replace H : (if t222 = true then (if (a1.size : Int) > 16384 then (some (0, 4)) else ((storagebarterref01_PutInt.f k (⟨#[]⟩ : ByteArray) a0).bind fun t223 => (if t223.size + a1.size ≤ 9223372036854775807 then ((storagebarterref02_Sum.f k (t223 ++ a1)).bind fun t224 => (some (t224, 0))) else (none)))) else (some (0, 1))) = some (r1, r2) := H
 have A3 := Aside0.mk A30
 clear A30
 by_cases c4 : t222 = true
 ·subst c4
  have H1 : (if (a1.size : Int) > 16384 then (some (0, 4)) else ((storagebarterref01_PutInt.f k (⟨#[]⟩ : ByteArray) a0).bind fun t223 => (if t223.size + a1.size ≤ 9223372036854775807 then ((storagebarterref02_Sum.f k (t223 ++ a1)).bind fun t224 => (some (t224, 0))) else (none)))) = some (r1, r2) := by rw [if_pos rfl] at H; exact H
  clear H
  have H := H1
  clear H1
  by_cases c5 : (a1.size : Int) > 16384
  ·rw [if_pos c5] at H
   have c5b0 : decide (16384 < (a1.size : Int)) = true := decide_eq_true c5
   have c5b1 : decide (16384 < a1.size) = true := decide_eq_true (by omega)
   clear c5
   simp only [Option.some.injEq, Prod.mk.injEq] at H
   obtain ⟨rfl, rfl⟩ := H
   go_enter Try.func69, Try.ntmps69
   go_wp2_with (first | ((with_reducible refine gate_callee (f := 71) rfl ?_); refine goesL_ (some 7) rfl rfl Try.func71 (by kernel_rfl) rfl #[.int .i64 a0] rfl (by (try simp only [List.map_toArray, List.map_cons, List.map_nil]); first | done | rfl | (simp only [List.length_drop, List.length_take]; rfl)) ?_; (with_reducible refine (storagebarterref14_number.calls a0 true _ A3.out).mono ?_); rintro e w' ⟨rfl, ⟨nd, rfl⟩⟩; refine ⟨_, rfl, ?_⟩))
   go_ret2
   exact ⟨by first | rfl | (simp [errW_none, errW_some] <;> rfl) | (simp [*, errW_none, errW_some] <;> rfl), by repeat (first | (with_reducible first | exact HB.out | apply below_alloc | apply pw_below_drewN | apply below_drew1) | exact HB.out)⟩
  ·rw [if_neg c5] at H
   have c5b0 : decide (16384 < (a1.size : Int)) = false := decide_eq_false c5
   have c5b1 : decide (16384 < a1.size) = false := decide_eq_false (by omega)
   clear c5
   replace H := Option.bind_eq_some_iff.mp H
   obtain ⟨t223, A60, H⟩ := H
   replace H : (if t223.size + a1.size ≤ 9223372036854775807 then ((storagebarterref02_Sum.f k (t223 ++ a1)).bind fun t224 => (some (t224, 0))) else (none)) = some (r1, r2) := H
   have A6 := Aside0.mk A60
   clear A60
   by_cases c7 : t223.size + a1.size ≤ 9223372036854775807
   ·rw [if_pos c7] at H
    have c7b0 := eq_true c7
    have c7b1 : decide (t223.size + a1.size ≤ 9223372036854775807) = true := decide_eq_true c7
    try have c7b2 : (9223372036854775807 < t223.size + a1.size) = False := eq_false (Nat.not_lt.2 c7)
    replace H := Option.bind_eq_some_iff.mp H
    obtain ⟨t224, A80, H⟩ := H
    replace H : (some (t224, 0)) = some (r1, r2) := H
    have A8 := Aside0.mk A80
    clear A80
    simp only [Option.some.injEq, Prod.mk.injEq] at H
    obtain ⟨rfl, rfl⟩ := H
    go_enter Try.func69, Try.ntmps69
    go_wp2_with (first | ((with_reducible refine gate_callee (f := 71) rfl ?_); refine goesL_ (some 7) rfl rfl Try.func71 (by kernel_rfl) rfl #[.int .i64 a0] rfl (by (try simp only [List.map_toArray, List.map_cons, List.map_nil]); first | done | rfl | (simp only [List.length_drop, List.length_take]; rfl)) ?_; (with_reducible refine (storagebarterref14_number.calls a0 true _ A3.out).mono ?_); rintro e w' ⟨rfl, ⟨nd, rfl⟩⟩; refine ⟨_, rfl, ?_⟩) | ((with_reducible refine gate_callee (f := 25) rfl ?_); refine goesL_ (some 13) rfl rfl Try.func25 (by kernel_rfl) rfl #[.string (⟨#[]⟩ : ByteArray), .int .i64 a0] rfl (by (try simp only [List.map_toArray, List.map_cons, List.map_nil]); first | done | rfl | (simp only [List.length_drop, List.length_take]; rfl)) ?_; (with_reducible refine (storagebarterref01_PutInt.calls k (⟨#[]⟩ : ByteArray) a0 t223 _ A6.out).mono ?_); rintro e w9 ⟨rfl, hb⟩; refine ⟨_, rfl, ?_⟩; have n0_ := Aside0.mk (below_step (by repeat (first | (with_reducible first | exact HB.out | apply below_alloc | apply pw_below_drewN | apply below_drew1) | exact HB.out)) hb); clear HB; have HB := n0_; clear n0_; (try clear hb); (try clear hb2); (try clear hk); (try clear hi)) | ((with_reducible refine gate_callee (f := 67) rfl ?_); refine goesL_ (some 16) rfl rfl Try.func67 (by kernel_rfl) rfl #[.string (t223 ++ a1)] rfl (by (try simp only [List.map_toArray, List.map_cons, List.map_nil]); first | done | rfl | (simp only [List.length_drop, List.length_take]; rfl)) ?_; (with_reducible refine (storagebarterref02_Sum.calls k (t223 ++ a1) t224 _ A8.out).mono ?_); rintro e w' ⟨rfl, ⟨nd, rfl⟩⟩; refine ⟨_, rfl, ?_⟩))
    go_ret2
    exact ⟨by first | rfl | (simp [errW_none, errW_some] <;> rfl) | (simp [*, errW_none, errW_some] <;> rfl), by repeat (first | (with_reducible first | exact HB.out | apply below_alloc | apply pw_below_drewN | apply below_drew1) | exact HB.out)⟩
   ·rw [if_neg c7] at H
    exact absurd H (by simp)
 ·replace c4 := Bool.eq_false_iff.mpr c4
  subst c4
  have H1 : (some (0, 1)) = some (r1, r2) := by rw [if_neg (show ¬ (false = true) by decide)] at H; exact H
  clear H
  have H := H1
  clear H1
  simp only [Option.some.injEq, Prod.mk.injEq] at H
  obtain ⟨rfl, rfl⟩ := H
  go_enter Try.func69, Try.ntmps69
  go_wp2_with (first | ((with_reducible refine gate_callee (f := 71) rfl ?_); refine goesL_ (some 7) rfl rfl Try.func71 (by kernel_rfl) rfl #[.int .i64 a0] rfl (by (try simp only [List.map_toArray, List.map_cons, List.map_nil]); first | done | rfl | (simp only [List.length_drop, List.length_take]; rfl)) ?_; (with_reducible refine (storagebarterref14_number.calls a0 false _ A3.out).mono ?_); rintro e w' ⟨rfl, ⟨nd, rfl⟩⟩; refine ⟨_, rfl, ?_⟩))
  go_ret2
  exact ⟨by first | rfl | (simp [errW_none, errW_some] <;> rfl) | (simp [*, errW_none, errW_some] <;> rfl), by repeat (first | (with_reducible first | exact HB.out | apply below_alloc | apply pw_below_drewN | apply below_drew1) | exact HB.out)⟩
end Go.Proofs.Ytcjdnahgffkbdaa.Q

namespace Go.Proofs.Ytcjdnahgffkbdaa.Snx
open Go Go.RowKit Go.Proofs Go.Proofs.Ytcjdnahgffkbdaa.Gm Go.Proofs.Ytcjdnahgffkbdaa.Gwa Go.Proofs.Ytcjdnahgffkbdaa.Gwb Go.Proofs.Ytcjdnahgffkbdaa.Spt Go.Proofs.Ytcjdnahgffkbdaa.Q Go.Proofs.Ytcjdnahgffkbdaa.Gput Go.Proofs.YtcjdnahgffkbdaaW.PrintWords Go.Proofs.YtcjdnahgffkbdaaW.PrintLast Go.Proofs.YtcjdnahgffkbdaaW.PrintMore
set_option linter.unusedVariables false
theorem w64 {x : Int} (h : -9223372036854775808 ≤ x ∧ x ≤ 9223372036854775807) : wrap64 x = x := by unfold wrap64; omega
theorem tmod_range (a m : Int) (hm : 0 < m) : -m < Int.tmod a m ∧ Int.tmod a m < m := by
  refine ⟨?_, Int.tmod_lt_of_pos a hm⟩
  rcases Int.le_total 0 a with h | h
  · have := Int.tmod_nonneg m h; omega
  · have h1 := Int.tmod_nonneg m (show 0 ≤ -a by omega)
    have h2 := Int.tmod_lt_of_pos (-a) hm
    rw [Int.neg_tmod] at h1 h2
    omega
theorem I64_tmod (a m : Int) (hm : 0 < m) (hb : m ≤ 4294967296) : I64 (Int.tmod a m) := by have := tmod_range a m hm; unfold I64; omega
theorem sum_l0 (s : ByteArray) (hs : s.size ≤ 9223372036854775000) : ∀ (n i k : Nat) (d : Int), s.size - i = n → i ≤ s.size → I64 d → n < k → ∃ r, storagebarterref02_Sum.l0 k s d i = some r ∧ I64 r := by
  intro n
  induction n with
  | zero =>
    intro i k d hn hi hd hk
    obtain ⟨k, rfl⟩ : ∃ m, k = m + 1 := ⟨k - 1, by omega⟩
    simp only [storagebarterref02_Sum.l0]
    rw [if_neg (by omega)]
    exact ⟨_, rfl, hd⟩
  | succ n ih =>
    intro i k d hn hi hd hk
    obtain ⟨k, rfl⟩ : ∃ m, k = m + 1 := ⟨k - 1, by omega⟩
    have hlt : i < s.size := by omega
    simp only [storagebarterref02_Sum.l0]
    rw [if_pos (by omega), if_pos (by omega), w64 (x := (i : Int) + 1) (by omega), show ((i : Int) + 1) = ((i + 1 : Nat) : Int) by omega]
    exact ih (i + 1) k _ (by omega) (by omega) (I64_tmod _ _ (by omega) (by omega)) (by omega)
theorem sum_ex (l : List UInt8) (k : Nat) (hl : l.length ≤ 9223372036854775000) (hk : l.length < k) : ∃ r, storagebarterref02_Sum.f k (B l) = some r ∧ I64 r := by
  unfold storagebarterref02_Sum.f
  have h := sum_l0 (B l) (by rw [B_size]; exact hl) l.length 0 k 1 (by rw [B_size]; omega) (by omega) (by unfold I64; omega) hk
  rw [show ((0 : Nat) : Int) = 0 from rfl] at h
  exact h
theorem sign_ex (p : Int) (l : List UInt8) (hp : 1 ≤ p ∧ p < 2147483647) (hl : l.length ≤ 1000) : ∃ m e, storagebarterref14_Sign.f 1020 p (B l) = some (m, e) ∧ I64 m := by
  have hr : -9223372036854775808 ≤ p ∧ p ≤ 9223372036854775807 := by omega
  have hlp := putI_len hr
  obtain ⟨m, hm, hi⟩ := sum_ex (putI p ++ l) 1020 (by rw [List.length_append]; omega) (by rw [List.length_append]; omega)
  unfold storagebarterref14_Sign.f storagebarterref14_number.f
  rw [if_pos (by omega), Option.bind_some, if_pos (by simpa using hp.2), B_size, if_neg (by omega), show (⟨#[]⟩ : ByteArray) = B [] from rfl, ref_PutInt_eq [] p 1020 (by simp) hr (by omega), Option.bind_some, List.nil_append, B_size, B_append, if_pos (by omega), hm]
  exact ⟨_, _, rfl, hi⟩
theorem bytes_l0 (l : List Int) (hl : l.length ≤ 10) (h : ∀ x ∈ l, I64 x) : ∀ (d i k : Nat) (b : List UInt8), l.length - i = d → i ≤ l.length → d + 11 < k → b.length ≤ 10 * i →
    ∃ r, storagebarterref15_Bytes.l0 k (B b) l (l.length : Int) (i : Int) = some (B r) ∧ r.length ≤ 100 := by
  intro d
  induction d with
  | zero =>
    intro i k b hd hi hk hb
    obtain ⟨k, rfl⟩ : ∃ m, k = m + 1 := ⟨k - 1, by omega⟩
    rw [storagebarterref15_Bytes.l0, if_neg (by omega)]
    exact ⟨b, rfl, by omega⟩
  | succ d ih =>
    intro i k b hd hi hk hb
    obtain ⟨k, rfl⟩ : ∃ m, k = m + 1 := ⟨k - 1, by omega⟩
    have hil : i < l.length := by omega
    have e : rd l (i : Int) = l[i] := by simp [rd, List.getD, hil]
    have hp := putI_len (h _ (List.getElem_mem hil))
    rw [storagebarterref15_Bytes.l0, if_pos (by omega), if_pos (by omega), if_pos (by omega), e, ref_PutInt_eq _ _ _ (by omega) (h _ (List.getElem_mem hil)) (by omega), Option.bind_some, w64 (x := (i : Int) + 1) (by omega), show ((i : Int) + 1) = ((i + 1 : Nat) : Int) by omega]
    exact ih (i + 1) k _ (by omega) (by omega) (by omega) (by rw [List.length_append]; omega)
theorem bytes_ex (f0 f1 f2 f3 f4 f5 f6 f7 f8 f9 f10 : Int) (h : ∀ x ∈ [f0, f1, f2, f3, f4, f5, f6, f7, f8, f9], I64 x) : ∃ r, storagebarterref15_Bytes.f 22 f0 f1 f2 f3 f4 f5 f6 f7 f8 f9 f10 = some (B r) ∧ r.length ≤ 100 := by
  unfold storagebarterref15_Bytes.f
  rw [Option.bind_some]
  exact bytes_l0 _ (by simp) h 10 0 22 [] (by simp) (by simp) (by omega) (by simp)
def Som {α : Type} (x : Option α) : Prop := ∃ r, x = some r
theorem Som.one {α : Type} (r : α) : Som (some r) := ⟨r, rfl⟩
theorem Som.ite {α : Type} {p : Prop} [Decidable p] {x y : Option α} (h : Som x) (k : Som y) : Som (if p then x else y) := by split <;> assumption
theorem Som.bind {α β : Type} {x : Option α} {f : α → Option β} (h : Som x) (k : ∀ r, Som (f r)) : Som (x.bind f) := by obtain ⟨r, rfl⟩ := h; exact k r
theorem in_som (a b c : Int) : Som (storagebarterref15_in.f a b c) := by unfold storagebarterref15_in.f; exact Som.ite (Som.one _) (Som.one _)
theorem lock_som (a : Int) : Som (storagebarterref15_lock.f a) := by unfold storagebarterref15_lock.f; exact Som.ite (Som.ite (Som.one _) (Som.one _)) (Som.one _)
theorem j3_som (k : Nat) (x3 x4 x6 : Bool) (x41 : Int) (x60 : Bool) (y0 y1 y2 y3 y4 y5 y6 y7 y8 y9 y10 : Int) : Som (storagebarterref15_parts.j3 (k + 1) x3 x4 x6 x41 x60 y0 y1 y2 y3 y4 y5 y6 y7 y8 y9 y10) := by
  rw [storagebarterref15_parts.j3]
  repeat' (first | exact Som.one _ | exact in_som _ _ _ | exact lock_som _ | refine Som.ite ?_ ?_ | refine Som.bind ?_ (fun _ => ?_))
theorem j2_som (k : Nat) (x3 x4 x5 x6 : Bool) (y0 y1 y2 y3 y4 y5 y6 y7 y8 y9 y10 : Int) : Som (storagebarterref15_parts.j2 (k + 2) x3 x4 x5 x6 y0 y1 y2 y3 y4 y5 y6 y7 y8 y9 y10) := by
  rw [storagebarterref15_parts.j2]
  repeat' (first | exact Som.one _ | exact in_som _ _ _ | exact lock_som _ | exact j3_som k _ _ _ _ _ _ _ _ _ _ _ _ _ _ _ _ | refine Som.ite ?_ ?_ | refine Som.bind ?_ (fun _ => ?_))
theorem j1_som (k : Nat) (x3 x4 x5 : Bool) (y0 y1 y2 y3 y4 y5 y6 y7 y8 y9 y10 : Int) : Som (storagebarterref15_parts.j1 (k + 3) x3 x4 x5 y0 y1 y2 y3 y4 y5 y6 y7 y8 y9 y10) := by
  rw [storagebarterref15_parts.j1]
  repeat' (first | exact Som.one _ | exact j2_som k _ _ _ _ _ _ _ _ _ _ _ _ _ _ _ | refine Som.ite ?_ ?_ | refine Som.bind ?_ (fun _ => ?_))
theorem j0_som (k : Nat) (x3 x4 : Bool) (y0 y1 y2 y3 y4 y5 y6 y7 y8 y9 y10 : Int) : Som (storagebarterref15_parts.j0 (k + 4) x3 x4 y0 y1 y2 y3 y4 y5 y6 y7 y8 y9 y10) := by
  rw [storagebarterref15_parts.j0]
  repeat' (first | exact Som.one _ | exact in_som _ _ _ | exact j1_som k _ _ _ _ _ _ _ _ _ _ _ _ _ _ | refine Som.ite ?_ ?_ | refine Som.bind ?_ (fun _ => ?_))
theorem parts_som (y0 y1 y2 y3 y4 y5 y6 y7 y8 y9 y10 : Int) : Som (storagebarterref15_parts.f 4 y0 y1 y2 y3 y4 y5 y6 y7 y8 y9 y10) := by
  unfold storagebarterref15_parts.f
  repeat' (first | exact Som.one _ | exact in_som _ _ _ | exact j0_som 0 _ _ _ _ _ _ _ _ _ _ _ _ _ | refine Som.ite ?_ ?_ | refine Som.bind ?_ (fun _ => ?_))
theorem valid_som (y0 y1 y2 y3 y4 y5 y6 y7 y8 y9 y10 : Int) : Som (storagebarterref15_Valid.f 4 y0 y1 y2 y3 y4 y5 y6 y7 y8 y9 y10) := by
  unfold storagebarterref15_Valid.f
  repeat' (first | exact Som.one _ | exact in_som _ _ _ | exact parts_som _ _ _ _ _ _ _ _ _ _ _ | refine Som.ite ?_ ?_ | refine Som.bind ?_ (fun _ => ?_))
theorem in_x (l m n : Int) (h : l ≤ n ∧ n ≤ m) (w : World) : Calls Try.prog 66 #[.int .i64 n, .int .i64 l, .int .i64 m] w fun e w' => e = .returned (.bool true) ∧ w' = w := by
  have d1 := decide_eq_true h.1
  have d2 := decide_eq_true h.2
  go_enter Try.func66, Try.ntmps66
  go_wp2
  go_ret
  exact ⟨rfl, rfl⟩
theorem two_new (w : World) (cs ds : Array Value) (t u : TypeId) : ((w.alloc (.cells cs t)).alloc (.cells ds u)).heap[w.heap.size + 1]? = some (.cells ds u (0, 0)) := by
  have := heap_alloc_new (w.alloc (.cells cs t)) (.cells ds u)
  simpa using this
structure NxW (w W : World) (p0 p1 : Int) : Prop where
  hb : Below w.heap.size w W
  b10 : W.heap[w.heap.size]? = some (.cells #[.int .i64 p0, .int .i64 p1] 105 (0, 0))
  b18 : W.heap[w.heap.size + 1]? = some (.cells #[.int .i64 0, .int .i64 0, .int .i64 0, .int .i64 0, .int .i64 0, .int .i64 0, .int .i64 0, .int .i64 0, .int .i64 0, .int .i64 0, .int .i64 0] 64 (0, 0))
section
variable {w W W' : World} {p0 p1 : Int}
theorem NxW.below (h : NxW w W p0 p1) (hb : Below W.heap.size W W') : NxW w W' p0 p1 := ⟨below_step h.hb hb, blk_below h.b10 hb, blk_below h.b18 hb⟩
theorem NxW.alloc (h : NxW w W p0 p1) (o : Obj) : NxW w (W.alloc o) p0 p1 := h.below (below_alloc (Below.refl _ _) o)
theorem NxW.set (h : NxW w W p0 p1) {g : Nat} (h0 : w.heap.size + 1 < g) (i : Nat) (v : Value) : NxW w (W.setCell ⟨g, i, none⟩ v) p0 p1 :=
  ⟨below_set h.hb (Nat.le_of_lt (Nat.lt_of_succ_lt h0)), blk_far h.b10 (Nat.ne_of_lt (Nat.lt_of_succ_lt h0)) _, blk_far h.b18 (Nat.ne_of_lt h0) _⟩
end
theorem put11 {W : World} {g : Nat} {t : TypeId} (x0 x1 x2 x3 x4 x5 x6 x7 x8 x9 x10 v0 v1 v2 v3 v4 v5 v6 v7 v8 v9 v10 : Value) (h : W.heap[g]? = some (.cells #[x0, x1, x2, x3, x4, x5, x6, x7, x8, x9, x10] t (0, 0))) :
    (((((((((((W.setCell ⟨g, 0, none⟩ v0).setCell ⟨g, 1, none⟩ v1).setCell ⟨g, 2, none⟩ v2).setCell ⟨g, 3, none⟩ v3).setCell ⟨g, 4, none⟩ v4).setCell ⟨g, 5, none⟩ v5).setCell ⟨g, 6, none⟩ v6).setCell ⟨g, 7, none⟩ v7).setCell ⟨g, 8, none⟩ v8).setCell ⟨g, 9, none⟩ v9).setCell ⟨g, 10, none⟩ v10).heap[g]? = some (.cells #[v0, v1, v2, v3, v4, v5, v6, v7, v8, v9, v10] t (0, 0)) := by
  have h0_ : (W.setCell ⟨g, 0, none⟩ v0).heap[g]? = some (.cells #[v0, x1, x2, x3, x4, x5, x6, x7, x8, x9, x10] t (0, 0)) := blk_put h 0 v0 rfl
  have h1_ : ((W.setCell ⟨g, 0, none⟩ v0).setCell ⟨g, 1, none⟩ v1).heap[g]? = some (.cells #[v0, v1, x2, x3, x4, x5, x6, x7, x8, x9, x10] t (0, 0)) := blk_put h0_ 1 v1 rfl
  have h2_ : (((W.setCell ⟨g, 0, none⟩ v0).setCell ⟨g, 1, none⟩ v1).setCell ⟨g, 2, none⟩ v2).heap[g]? = some (.cells #[v0, v1, v2, x3, x4, x5, x6, x7, x8, x9, x10] t (0, 0)) := blk_put h1_ 2 v2 rfl
  have h3_ : ((((W.setCell ⟨g, 0, none⟩ v0).setCell ⟨g, 1, none⟩ v1).setCell ⟨g, 2, none⟩ v2).setCell ⟨g, 3, none⟩ v3).heap[g]? = some (.cells #[v0, v1, v2, v3, x4, x5, x6, x7, x8, x9, x10] t (0, 0)) := blk_put h2_ 3 v3 rfl
  have h4_ : (((((W.setCell ⟨g, 0, none⟩ v0).setCell ⟨g, 1, none⟩ v1).setCell ⟨g, 2, none⟩ v2).setCell ⟨g, 3, none⟩ v3).setCell ⟨g, 4, none⟩ v4).heap[g]? = some (.cells #[v0, v1, v2, v3, v4, x5, x6, x7, x8, x9, x10] t (0, 0)) := blk_put h3_ 4 v4 rfl
  have h5_ : ((((((W.setCell ⟨g, 0, none⟩ v0).setCell ⟨g, 1, none⟩ v1).setCell ⟨g, 2, none⟩ v2).setCell ⟨g, 3, none⟩ v3).setCell ⟨g, 4, none⟩ v4).setCell ⟨g, 5, none⟩ v5).heap[g]? = some (.cells #[v0, v1, v2, v3, v4, v5, x6, x7, x8, x9, x10] t (0, 0)) := blk_put h4_ 5 v5 rfl
  have h6_ : (((((((W.setCell ⟨g, 0, none⟩ v0).setCell ⟨g, 1, none⟩ v1).setCell ⟨g, 2, none⟩ v2).setCell ⟨g, 3, none⟩ v3).setCell ⟨g, 4, none⟩ v4).setCell ⟨g, 5, none⟩ v5).setCell ⟨g, 6, none⟩ v6).heap[g]? = some (.cells #[v0, v1, v2, v3, v4, v5, v6, x7, x8, x9, x10] t (0, 0)) := blk_put h5_ 6 v6 rfl
  have h7_ : ((((((((W.setCell ⟨g, 0, none⟩ v0).setCell ⟨g, 1, none⟩ v1).setCell ⟨g, 2, none⟩ v2).setCell ⟨g, 3, none⟩ v3).setCell ⟨g, 4, none⟩ v4).setCell ⟨g, 5, none⟩ v5).setCell ⟨g, 6, none⟩ v6).setCell ⟨g, 7, none⟩ v7).heap[g]? = some (.cells #[v0, v1, v2, v3, v4, v5, v6, v7, x8, x9, x10] t (0, 0)) := blk_put h6_ 7 v7 rfl
  have h8_ : (((((((((W.setCell ⟨g, 0, none⟩ v0).setCell ⟨g, 1, none⟩ v1).setCell ⟨g, 2, none⟩ v2).setCell ⟨g, 3, none⟩ v3).setCell ⟨g, 4, none⟩ v4).setCell ⟨g, 5, none⟩ v5).setCell ⟨g, 6, none⟩ v6).setCell ⟨g, 7, none⟩ v7).setCell ⟨g, 8, none⟩ v8).heap[g]? = some (.cells #[v0, v1, v2, v3, v4, v5, v6, v7, v8, x9, x10] t (0, 0)) := blk_put h7_ 8 v8 rfl
  have h9_ : ((((((((((W.setCell ⟨g, 0, none⟩ v0).setCell ⟨g, 1, none⟩ v1).setCell ⟨g, 2, none⟩ v2).setCell ⟨g, 3, none⟩ v3).setCell ⟨g, 4, none⟩ v4).setCell ⟨g, 5, none⟩ v5).setCell ⟨g, 6, none⟩ v6).setCell ⟨g, 7, none⟩ v7).setCell ⟨g, 8, none⟩ v8).setCell ⟨g, 9, none⟩ v9).heap[g]? = some (.cells #[v0, v1, v2, v3, v4, v5, v6, v7, v8, v9, x10] t (0, 0)) := blk_put h8_ 9 v9 rfl
  have h10_ : (((((((((((W.setCell ⟨g, 0, none⟩ v0).setCell ⟨g, 1, none⟩ v1).setCell ⟨g, 2, none⟩ v2).setCell ⟨g, 3, none⟩ v3).setCell ⟨g, 4, none⟩ v4).setCell ⟨g, 5, none⟩ v5).setCell ⟨g, 6, none⟩ v6).setCell ⟨g, 7, none⟩ v7).setCell ⟨g, 8, none⟩ v8).setCell ⟨g, 9, none⟩ v9).setCell ⟨g, 10, none⟩ v10).heap[g]? = some (.cells #[v0, v1, v2, v3, v4, v5, v6, v7, v8, v9, v10] t (0, 0)) := blk_put h9_ 10 v10 rfl
  exact h10_
theorem W11_mk {x0 x1 x2 x3 x4 x5 x6 x7 x8 x9 x10 : Int} (h0 : I64 x0) (h1 : I64 x1) (h2 : I64 x2) (h3 : I64 x3) (h4 : I64 x4) (h5 : I64 x5) (h6 : I64 x6) (h7 : I64 x7) (h8 : I64 x8) (h9 : I64 x9) (h10 : I64 x10) : W11 ⟨x0, x1, x2, x3, x4, x5, x6, x7, x8, x9, x10⟩ := by
  intro x hx
  simp only [Spt.nums, List.mem_cons, List.not_mem_nil, or_false] at hx
  rcases hx with rfl | rfl | rfl | rfl | rfl | rfl | rfl | rfl | rfl | rfl | rfl <;> assumption
theorem I64_0 : I64 0 := by unfold I64; omega
theorem I64_1 : I64 1 := by unfold I64; omega
set_option maxRecDepth 100000 in
set_option maxHeartbeats 8000000 in
theorem next0_x (p0 p1 dst tick kind a b c d : Int) (w : World) (h0 : 1 ≤ p0 ∧ p0 ≤ 2147483646) (h1 : 1 ≤ p1 ∧ p1 ≤ 2147483646) (i2 : I64 dst) (i3 : I64 tick) (i4 : I64 kind) (i5 : I64 a) (i6 : I64 b) (i7 : I64 c) (i8 : I64 d) :
    Calls Try.prog 64 #[.slice none 0 0, .agg #[.int .i64 p0, .int .i64 p1], .int .i64 dst, .int .i64 tick, .int .i64 kind, .int .i64 a, .int .i64 b, .int .i64 c, .int .i64 d] w fun e w' =>
      ∃ (x0 x1 x2 x3 x4 x5 x6 x7 x8 x9 x10 er : Int), e = .returned (.tuple #[.agg #[.int .i64 x0, .int .i64 x1, .int .i64 x2, .int .i64 x3, .int .i64 x4, .int .i64 x5, .int .i64 x6, .int .i64 x7, .int .i64 x8, .int .i64 x9, .int .i64 x10], .int .i64 er]) ∧ W11 ⟨x0, x1, x2, x3, x4, x5, x6, x7, x8, x9, x10⟩ ∧ Below w.heap.size w w' := by
  have hu39 := Try.underlying64
  have hu25 := Try.underlying105
  have i0 : I64 p0 := by unfold I64; omega
  obtain ⟨bl, hby, hbl⟩ := bytes_ex p0 dst 1 0 tick kind a b c d 0 (by
    intro x hx
    simp only [List.mem_cons, List.not_mem_nil, or_false] at hx
    rcases hx with rfl | rfl | rfl | rfl | rfl | rfl | rfl | rfl | rfl | rfl <;> first | assumption | exact I64_0 | exact I64_1)
  obtain ⟨m, me, hsg, him⟩ := sign_ex p1 bl (by omega) (by omega)
  obtain ⟨v, hva⟩ := valid_som p0 dst 1 0 tick kind a b c d m
  have HBY := Lib.hid hby
  have HSG := Lib.hid hsg
  have HVA := Lib.hid hva
  have H0 := Aside0.mk h0
  have H1 := Aside0.mk h1
  have HI := Aside0.mk (W11_mk i0 i2 I64_1 I64_0 i3 i4 i5 i6 i7 i8 him)
  clear hby hsg hva h0 h1 i0 i2 i3 i4 i5 i6 i7 i8 him hbl
  go_enter Try.func64, Try.ntmps64
  go_wp2_with (first | (go_at_call 66; with_reducible refine (in_x 1 2147483646 p0 H0.out _).mono ?_; rintro e w' ⟨rfl, rfl⟩) | (go_at_call 66; with_reducible refine (in_x 1 2147483646 p1 H1.out _).mono ?_; rintro e w' ⟨rfl, rfl⟩))
  go_loopw [41] (fun s41 wr => s41 = .int .i64 0 ∧ Aside0 (NxW w wr p0 p1)) (fun _ _ => 0)
  case atStart => exact ⟨rfl, ⟨⟨by repeat (first | exact Below.refl _ _ | (with_reducible apply below_alloc)), blk_alloc (heap_alloc_new w _) _, two_new w _ _ _ _⟩⟩⟩
  case round =>
    obtain ⟨rfl, HX⟩ := hrel
    have hv0 : wr.cell? ⟨w.heap.size, 0, none⟩ = some (.int .i64 p0) := (blk_cell HX.out.b10 0).trans rfl
    have hv1 : wr.cell? ⟨w.heap.size, 1, none⟩ = some (.int .i64 p1) := (blk_cell HX.out.b10 1).trans rfl
    have hz0 : w.heap.size < wr.heap.size := blk_lt HX.out.b10
    have hz1 : w.heap.size + 1 < wr.heap.size := blk_lt HX.out.b18
    have HS := Aside0.mk (heap_alloc_new wr (.cells #[.int .i64 p0, .int .i64 dst, .int .i64 1, .int .i64 0, .int .i64 tick, .int .i64 kind, .int .i64 a, .int .i64 b, .int .i64 c, .int .i64 d, .int .i64 0] 64))
    replace HX := Aside0.mk (HX.out.alloc (.cells #[.int .i64 p0, .int .i64 dst, .int .i64 1, .int .i64 0, .int .i64 tick, .int .i64 kind, .int .i64 a, .int .i64 b, .int .i64 c, .int .i64 d, .int .i64 0] 64))
    go_upto_region 17 with (first | fail)
    go_cut [] (fun wx => Aside0 (NxW w wx p0 p1) ∧ Aside0 (wx.heap[wr.heap.size]? = some (.cells #[.int .i64 p0, .int .i64 dst, .int .i64 1, .int .i64 0, .int .i64 tick, .int .i64 kind, .int .i64 a, .int .i64 b, .int .i64 c, .int .i64 d, .int .i64 m] 64 (0, 0))))
    case first =>
      go_region_with (first | (go_at_call 68; with_reducible refine (storagebarterref15_Bytes.calls 22 p0 dst 1 0 tick kind a b c d 0 (B bl) _ HBY.out).mono ?_; rintro e w3 ⟨rfl, hb⟩; have hb_ := below_step (show Below (wr.alloc (.cells #[.int .i64 p0, .int .i64 dst, .int .i64 1, .int .i64 0, .int .i64 tick, .int .i64 kind, .int .i64 a, .int .i64 b, .int .i64 c, .int .i64 d, .int .i64 0] 64)).heap.size (wr.alloc (.cells #[.int .i64 p0, .int .i64 dst, .int .i64 1, .int .i64 0, .int .i64 tick, .int .i64 kind, .int .i64 a, .int .i64 b, .int .i64 c, .int .i64 d, .int .i64 0] 64)) _ from by (repeat (with_reducible first | exact Below.refl _ _ | apply below_alloc | apply pw_below_drewN | apply below_drew1))) hb; clear hb; have hb := hb_; clear hb_; have n1_ := Aside0.mk (HX.out.below hb); have n2_ := Aside0.mk (blk_below HS.out hb); clear HX HS; have HX := n1_; have HS := n2_; clear n1_ n2_ hb; have hv1_ : w3.cell? ⟨w.heap.size, 1, none⟩ = some (.int .i64 p1) := (blk_cell HX.out.b10 1).trans rfl; have hs0_ : w3.cell? ⟨wr.heap.size, 0, none⟩ = some _ := (blk_cell HS.out 0).trans rfl; have hs1_ : w3.cell? ⟨wr.heap.size, 1, none⟩ = some _ := (blk_cell HS.out 1).trans rfl; have hs2_ : w3.cell? ⟨wr.heap.size, 2, none⟩ = some _ := (blk_cell HS.out 2).trans rfl; have hs3_ : w3.cell? ⟨wr.heap.size, 3, none⟩ = some _ := (blk_cell HS.out 3).trans rfl; have hs4_ : w3.cell? ⟨wr.heap.size, 4, none⟩ = some _ := (blk_cell HS.out 4).trans rfl; have hs5_ : w3.cell? ⟨wr.heap.size, 5, none⟩ = some _ := (blk_cell HS.out 5).trans rfl; have hs6_ : w3.cell? ⟨wr.heap.size, 6, none⟩ = some _ := (blk_cell HS.out 6).trans rfl; have hs7_ : w3.cell? ⟨wr.heap.size, 7, none⟩ = some _ := (blk_cell HS.out 7).trans rfl; have hs8_ : w3.cell? ⟨wr.heap.size, 8, none⟩ = some _ := (blk_cell HS.out 8).trans rfl; have hs9_ : w3.cell? ⟨wr.heap.size, 9, none⟩ = some _ := (blk_cell HS.out 9).trans rfl; have hs10_ : w3.cell? ⟨wr.heap.size, 10, none⟩ = some _ := (blk_cell HS.out 10).trans rfl) | (go_at_call 69; with_reducible refine (storagebarterref14_Sign.calls 1020 p1 (B bl) m me _ HSG.out).mono ?_; rintro e w4 ⟨rfl, hb⟩; have hb_ := below_step (show Below w3.heap.size w3 _ from by (repeat (with_reducible first | exact Below.refl _ _ | apply below_alloc | apply pw_below_drewN | apply below_drew1))) hb; clear hb; have hb := hb_; clear hb_; have n1_ := Aside0.mk (HX.out.below hb); have n2_ := Aside0.mk (blk_below HS.out hb); clear HX HS; have HX := n1_; have HS := n2_; clear n1_ n2_ hb; have hv1_ : w4.cell? ⟨w.heap.size, 1, none⟩ = some (.int .i64 p1) := (blk_cell HX.out.b10 1).trans rfl; have hs0_ : w4.cell? ⟨wr.heap.size, 0, none⟩ = some _ := (blk_cell HS.out 0).trans rfl; have hs1_ : w4.cell? ⟨wr.heap.size, 1, none⟩ = some _ := (blk_cell HS.out 1).trans rfl; have hs2_ : w4.cell? ⟨wr.heap.size, 2, none⟩ = some _ := (blk_cell HS.out 2).trans rfl; have hs3_ : w4.cell? ⟨wr.heap.size, 3, none⟩ = some _ := (blk_cell HS.out 3).trans rfl; have hs4_ : w4.cell? ⟨wr.heap.size, 4, none⟩ = some _ := (blk_cell HS.out 4).trans rfl; have hs5_ : w4.cell? ⟨wr.heap.size, 5, none⟩ = some _ := (blk_cell HS.out 5).trans rfl; have hs6_ : w4.cell? ⟨wr.heap.size, 6, none⟩ = some _ := (blk_cell HS.out 6).trans rfl; have hs7_ : w4.cell? ⟨wr.heap.size, 7, none⟩ = some _ := (blk_cell HS.out 7).trans rfl; have hs8_ : w4.cell? ⟨wr.heap.size, 8, none⟩ = some _ := (blk_cell HS.out 8).trans rfl; have hs9_ : w4.cell? ⟨wr.heap.size, 9, none⟩ = some _ := (blk_cell HS.out 9).trans rfl; have hs10_ : w4.cell? ⟨wr.heap.size, 10, none⟩ = some _ := (blk_cell HS.out 10).trans rfl; have hzz_ := blk_lt HS.out; have hf10_ := blk_frozen HS.out 10))
      all_goals (go_wp2_with fail; go_meet; exact ⟨⟨HX.out.set hz1 _ _⟩, ⟨blk_put HS.out 10 _ rfl⟩⟩)
    case rest =>
    obtain ⟨HX, HS⟩ := hcut
    have hsc0_ : wc.cell? ⟨wr.heap.size, 0, none⟩ = some _ := (blk_cell HS.out 0).trans rfl
    have hsc1_ : wc.cell? ⟨wr.heap.size, 1, none⟩ = some _ := (blk_cell HS.out 1).trans rfl
    have hsc2_ : wc.cell? ⟨wr.heap.size, 2, none⟩ = some _ := (blk_cell HS.out 2).trans rfl
    have hsc3_ : wc.cell? ⟨wr.heap.size, 3, none⟩ = some _ := (blk_cell HS.out 3).trans rfl
    have hsc4_ : wc.cell? ⟨wr.heap.size, 4, none⟩ = some _ := (blk_cell HS.out 4).trans rfl
    have hsc5_ : wc.cell? ⟨wr.heap.size, 5, none⟩ = some _ := (blk_cell HS.out 5).trans rfl
    have hsc6_ : wc.cell? ⟨wr.heap.size, 6, none⟩ = some _ := (blk_cell HS.out 6).trans rfl
    have hsc7_ : wc.cell? ⟨wr.heap.size, 7, none⟩ = some _ := (blk_cell HS.out 7).trans rfl
    have hsc8_ : wc.cell? ⟨wr.heap.size, 8, none⟩ = some _ := (blk_cell HS.out 8).trans rfl
    have hsc9_ : wc.cell? ⟨wr.heap.size, 9, none⟩ = some _ := (blk_cell HS.out 9).trans rfl
    have hsc10_ : wc.cell? ⟨wr.heap.size, 10, none⟩ = some _ := (blk_cell HS.out 10).trans rfl
    have hzz := blk_lt HS.out
    have hzy := blk_lt HX.out.b18
    have HZ := Aside0.mk (Nat.le_of_lt hz0)
    cases v with
    | false =>
      go_wp2_with (first | (go_at_call 70; with_reducible refine (storagebarterref15_Valid.calls 4 p0 dst 1 0 tick kind a b c d m _ _ HVA.out).mono ?_; rintro e w2 ⟨rfl, hb⟩; have n1_ := Aside0.mk (HX.out.below hb); have n2_ := Aside0.mk (blk_below HS.out hb); clear HX HS; have HX := n1_; have HS := n2_; clear n1_ n2_ hb; have hq0_ : w2.cell? ⟨w.heap.size + 1, 0, none⟩ = some (.int .i64 0) := (blk_cell HX.out.b18 0).trans rfl; have hf0_ := blk_frozen HX.out.b18 0; have hq1_ : w2.cell? ⟨w.heap.size + 1, 1, none⟩ = some (.int .i64 0) := (blk_cell HX.out.b18 1).trans rfl; have hf1_ := blk_frozen HX.out.b18 1; have hq2_ : w2.cell? ⟨w.heap.size + 1, 2, none⟩ = some (.int .i64 0) := (blk_cell HX.out.b18 2).trans rfl; have hf2_ := blk_frozen HX.out.b18 2; have hq3_ : w2.cell? ⟨w.heap.size + 1, 3, none⟩ = some (.int .i64 0) := (blk_cell HX.out.b18 3).trans rfl; have hf3_ := blk_frozen HX.out.b18 3; have hq4_ : w2.cell? ⟨w.heap.size + 1, 4, none⟩ = some (.int .i64 0) := (blk_cell HX.out.b18 4).trans rfl; have hf4_ := blk_frozen HX.out.b18 4; have hq5_ : w2.cell? ⟨w.heap.size + 1, 5, none⟩ = some (.int .i64 0) := (blk_cell HX.out.b18 5).trans rfl; have hf5_ := blk_frozen HX.out.b18 5; have hq6_ : w2.cell? ⟨w.heap.size + 1, 6, none⟩ = some (.int .i64 0) := (blk_cell HX.out.b18 6).trans rfl; have hf6_ := blk_frozen HX.out.b18 6; have hq7_ : w2.cell? ⟨w.heap.size + 1, 7, none⟩ = some (.int .i64 0) := (blk_cell HX.out.b18 7).trans rfl; have hf7_ := blk_frozen HX.out.b18 7; have hq8_ : w2.cell? ⟨w.heap.size + 1, 8, none⟩ = some (.int .i64 0) := (blk_cell HX.out.b18 8).trans rfl; have hf8_ := blk_frozen HX.out.b18 8; have hq9_ : w2.cell? ⟨w.heap.size + 1, 9, none⟩ = some (.int .i64 0) := (blk_cell HX.out.b18 9).trans rfl; have hf9_ := blk_frozen HX.out.b18 9; have hq10_ : w2.cell? ⟨w.heap.size + 1, 10, none⟩ = some (.int .i64 0) := (blk_cell HX.out.b18 10).trans rfl; have hf10_ := blk_frozen HX.out.b18 10; have hs0_ : w2.cell? ⟨wr.heap.size, 0, none⟩ = some _ := (blk_cell HS.out 0).trans rfl; have hs1_ : w2.cell? ⟨wr.heap.size, 1, none⟩ = some _ := (blk_cell HS.out 1).trans rfl; have hs2_ : w2.cell? ⟨wr.heap.size, 2, none⟩ = some _ := (blk_cell HS.out 2).trans rfl; have hs3_ : w2.cell? ⟨wr.heap.size, 3, none⟩ = some _ := (blk_cell HS.out 3).trans rfl; have hs4_ : w2.cell? ⟨wr.heap.size, 4, none⟩ = some _ := (blk_cell HS.out 4).trans rfl; have hs5_ : w2.cell? ⟨wr.heap.size, 5, none⟩ = some _ := (blk_cell HS.out 5).trans rfl; have hs6_ : w2.cell? ⟨wr.heap.size, 6, none⟩ = some _ := (blk_cell HS.out 6).trans rfl; have hs7_ : w2.cell? ⟨wr.heap.size, 7, none⟩ = some _ := (blk_cell HS.out 7).trans rfl; have hs8_ : w2.cell? ⟨wr.heap.size, 8, none⟩ = some _ := (blk_cell HS.out 8).trans rfl; have hs9_ : w2.cell? ⟨wr.heap.size, 9, none⟩ = some _ := (blk_cell HS.out 9).trans rfl; have hs10_ : w2.cell? ⟨wr.heap.size, 10, none⟩ = some _ := (blk_cell HS.out 10).trans rfl))
      have HB := Aside0.mk HX.out.hb
      refine bodyPost_ret (results_ct rfl _ _ (w.heap.size + 1) 64 #[.int .i64 0, .int .i64 0, .int .i64 0, .int .i64 0, .int .i64 0, .int .i64 0, .int .i64 0, .int .i64 0, .int .i64 0, .int .i64 0, .int .i64 0] (0, 0) _ rfl (by (with_reducible exact put11 _ _ _ _ _ _ _ _ _ _ _ _ _ _ _ _ _ _ _ _ _ _ HX.out.b18)) Try.underlying64 rfl (by kernel_rfl)) rfl ?_
      exact ⟨0, 0, 0, 0, 0, 0, 0, 0, 0, 0, 0, 2, rfl, W11_mk I64_0 I64_0 I64_0 I64_0 I64_0 I64_0 I64_0 I64_0 I64_0 I64_0 I64_0, by (repeat (with_reducible first | exact HB.out | exact Below.refl _ _ | apply below_alloc | apply pw_below_drewN | apply below_drew1 | refine below_set ?_ (Nat.le_succ _) | refine below_set ?_ HZ.out))⟩
    | true =>
      go_wp2_with (first | (go_at_call 70; with_reducible refine (storagebarterref15_Valid.calls 4 p0 dst 1 0 tick kind a b c d m _ _ HVA.out).mono ?_; rintro e w2 ⟨rfl, hb⟩; have n1_ := Aside0.mk (HX.out.below hb); have n2_ := Aside0.mk (blk_below HS.out hb); clear HX HS; have HX := n1_; have HS := n2_; clear n1_ n2_ hb; have hq0_ : w2.cell? ⟨w.heap.size + 1, 0, none⟩ = some (.int .i64 0) := (blk_cell HX.out.b18 0).trans rfl; have hf0_ := blk_frozen HX.out.b18 0; have hq1_ : w2.cell? ⟨w.heap.size + 1, 1, none⟩ = some (.int .i64 0) := (blk_cell HX.out.b18 1).trans rfl; have hf1_ := blk_frozen HX.out.b18 1; have hq2_ : w2.cell? ⟨w.heap.size + 1, 2, none⟩ = some (.int .i64 0) := (blk_cell HX.out.b18 2).trans rfl; have hf2_ := blk_frozen HX.out.b18 2; have hq3_ : w2.cell? ⟨w.heap.size + 1, 3, none⟩ = some (.int .i64 0) := (blk_cell HX.out.b18 3).trans rfl; have hf3_ := blk_frozen HX.out.b18 3; have hq4_ : w2.cell? ⟨w.heap.size + 1, 4, none⟩ = some (.int .i64 0) := (blk_cell HX.out.b18 4).trans rfl; have hf4_ := blk_frozen HX.out.b18 4; have hq5_ : w2.cell? ⟨w.heap.size + 1, 5, none⟩ = some (.int .i64 0) := (blk_cell HX.out.b18 5).trans rfl; have hf5_ := blk_frozen HX.out.b18 5; have hq6_ : w2.cell? ⟨w.heap.size + 1, 6, none⟩ = some (.int .i64 0) := (blk_cell HX.out.b18 6).trans rfl; have hf6_ := blk_frozen HX.out.b18 6; have hq7_ : w2.cell? ⟨w.heap.size + 1, 7, none⟩ = some (.int .i64 0) := (blk_cell HX.out.b18 7).trans rfl; have hf7_ := blk_frozen HX.out.b18 7; have hq8_ : w2.cell? ⟨w.heap.size + 1, 8, none⟩ = some (.int .i64 0) := (blk_cell HX.out.b18 8).trans rfl; have hf8_ := blk_frozen HX.out.b18 8; have hq9_ : w2.cell? ⟨w.heap.size + 1, 9, none⟩ = some (.int .i64 0) := (blk_cell HX.out.b18 9).trans rfl; have hf9_ := blk_frozen HX.out.b18 9; have hq10_ : w2.cell? ⟨w.heap.size + 1, 10, none⟩ = some (.int .i64 0) := (blk_cell HX.out.b18 10).trans rfl; have hf10_ := blk_frozen HX.out.b18 10; have hs0_ : w2.cell? ⟨wr.heap.size, 0, none⟩ = some _ := (blk_cell HS.out 0).trans rfl; have hs1_ : w2.cell? ⟨wr.heap.size, 1, none⟩ = some _ := (blk_cell HS.out 1).trans rfl; have hs2_ : w2.cell? ⟨wr.heap.size, 2, none⟩ = some _ := (blk_cell HS.out 2).trans rfl; have hs3_ : w2.cell? ⟨wr.heap.size, 3, none⟩ = some _ := (blk_cell HS.out 3).trans rfl; have hs4_ : w2.cell? ⟨wr.heap.size, 4, none⟩ = some _ := (blk_cell HS.out 4).trans rfl; have hs5_ : w2.cell? ⟨wr.heap.size, 5, none⟩ = some _ := (blk_cell HS.out 5).trans rfl; have hs6_ : w2.cell? ⟨wr.heap.size, 6, none⟩ = some _ := (blk_cell HS.out 6).trans rfl; have hs7_ : w2.cell? ⟨wr.heap.size, 7, none⟩ = some _ := (blk_cell HS.out 7).trans rfl; have hs8_ : w2.cell? ⟨wr.heap.size, 8, none⟩ = some _ := (blk_cell HS.out 8).trans rfl; have hs9_ : w2.cell? ⟨wr.heap.size, 9, none⟩ = some _ := (blk_cell HS.out 9).trans rfl; have hs10_ : w2.cell? ⟨wr.heap.size, 10, none⟩ = some _ := (blk_cell HS.out 10).trans rfl))
      have HB := Aside0.mk HX.out.hb
      refine bodyPost_ret (results_ct rfl _ _ (w.heap.size + 1) 64 #[.int .i64 p0, .int .i64 dst, .int .i64 1, .int .i64 0, .int .i64 tick, .int .i64 kind, .int .i64 a, .int .i64 b, .int .i64 c, .int .i64 d, .int .i64 m] (0, 0) _ rfl (by (with_reducible exact put11 _ _ _ _ _ _ _ _ _ _ _ _ _ _ _ _ _ _ _ _ _ _ HX.out.b18)) Try.underlying64 rfl (by kernel_rfl)) rfl ?_
      exact ⟨_, _, _, _, _, _, _, _, _, _, _, 0, rfl, HI.out, by (repeat (with_reducible first | exact HB.out | exact Below.refl _ _ | apply below_alloc | apply pw_below_drewN | apply below_drew1 | refine below_set ?_ (Nat.le_succ _) | refine below_set ?_ HZ.out))⟩
end Go.Proofs.Ytcjdnahgffkbdaa.Snx
