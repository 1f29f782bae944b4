/- A version with one more chunk has one more name; what is new is the name of this chunk alone, if it is new, and nothing goes: for all choices. -/
import Derived.Test.YtodhkbahjomfhaaCManifestAppends4
import Derived.Lib.SlicesCompact
import Derived.Lib.SliceRun
import Derived.StillTactics
import Derived.Test.YtodhkbahjomfhaaCManifestAppends3
import Derived.Test.YtodhkbahjomfhaaRows
import Derived.SliceStrings
import Derived.WalkKit
import Derived.ProofKit
import Derived.OpenShut
import Derived.ShutString
import Derived.ChangeOld
import Derived.Below
import Derived.SizedLaws
import Derived.Test.YtodhkbahjomfhaaCManifestAppends1
namespace Go.Proofs.Ytodhkbahjomfhaa.Q
attribute [local go_sem high] eqA78
open Go Go.RowKit Go.Sort Go.Lib Go.Proofs Go.Proofs.Ytodhkbahjomfhaa.Gfl Go.Proofs.YtodhkbahjomfhaaW.PrintWords Go.Proofs.YtodhkbahjomfhaaW.PrintLast Go.Proofs.YtodhkbahjomfhaaW.PrintMore
set_option linter.unusedVariables false
section
variable {α : Type} [Inhabited α] {k : Nat} {enc : α → List Value}
theorem setMany_set (hk : ∀ x, (enc x).length = k) (d : Array α) (i : Nat) (hi : i < d.size) (x : α) : setMany (flatK enc k d) (i * k) (enc x) = flatK enc k (d.setIfInBounds i x) := by
  refine ext_get! (by simp) fun t ht => ?_
  have ht' : t < d.size * k := by simpa using ht
  have k0 : 0 < k := by
    rcases Nat.eq_zero_or_pos k with h | h
    · subst h; simp at ht'
    · exact h
  rw [get_setMany _ _ _ t (by simpa using ht'), get_flatK _ _ _ t ht', get_flatK _ _ _ t (by simpa using ht'), hk]
  by_cases b : t / k = i
  · rw [if_pos ((blk_iff k i t k0).2 b), b, getElem!_set_same _ _ _ hi]
    congr 1
    rw [Nat.mod_eq_sub_div_mul, b]
  · rw [if_neg (fun h => b ((blk_iff k i t k0).1 h)), getElem!_set_other _ _ _ _ b]
theorem store_K (hk : ∀ x, (enc x).length = k) (w : World) (n blk : Nat) (dk : Array α) (i : Nat) (hi : i < dk.size) (x : α) :
    (putRowK enc k (Sort.ahead w n) blk 0 dk).setCells blk (i * k) (enc x) = putRowK enc k (Sort.ahead w n) blk 0 (dk.setIfInBounds i x) := by
  have hle : i * k + k ≤ dk.size * k := by
    have := Nat.mul_le_mul_right k (show i + 1 ≤ dk.size from hi)
    rwa [Nat.add_mul, Nat.one_mul] at this
  have := setCells_putRow (Sort.ahead w n) blk 0 (enc x) (i * k) (flatK enc k dk) (by rw [hk, size_flatK]; exact hle)
  rw [Nat.zero_add] at this
  unfold putRowK
  rw [this, setMany_set hk dk i hi x]
theorem R_beyond {d : Kd α} {e : Nat} {base : Nat} {ok : Nat → Prop} {g m cap : Nat} {ds : List α} (F : Flat d k enc) : ∀ (vs : List Value) (o : Nat) (w : World), m * k ≤ o → d.R e w base ok (.slice (some ⟨g, 0, none⟩) m cap) ds → d.R e (w.setCells g o vs) base ok (.slice (some ⟨g, 0, none⟩) m cap) ds
  | [], _, _, _, h => h
  | v :: r, o, w, ho, h => by
    refine R_beyond F r (o + 1) _ (by omega) ?_
    obtain ⟨h0, inner, hw, hr⟩ := h
    refine ⟨h0, inner, ?_, hr.imp_ (fun p c hp => by rw [F.op hp]; exact F.mkM _ _ _ _)⟩
    obtain ⟨hl, hw⟩ := hw
    refine ⟨hl, ?_⟩
    rcases hw with ⟨hv, _⟩ | ⟨g', cap', cur, hv, hg, hb, h1, h2, h3, h4⟩
    · cases hv
    · injection hv with e1 e2 e3
      injection e1 with e1
      injection e1 with e1
      subst e1 e2 e3
      refine .inr ⟨g, cap, cur.setIfInBounds o v, rfl, hg, ?_, h1, h2, by simpa using h3, ?_⟩
      · simp [World.setCell, Array.getElem?_modify, hb]
      · rw [← h4, F.sz, Array.toList_setIfInBounds, List.take_set_of_le (by rw [← F.sz]; rw [F.sz]; exact ho)]
theorem grown_setCells {g : Nat} : ∀ (vs : List Value) (o : Nat) (w : World), w.grownBy (w.setCells g o vs) (some g)
  | [], _, _ => ⟨rfl, rfl, rfl, Nat.le_refl _, fun _ _ _ => rfl⟩
  | v :: r, o, w => by
    have h1 : w.grownBy (w.setCell ⟨g, o, none⟩ v) (some g) := ⟨rfl, rfl, rfl, by simp [World.setCell], fun j hj hne => Below.heap_setCell _ _ _ _ (fun e => hne (by rw [e]))⟩
    have h2 := grown_setCells (g := g) r (o + 1) (w.setCell ⟨g, o, none⟩ v)
    exact ⟨h2.os.trans h1.os, h2.tape.trans h1.tape, h2.output.trans h1.output, Nat.le_trans h1.size h2.size, fun j hj hne => (h2.block j (Nat.lt_of_lt_of_le hj h1.size) hne).trans (h1.block j hj hne)⟩
end
theorem run_clearN (w : World) (ty : TypeId) (b o n c : Nat) (hn : 0 < n) (hc : ∀ j, j < n * 2 → (w.cell? ⟨b, o + j, none⟩).isSome = true) (hf : ∀ j, j < n * 2 → w.frozen? ⟨b, o + j, none⟩ = false) :
    (Builtin.clear_ #[30] ty #[.slice (some ⟨b, o, none⟩) n c]).run Try.prog w = .ok (.tuple #[]) (w.setCells b o (List.replicate (n * 2) (.int .i64 0))) := by
  have hz : ∀ w, (zeroValue 78).run Try.prog w = .ok (.agg #[.int .i64 0, .int .i64 0]) w := Try.zeroValue78
  have hzc : (Builtin.zeroCells (Value.agg #[.int .i64 0, .int .i64 0]).cells n).toList = List.replicate (n * 2) (.int .i64 0) := by
    simp [Builtin.zeroCells, Value.cells]
    apply List.ext_getElem
    · simp
    · intro i h1 h2
      simp
      rcases Nat.mod_two_eq_zero_or_one i with h | h <;> simp [h]
  have hst := run_storeCells_cells (P := Try.prog) b o (List.replicate (n * 2) (.int .i64 0)) 0 w (by simpa using hc) (by simpa using hf) (by intro v hv'; rw [List.eq_of_mem_replicate hv']; rfl)
  simp only [Nat.add_zero] at hst
  obtain ⟨m, rfl⟩ : ∃ m, n = m + 1 := ⟨n - 1, by omega⟩
  simp [Builtin.clear_, run_underlying Try.underlying30, hz, hzc, hst]
/-- The two cells of a name of the row. -/
theorem cellN {w : World} {g : Nat} {d : Array S78} (h : HoldsK enN 2 w g 0 d) {i : Nat} (hi : i < d.size) :
    (w.cell? ⟨g, i * 2, none⟩ = some (.int .i64 d[i]!.f0) ∧ w.frozen? ⟨g, i * 2, none⟩ = false) ∧ (w.cell? ⟨g, i * 2 + 1, none⟩ = some (.int .i64 d[i]!.f1) ∧ w.frozen? ⟨g, i * 2 + 1, none⟩ = false) := by
  have h0 := h.cell hi (c := 0) (by decide)
  have h1 := h.cell hi (c := 1) (by decide)
  simp only [Nat.zero_add, Nat.add_zero] at h0 h1
  exact ⟨h0, h1⟩
set_option maxHeartbeats 4000000 in
set_option maxRecDepth 1000000 in
theorem compactN_arr (g cap : Nat) (d : Array S78) (w : World) (hH : HoldsK enN 2 w g 0 d) (hsz : d.size ≤ 1000000) (hcap : d.size ≤ cap) (hcm : cap ≤ maxLen) :
    Calls Try.prog 107 #[.slice (some ⟨g, 0, none⟩) d.size cap] w fun e w' => e = .returned (.slice (some ⟨g, 0, none⟩) (compactUpTo d d.size).length cap) ∧
      ∃ q dk vs, w' = (putRowK enN 2 (Sort.ahead w q) g 0 dk).setCells g ((compactUpTo d d.size).length * 2) vs ∧ dk.size = d.size ∧ dk.toList.take (compactUpTo d d.size).length = compactUpTo d d.size := by
  have mixed : (Try.prog).follows .mixedOrders = true := by kernel_rfl
  have hu78 := Try.underlying78
  have same : ∀ q, (∀ j, j < d.size → keeps d j = true) → (compactUpTo d d.size).length = d.size ∧ ∃ q' dk vs, w.drewN q = (putRowK enN 2 (Sort.ahead w q') g 0 dk).setCells g ((compactUpTo d d.size).length * 2) vs ∧ dk.size = d.size ∧ dk.toList.take (compactUpTo d d.size).length = compactUpTo d d.size := by
    intro q hall
    have e : compactUpTo d d.size = d.toList := by rw [compactUpTo_all d _ hall, range_map_get]
    rw [e]
    exact ⟨by simp, q, d, [], (putRowK_self enN 2 (Sort.ahead w q) g 0 d (holdsK_ahead enN 2 w q g 0 d hH)).symm, rfl, by rw [List.take_length]⟩
  have HS := Aside0.mk same
  clear same
  by_cases h2 : d.size < 2
  · have hd2 : decide ((d.size : Int) < 2) = true := decide_eq_true (by omega)
    have HH := Aside0.mk hH
    clear hH
    go_enter Try.func107, Try.ntmps107
    go_wp2
    go_ret
    obtain ⟨e1, e2⟩ := HS.out 0 (fun j hj => keeps_lt_one d j (by omega))
    exact ⟨by rw [e1]; rfl, e2⟩
  · have hd2 : decide ((d.size : Int) < 2) = false := decide_eq_false (by omega)
    have H2 := Aside0.mk h2
    clear h2
    go_enter Try.func107, Try.ntmps107
    go_wp2
    go_loopg [3] d.size (fun gk s3 wr => ∃ k q : Nat, 1 ≤ k ∧ k ≤ d.size ∧ d.size - k ≤ gk ∧ s3 = .int .i64 k ∧ wr = w.drewN q ∧ Aside0 (∀ j, j < k → keeps d j = true))
    case atStart => exact ⟨1, 0, Nat.le_refl _, by have := H2.out; omega, by omega, rfl, rfl, ⟨keeps_lt_one d⟩⟩
    case round =>
      obtain ⟨k, q, hk1, hk, hg, rfl, rfl, hall⟩ := hrel
      by_cases hlt : k < d.size
      · obtain ⟨⟨c1, f1⟩, c1', f1'⟩ := cellN hH hlt
        obtain ⟨⟨c0, f0⟩, c0', f0'⟩ := cellN hH (show k - 1 < d.size by omega)
        have HH := Aside0.mk hH
        clear hH
        generalize hx : d[k]! = x at c1 c1'
        generalize hy : d[k - 1]! = y at c0 c0'
        have B : Aside0 (d[k]! = x ∧ d[k - 1]! = y) := ⟨⟨hx, hy⟩⟩
        clear hx hy
        obtain ⟨x0, x1⟩ := x
        obtain ⟨y0, y1⟩ := y
        simp only at c1 c1' c0 c0'
        by_cases hdup : (x0 == y0 && (x1 == y1)) = true
        · go_wp2_with fail
          go_quiet (fail)
          go_wp2
          clear c0 c1 f0 f1 c0' c1' f0' f1'
          have HD : d[k]! = d[k - 1]! := by
            rw [B.out.1, B.out.2]
            simp only [Bool.and_eq_true, beq_iff_eq] at hdup
            rw [hdup.1, hdup.2]
          have HK := Aside0.mk (keeps_neg (by omega) HD)
          clear HD hdup B
          go_loopg [3, 5] d.size (fun gk2 s3 s5 wr => ∃ (kk k2 q2 : Nat) (dk : Array S78), s3 = .int .i64 kk ∧ s5 = .int .i64 k2 ∧ 1 ≤ k2 ∧ k + k2 ≤ d.size ∧ d.size - (k + k2) ≤ gk2 ∧ Aside0 (wr = putRowK enN 2 (Sort.ahead w q2) g 0 dk) ∧ Aside0 (CompInv d (k + k2) kk dk))
          case atStart => exact ⟨k, 1, q + nq, d, rfl, rfl, Nat.le_refl _, by omega, by omega, ⟨(putRowK_self enN 2 (Sort.ahead w (q + nq)) g 0 d (holdsK_ahead enN 2 w _ g 0 d HH.out)).symm⟩, ⟨CompInv.start hall.out HK.out⟩⟩
          case round =>
            obtain ⟨kk, k2, q2, dk, rfl, rfl, h1, hle, hg2, W2, I2⟩ := hrel
            have hkk := I2.out.lt
            have hds := I2.out.size
            have hHk : HoldsK enN 2 wr g 0 dk := by rw [W2.out]; exact holdsK_putRowK enN 2 _ g 0 d dk (holdsK_ahead enN 2 w q2 g 0 d HH.out) hds
            by_cases hlt2 : k + k2 < d.size
            · obtain ⟨⟨cm, fm⟩, cm', fm'⟩ := cellN hHk (show k + k2 < dk.size by omega)
              obtain ⟨⟨cp, fp⟩, cp', fp'⟩ := cellN hHk (show k + k2 - 1 < dk.size by omega)
              obtain ⟨⟨ck, fk⟩, ck', fk'⟩ := cellN hHk (show kk < dk.size by omega)
              rw [I2.out.high (k + k2) (by omega)] at cm cm'
              rw [I2.out.high (k + k2 - 1) (by omega)] at cp cp'
              rw [show (k + k2) * 2 = k * 2 + k2 * 2 by omega] at cm fm cm' fm'
              rw [show (k + k2 - 1) * 2 = k * 2 + (k2 - 1) * 2 by omega] at cp fp cp' fp'
              clear hHk
              generalize hu : d[k + k2]! = u at cm cm'
              generalize hv : d[k + k2 - 1]! = v at cp cp'
              generalize dk[kk]! = old at ck ck'
              have C : Aside0 (d[k + k2]! = u ∧ d[k + k2 - 1]! = v) := ⟨⟨hu, hv⟩⟩
              clear hu hv
              obtain ⟨u0, u1⟩ := u
              obtain ⟨v0, v1⟩ := v
              simp only at cm cm' cp cp'
              by_cases huv : (u0 == v0 && (u1 == v1)) = true
              · go_wp2_with fail
                go_quiet (fail)
                go_wp2
                go_roundg (d.size - (k + (k2 + 1)))
                case measure => omega
                case rel =>
                  have HE : d[k + k2]! = d[k + k2 - 1]! := by
                    rw [C.out.1, C.out.2]
                    simp only [Bool.and_eq_true, beq_iff_eq] at huv
                    rw [huv.1, huv.2]
                  exact ⟨kk, k2 + 1, q2 + nq, dk, rfl, by go_num, by omega, by omega, Nat.le_refl _, ⟨by rw [W2.out]; exact putRowK_drewN enN 2 w q2 nq g 0 dk⟩, ⟨I2.out.skip (keeps_neg (by omega) HE)⟩⟩
              · have hne : (u0 == v0 && (u1 == v1)) = false := by simpa using huv
                go_wp2_with fail
                go_quiet (fail)
                go_wp2
                go_roundg (d.size - (k + (k2 + 1)))
                case measure => omega
                case rel =>
                  have HE : d[k + k2]! ≠ d[k + k2 - 1]! := by
                    rw [C.out.1, C.out.2]
                    intro hh
                    injection hh with h5 h6
                    subst h5 h6
                    simp at hne
                  refine ⟨kk + 1, k2 + 1, q2 + nq, dk.setIfInBounds kk d[k + k2]!, by go_num, by go_num, by omega, by omega, Nat.le_refl _, ⟨?_⟩, ⟨I2.out.keep hlt2 (keeps_pos HE)⟩⟩
                  have hs := store_K (enc := enN) (k := 2) (fun _ => rfl) w (q2 + nq) g dk kk (by omega) d[k + k2]!
                  rw [← hs, ← putRowK_drewN, ← W2.out, C.out.1]
                  rfl
            · have hend : k + k2 = d.size := by omega
              have hcl : ∀ ty, (Builtin.clear_ #[30] ty #[.slice (some ⟨g, kk * 2, none⟩) (d.size - kk) (cap - kk)]).run Try.prog wr = .ok (.tuple #[]) (wr.setCells g (kk * 2) (List.replicate ((d.size - kk) * 2) (.int .i64 0))) := by
                intro ty
                refine run_clearN wr ty g (kk * 2) (d.size - kk) (cap - kk) (by omega) (fun j hj => ?_) (fun j hj => ?_)
                · have := (hHk (kk * 2 + j) (by simp; omega)).1
                  rw [Nat.zero_add] at this
                  rw [this]
                  rfl
                · have := (hHk (kk * 2 + j) (by simp; omega)).2
                  rwa [Nat.zero_add] at this
              clear hHk
              go_wp2
              go_ret
              have hI := I2.out
              rw [hend] at hI
              refine ⟨by rw [hI.len]; rfl, q2, dk, _, by rw [hI.len, ← W2.out], hds, ?_⟩
              apply List.ext_getElem?
              intro j
              by_cases hj : j < kk
              · rw [hI.len, List.getElem?_take_of_lt hj, hI.low j hj, Array.getElem?_toList, Array.getElem?_eq_getElem (by omega), getElem!_pos dk j (by omega)]
              · rw [hI.len, List.getElem?_eq_none (by rw [List.length_take]; omega), List.getElem?_eq_none (by rw [hI.len]; omega)]
        · have hne : (x0 == y0 && (x1 == y1)) = false := by simpa using hdup
          go_wp2_with fail
          go_quiet (fail)
          go_wp2
          go_roundg (d.size - (k + 1))
          case measure => omega
          case rel =>
            refine ⟨k + 1, q + nq, by omega, by omega, Nat.le_refl _, by go_num, rfl, ⟨fun j hj => ?_⟩⟩
            by_cases e : j = k
            · subst e
              refine keeps_pos ?_
              rw [B.out.1, B.out.2]
              intro hh
              injection hh with h5 h6
              subst h5 h6
              simp at hne
            · exact hall.out j (by omega)
      · have hkd : k = d.size := by omega
        subst hkd
        have HH := Aside0.mk hH
        clear hH
        go_wp2
        go_ret
        obtain ⟨e1, e2⟩ := HS.out q hall.out
        exact ⟨by rw [e1]; rfl, e2⟩
/-- At no name: nothing turns. -/
theorem compactN_none (w : World) : Calls Try.prog 107 #[.slice none 0 0] w fun e w' => e = .returned (.slice none 0 0) ∧ w' = w := by
  go_enter Try.func107, Try.ntmps107
  go_wp2
  go_ret
  exact ⟨rfl, rfl⟩
theorem compactN_calls {w0 w : World} {base : Nat} {ok : Nat → Prop} {v : Value} {xs : List S78} (h : Kd.R k78 78 w base ok v xs) (hB : Below base w0 w) (hl : xs.length ≤ 1000000) :
    Calls Try.prog 107 #[v] w fun en w' => ∃ v', en = .returned v' ∧ Kd.R k78 78 w' base ok v' (Lib.compact xs) ∧ w.grownBy w' v.ownBlock ∧ Below base w0 w' := by
  rcases R_holds flatN h with ⟨rfl, rfl⟩ | ⟨g, cap, cur, rfl, hok, hg, hb, h1, h2, h3, hH⟩
  · refine (compactN_none w).mono ?_
    rintro en w' ⟨rfl, rfl⟩
    exact ⟨_, rfl, by simpa [Lib.compact, Lib.compactUpTo] using h, ⟨rfl, rfl, rfl, Nat.le_refl _, fun _ _ _ => rfl⟩, hB⟩
  · have hcon := compactN_arr g cap xs.toArray w hH (by simpa using hl) (by simpa using h1) h2
    have hsz : xs.toArray.size = xs.length := by simp
    rw [hsz] at hcon
    refine hcon.mono ?_
    rintro en w' ⟨rfl, q, dk, vs, rfl, hd, ht⟩
    change dk.toList.take (Lib.compact xs).length = Lib.compact xs at ht
    have hle : (Lib.compact xs).length ≤ dk.size := by
      have h5 := congrArg List.length ht
      rw [List.length_take] at h5
      exact Nat.le_trans (Nat.le_of_eq h5.symm) (Nat.le_trans (Nat.min_le_right _ _) (Nat.le_of_eq Array.length_toList))
    have hP := R_put (w := w) (n := q) (os := #[]) (m := (Lib.compact xs).length) (base := base) (ok := ok) flatN dk hb hok hg (by rw [hd]; exact h1) h2 h3 hle
    have hG := grown_put (w := w) (g := g) (n := q) (os := #[]) (k := 2) (enc := enN) dk
    rw [grow_empty] at hP hG
    rw [ht] at hP
    have hR := R_beyond flatN vs ((Lib.compact xs).length * 2) _ (Nat.le_refl _) hP
    have hG2 := grown_setCells (g := g) vs ((Lib.compact xs).length * 2) (putRowK enN 2 (Sort.ahead w q) g 0 dk)
    have hG3 : w.grownBy ((putRowK enN 2 (Sort.ahead w q) g 0 dk).setCells g ((Lib.compact xs).length * 2) vs) (some g) := ⟨hG2.os.trans hG.os, hG2.tape.trans hG.tape, hG2.output.trans hG.output, Nat.le_trans hG.size hG2.size, fun j hj hne => (hG2.block j (Nat.lt_of_lt_of_le hj hG.size) hne).trans (hG.block j hj hne)⟩
    exact ⟨_, rfl, hR, hG3, hB.grown hG3 (Nat.le_trans hg (Nat.le_of_lt (Array.getElem?_eq_some_iff.1 hb).1)) (fun j hj => by cases hj; exact hg)⟩
end Go.Proofs.Ytodhkbahjomfhaa.Q

namespace Go.Proofs.Ytodhkbahjomfhaa.Q
open Go Go.RowKit Go.Proofs.YtodhkbahjomfhaaW.PrintWords Go.Proofs.YtodhkbahjomfhaaW.PrintLast Go.Proofs.YtodhkbahjomfhaaW.PrintMore
set_option linter.unusedVariables false
/-- slices.Clone at names. -/
def api_Name_106.f (l : List S78) : Option (List S78) := if l.length ≤ 1000000 then some l else none
theorem name_KM {w : World} {base : Nat} {ok : Nat → Prop} (x : S78) (cs : List Value) (h : k78.K w x cs) : k78.M w base ok x cs := by
  obtain rfl := k78_open h
  exact k78_mkM _ _ _ _
set_option maxHeartbeats 1000000 in
set_option maxRecDepth 100000 in
theorem api_Name_106.calls (A0 : Option Addr) (c0 : Nat) (l0 : List S78) (r : List S78) (w : World) (hr0 : Kd.C k78 w A0 l0.length l0) (hc0 : l0.length ≤ c0) (h : api_Name_106.f l0 = some r) :
    Calls Try.prog 106 #[.slice A0 l0.length c0] w fun e w' => ∃ v0_ : Value, e = .returned v0_ ∧ Kd.R k78 78 w' w.heap.size (fun _ => True) v0_ r ∧ Below w.heap.size w w' := by
  unfold api_Name_106.f at h
  split at h
  case isFalse => cases h
  case isTrue hle =>
  obtain rfl := Option.some.inj h
  clear h
  have q22 := fun (w : World) (a : Option Addr) (n c n' c' : Nat) => Lib.run_eql_slice_nil (P := Try.prog) w 30 78 a n c n' c' Try.underlying30
  have HR := Aside0.mk hr0
  have HL := Aside0.mk hle
  have HC := Aside0.mk hc0
  clear hr0 hle hc0
  cases A0 with
  | none =>
    have hn : l0 = [] := by
      rcases Nat.eq_zero_or_pos l0.length with e | e
      · exact List.eq_nil_of_length_eq_zero e
      · obtain ⟨ad, e2, -⟩ := HR.out.2.2 e
        cases e2
    subst hn
    go_enter Try.func106, Try.ntmps106
    go_wp2
    go_ret
    exact ⟨_, rfl, Kd.R_nil _ _ _ _ _, Below.refl _ _⟩
  | some ad =>
    go_enter Try.func106, Try.ntmps106
    go_wp2_with (at_builtin; refine Kd.R_append_rows k78 (w0 := w) w.heap.size rfl (.tmp 5) (.tmp 6) 30 78 (.agg #[(.int .i64 0), (.int .i64 0)]) 16 rfl Try.underlying30 info78 rfl (by decide) (by omega) (.slice (some ⟨w.heap.size, 0, none⟩) 0 0) ([] : List S78) l0 _ _ _ (fun _ => True) (fun _ => False) rfl rfl ?aO ?aR (fun x cs hx => name_KM x cs hx) (fun _ h => h.elim) ?aF ?aB ?aS ?aL ?_)
    case aO => exact ⟨fun _ _ => trivial, [], World.ownsRow_made w #[] 0 (Nat.le_refl _) (Nat.zero_le _) (by simp), Reps.none _ _⟩
    case aR => exact Kd.C_alloc HR.out _
    case aF => exact fun _ _ => trivial
    case aB => exact below_alloc (Below.refl _ _) _
    case aS => exact below_size (below_alloc (Below.refl _ _) _)
    case aL => have := HL.out; simp only [List.length_nil]; omega
    intro v1 w1 ho hb hg hat
    go_wp2
    go_ret
    exact ⟨_, rfl, by simpa using ho, hb⟩
end Go.Proofs.Ytodhkbahjomfhaa.Q

namespace Go.Proofs.Ytodhkbahjomfhaa.Q
open Go.RowKit Go.Proofs.YtodhkbahjomfhaaW.PrintWords Go.Proofs.YtodhkbahjomfhaaW.PrintLast Go.Proofs.YtodhkbahjomfhaaW.PrintMore Go.Proofs.Ytodhkbahjomfhaa.Gput Go.Proofs.Ytodhkbahjomfhaa.Gputl
attribute [local go_sem] max2_int min2_int max_two min_two max_three min_three max_four min_four   -- for this text's walks alone
set_option linter.unusedVariables false
set_option linter.unusedSimpArgs false
attribute [local go_sem high] eqA78
noncomputable def api_Name_122.l0 : Nat → List (S78) → Int → Int → Int → Int → Option (Int)
  | 0, _, _, _, _, _ => none
  | k + 1, x0, x7, x8, x611000, x611001 => if x8 < x7 then (if 0 ≤ x8 then (if x8 < (x0.length : Int) then (if (x611000 == ((rd_T78 x0 x8).f0) && (x611001 == ((rd_T78 x0 x8).f1))) = true then (some x8) else (api_Name_122.l0 k x0 x7 (wrap64 (x8 + 1)) x611000 x611001)) else (none)) else (none)) else (some (-1))
noncomputable def api_Name_122.f (k : Nat) (l0 : List (S78)) (a1_0 : Int) (a1_1 : Int) : Option (Int) := api_Name_122.l0 k l0 (l0.length : Int) 0 a1_0 a1_1
theorem api_Name_122.mono_l : ∀ k, (∀ y0 y1 y2 y3 y4, LeO (api_Name_122.l0 k y0 y1 y2 y3 y4) (api_Name_122.l0 (k + 1) y0 y1 y2 y3 y4))
  | 0 => fun _ _ _ _ _ r h => by simp [api_Name_122.l0] at h
  | k + 1 => by
    have ih0 := api_Name_122.mono_l k
    · intro y0 y1 y2 y3 y4
      unfold api_Name_122.l0
      repeat' first
      | (with_reducible exact ih0 _ _ _ _ _)
      | (with_reducible exact LeO.refl _)
      | (with_reducible exact LeO.none _)
      | (with_reducible refine LeO.ite ?_ ?_)
      | (with_reducible refine LeO.bind ?_ (fun _ => ?_))
      | exact ih0 _ _ _ _ _
      | exact LeO.none _
      | refine LeO.ite ?_ ?_
      | refine LeO.bind ?_ (fun _ => ?_)
theorem api_Name_122.mono : ∀ a0 a1 a2 k, LeO (api_Name_122.f k a0 a1 a2) (api_Name_122.f (k + 1) a0 a1 a2) := by
  intro a0 a1 a2 k
  have ih0 := api_Name_122.mono_l k
  unfold api_Name_122.f
  repeat' first
      | (with_reducible exact ih0 _ _ _ _ _)
      | (with_reducible exact LeO.refl _)
      | (with_reducible exact LeO.none _)
      | (with_reducible refine LeO.ite ?_ ?_)
      | (with_reducible refine LeO.bind ?_ (fun _ => ?_))
      | exact ih0 _ _ _ _ _
      | exact LeO.none _
      | refine LeO.ite ?_ ?_
      | refine LeO.bind ?_ (fun _ => ?_)
set_option maxHeartbeats 8000000 in
set_option maxRecDepth 100000 in
theorem api_Name_122.calls (k : Nat) (A0 : Option Addr) (c0 : Nat) (l0 : List (S78)) (a1_0 : Int) (a1_1 : Int) (r : Int) (w : World) (hr0 : Kd.C k78 w A0 l0.length l0) (hc0 : l0.length ≤ c0) (h : api_Name_122.f k l0 a1_0 a1_1 = some r) :
    Calls Try.prog 122 #[.slice A0 l0.length c0, .agg #[.int .i64 a1_0, .int .i64 a1_1]] w fun e w' => e = .returned (.int .i64 r) ∧ Below w.heap.size w w' := by
  have hu78 := Try.underlying78
  have HR0 := Aside0.mk hr0
  have HC0 := Aside0.mk hc0
  clear hr0 hc0
  have HB := Aside0.mk (Below.refl w.heap.size w)
  have H : (api_Name_122.l0 k l0 (l0.length : Int) 0 a1_0 a1_1) = some r := h
  clear h
  have H' := Aside0.mk H
  clear H
  go_enter Try.func122, Try.ntmps122
  go_wp2_with (first | ((with_reducible refine gate_dst (N := 3) rfl ?_); refine box_event ?hg (N := 3) ?hd (cs := #[.int .i64 a1_0, .int .i64 a1_1]) (t := 78) ?hr ?_; (case hd => rfl); (case hg => rfl); (case hr => first | (go_simp; done) | (go_simp; rfl)); intro gb610 hg w3 hbox hb; have n0_ := Aside0.mk (below_step (by repeat (first | (with_reducible first | exact HB.out | apply below_alloc | apply pw_below_drewN | apply below_drew1) | exact HB.out)) hb); have n1_ := Aside0.mk (hbox); have n2_ := Aside0.mk ((by rw [hg]; exact (below_size (by repeat (first | (with_reducible first | exact HB.out | apply below_alloc | apply pw_below_drewN | apply below_drew1) | exact HB.out))) : w.heap.size ≤ gb610)); have n3_ := Aside0.mk ((by rw [hg]; exact (below_size (by repeat (first | (with_reducible first | exact HB.out | apply below_alloc | apply pw_below_drewN | apply below_drew1) | exact HB.out))) : w.heap.size ≤ gb610)); clear HB; have HB := n0_; have BK610 := n1_; have GW610 := n2_; have GE610 := n3_; clear n0_ n1_ n2_ n3_; clear hb hbox hg))
  repeat (go_quiet (first | ((with_reducible refine gate_dst (N := 3) rfl ?_); refine box_event ?hg (N := 3) ?hd (cs := #[.int .i64 a1_0, .int .i64 a1_1]) (t := 78) ?hr ?_; (case hd => rfl); (case hg => rfl); (case hr => first | (go_simp; done) | (go_simp; rfl)); intro gb610 hg w3 hbox hb; have n0_ := Aside0.mk (below_step (by repeat (first | (with_reducible first | exact HB.out | apply below_alloc | apply pw_below_drewN | apply below_drew1) | exact HB.out)) hb); have n1_ := Aside0.mk (hbox); have n2_ := Aside0.mk ((by rw [hg]; exact (below_size (by repeat (first | (with_reducible first | exact HB.out | apply below_alloc | apply pw_below_drewN | apply below_drew1) | exact HB.out))) : w.heap.size ≤ gb610)); have n3_ := Aside0.mk ((by rw [hg]; exact (below_size (by repeat (first | (with_reducible first | exact HB.out | apply below_alloc | apply pw_below_drewN | apply below_drew1) | exact HB.out))) : w.heap.size ≤ gb610)); clear HB; have HB := n0_; have BK610 := n1_; have GW610 := n2_; have GE610 := n3_; clear n0_ n1_ n2_ n3_; clear hb hbox hg)); try go_wp2_with (first | ((with_reducible refine gate_dst (N := 3) rfl ?_); refine box_event ?hg (N := 3) ?hd (cs := #[.int .i64 a1_0, .int .i64 a1_1]) (t := 78) ?hr ?_; (case hd => rfl); (case hg => rfl); (case hr => first | (go_simp; done) | (go_simp; rfl)); intro gb610 hg w3 hbox hb; have n0_ := Aside0.mk (below_step (by repeat (first | (with_reducible first | exact HB.out | apply below_alloc | apply pw_below_drewN | apply below_drew1) | exact HB.out)) hb); have n1_ := Aside0.mk (hbox); have n2_ := Aside0.mk ((by rw [hg]; exact (below_size (by repeat (first | (with_reducible first | exact HB.out | apply below_alloc | apply pw_below_drewN | apply below_drew1) | exact HB.out))) : w.heap.size ≤ gb610)); have n3_ := Aside0.mk ((by rw [hg]; exact (below_size (by repeat (first | (with_reducible first | exact HB.out | apply below_alloc | apply pw_below_drewN | apply below_drew1) | exact HB.out))) : w.heap.size ≤ gb610)); clear HB; have HB := n0_; have BK610 := n1_; have GW610 := n2_; have GE610 := n3_; clear n0_ n1_ n2_ n3_; clear hb hbox hg)))
  go_loopg [8] k (fun kq v8 w' => ∃ (x8_1 : Int), v8 = .int .i64 x8_1 ∧ Aside0 (api_Name_122.l0 kq l0 (l0.length : Int) x8_1 a1_0 a1_1 = some r) ∧ Aside0 (kq ≤ k) ∧ Aside0 (w'.heap[gb610]? = some (.cells #[.int .i64 a1_0, .int .i64 a1_1] 78 (0, 0))) ∧ Aside0 (Below w.heap.size w w'))
  case atStart => exact ⟨(0), (by first | rfl | (simp; done) | (simp [*]; done)), H', ⟨Nat.le_refl _⟩, ⟨by (with_reducible repeat (first | refine blk_drewN ?_ _ | refine blk_drew ?_ | refine blk_alloc ?_ _)); exact BK610.out⟩, ⟨by repeat (first | (with_reducible first | exact HB.out | apply below_alloc | apply pw_below_drewN | apply below_drew1 | refine below_set ?_ GE610.out) | exact HB.out)⟩⟩
  case round =>
    clear H'
    try clear c1
    try clear p2
    obtain ⟨x8_1, rfl, HA, HK1, BK610, HB⟩ := hrel
    cases gk with
    | zero => exact absurd HA.out (by simp [api_Name_122.l0])
    | succ k1 =>
      have H := HA.out
      clear HA
      simp only [api_Name_122.l0] at H
      by_cases c4 : x8_1 < (l0.length : Int)
      · rw [if_pos c4] at H
        have c4b0 : decide (x8_1 < (l0.length : Int)) = true := decide_eq_true c4
        clear c4
        by_cases c5 : 0 ≤ x8_1
        · rw [if_pos c5] at H
          have c5b0 : decide (0 ≤ x8_1) = true := decide_eq_true c5
          clear c5
          by_cases c6 : x8_1 < (l0.length : Int)
          · rw [if_pos c6] at H
            have c6b0 : decide (x8_1 < (l0.length : Int)) = true := decide_eq_true c6
            clear c6
            by_cases c7 : (a1_0 == ((rd_T78 l0 x8_1).f0) && (a1_1 == ((rd_T78 l0 x8_1).f1))) = true
            · rw [if_pos c7] at H
              have c7b0 : (a1_0 == ((rd_T78 l0 x8_1).f0) && (a1_1 == ((rd_T78 l0 x8_1).f1))) = true := c7
              (try (have c7b1 : decide (a1_0 = ((rd_T78 l0 x8_1).f0) && (a1_1 == ((rd_T78 l0 x8_1).f1))) = true := by simpa using c7))
              (try (have c7b2 : (a1_0 == ((rd_T78 l0 x8_1).f0) && (a1_1 == ((rd_T78 l0 x8_1).f1))) = true := by simpa using c7))
              clear c7
              obtain rfl := Option.some.inj H
              have hcz8_0 : wr.cell? ⟨gb610, 0, none⟩ = some (.int .i64 a1_0) := (blk_cell BK610.out 0).trans rfl
              have hcz8_1 : wr.cell? ⟨gb610, 1, none⟩ = some (.int .i64 a1_1) := (blk_cell BK610.out 1).trans rfl
              have hfz8_0 := blk_frozen BK610.out 0
              have hfz8_1 := blk_frozen BK610.out 1
              have p611 : 0 ≤ (x8_1 : Int) := of_decide_eq_true (by first | (with_reducible assumption) | assumption)
              have q611 : x8_1 < (l0.length : Int) := of_decide_eq_true (by first | (with_reducible assumption) | assumption)
              obtain ⟨ad611, e611, hx611_0, hx611_1⟩ := at_T78 HR0.out x8_1 p611 q611
              cases e611
              replace hx611_0 := (HB.out.cell (World.block_lt_of_cell? w _ hx611_0)).trans hx611_0
              replace hx611_1 := (HB.out.cell (World.block_lt_of_cell? w _ hx611_1)).trans hx611_1
              replace p611 := eq_true p611
              replace q611 := eq_true q611
              go_wp2
              repeat (go_quiet (fail); try go_wp2)
              go_ret
              exact ⟨by first | rfl | (simp [errW_none, errW_some] <;> rfl) | (simp [*, errW_none, errW_some] <;> rfl), by repeat (first | (with_reducible first | exact HB.out | apply below_alloc | apply pw_below_drewN | apply below_drew1 | refine below_set ?_ GE610.out) | exact HB.out)⟩
            · rw [if_neg c7] at H
              have c7b0 : (a1_0 == ((rd_T78 l0 x8_1).f0) && (a1_1 == ((rd_T78 l0 x8_1).f1))) = false := by simpa using c7
              (try (have c7b1 : decide (a1_0 = ((rd_T78 l0 x8_1).f0) && (a1_1 == ((rd_T78 l0 x8_1).f1))) = false := by simpa using c7))
              (try (have c7b2 : (a1_0 == ((rd_T78 l0 x8_1).f0) && (a1_1 == ((rd_T78 l0 x8_1).f1))) = false := by simpa using c7))
              (try (have c7b3 : ¬ (a1_0 = ((rd_T78 l0 x8_1).f0) && (a1_1 == ((rd_T78 l0 x8_1).f1))) := by simpa using c7))
              clear c7
              have H' := Aside0.mk H
              clear H
              have hcz9_0 : wr.cell? ⟨gb610, 0, none⟩ = some (.int .i64 a1_0) := (blk_cell BK610.out 0).trans rfl
              have hcz9_1 : wr.cell? ⟨gb610, 1, none⟩ = some (.int .i64 a1_1) := (blk_cell BK610.out 1).trans rfl
              have hfz9_0 := blk_frozen BK610.out 0
              have hfz9_1 := blk_frozen BK610.out 1
              have p611 : 0 ≤ (x8_1 : Int) := of_decide_eq_true (by first | (with_reducible assumption) | assumption)
              have q611 : x8_1 < (l0.length : Int) := of_decide_eq_true (by first | (with_reducible assumption) | assumption)
              obtain ⟨ad611, e611, hx611_0, hx611_1⟩ := at_T78 HR0.out x8_1 p611 q611
              cases e611
              replace hx611_0 := (HB.out.cell (World.block_lt_of_cell? w _ hx611_0)).trans hx611_0
              replace hx611_1 := (HB.out.cell (World.block_lt_of_cell? w _ hx611_1)).trans hx611_1
              replace p611 := eq_true p611
              replace q611 := eq_true q611
              go_wp2
              repeat (go_quiet (fail); try go_wp2)
              go_roundg k1
              case measure => have := HK1.out; omega
              case rel => exact ⟨(wrap64 (x8_1 + 1)), (by first | rfl | (simp; done) | (simp [*]; done)), H', ⟨by have := HK1.out; omega⟩, ⟨by (with_reducible repeat (first | refine blk_drewN ?_ _ | refine blk_drew ?_ | refine blk_alloc ?_ _)); exact BK610.out⟩, ⟨by repeat (first | (with_reducible first | exact HB.out | apply below_alloc | apply pw_below_drewN | apply below_drew1 | refine below_set ?_ GE610.out) | exact HB.out)⟩⟩
          · rw [if_neg c6] at H
            exact absurd H (by simp)
        · rw [if_neg c5] at H
          exact absurd H (by simp)
      · rw [if_neg c4] at H
        have c4b0 : decide (x8_1 < (l0.length : Int)) = false := decide_eq_false c4
        clear c4
        obtain rfl := Option.some.inj H
        go_wp2
        repeat (go_quiet (fail); try go_wp2)
        go_ret
        exact ⟨by first | rfl | (simp [errW_none, errW_some] <;> rfl) | (simp [*, errW_none, errW_some] <;> rfl), by repeat (first | (with_reducible first | exact HB.out | apply below_alloc | apply pw_below_drewN | apply below_drew1 | refine below_set ?_ GE610.out) | exact HB.out)⟩
end Go.Proofs.Ytodhkbahjomfhaa.Q

namespace Go.Proofs.Ytodhkbahjomfhaa.Q
open Go.RowKit Go.Proofs.YtodhkbahjomfhaaW.PrintWords Go.Proofs.YtodhkbahjomfhaaW.PrintLast Go.Proofs.YtodhkbahjomfhaaW.PrintMore Go.Proofs.Ytodhkbahjomfhaa.Gput Go.Proofs.Ytodhkbahjomfhaa.Gputl
attribute [local go_sem] max2_int min2_int max_two min_two max_three min_three max_four min_four   -- for this text's walks alone
set_option linter.unusedVariables false
set_option linter.unusedSimpArgs false
noncomputable def api_Name_103.f (k : Nat) (l0 : List (S78)) (a1_0 : Int) (a1_1 : Int) : Option (Bool) := (api_Name_122.f k l0 a1_0 a1_1).bind fun t613 => (some (decide (t613 ≥ 0)))
theorem api_Name_103.mono : ∀ a0 a1 a2 k, LeO (api_Name_103.f k a0 a1 a2) (api_Name_103.f (k + 1) a0 a1 a2) := by
  intro a0 a1 a2 k
  unfold api_Name_103.f
  repeat' first
      | (with_reducible exact api_Name_122.mono _ _ _ _)
      | (with_reducible exact LeO.refl _)
      | (with_reducible exact LeO.none _)
      | (with_reducible refine LeO.ite ?_ ?_)
      | (with_reducible refine LeO.bind ?_ (fun _ => ?_))
      | exact api_Name_122.mono _ _ _ _
      | exact LeO.none _
      | refine LeO.ite ?_ ?_
      | refine LeO.bind ?_ (fun _ => ?_)
set_option maxHeartbeats 8000000 in
set_option maxRecDepth 100000 in
theorem api_Name_103.calls (k : Nat) (A0 : Option Addr) (c0 : Nat) (l0 : List (S78)) (a1_0 : Int) (a1_1 : Int) (r : Bool) (w : World) (hr0 : Kd.C k78 w A0 l0.length l0) (hc0 : l0.length ≤ c0) (h : api_Name_103.f k l0 a1_0 a1_1 = some r) :
    Calls Try.prog 103 #[.slice A0 l0.length c0, .agg #[.int .i64 a1_0, .int .i64 a1_1]] w fun e w' => e = .returned (.bool r) ∧ Below w.heap.size w w' := by
  have hu78 := Try.underlying78
  have HR0 := Aside0.mk hr0
  have HC0 := Aside0.mk hc0
  clear hr0 hc0
  have HB := Aside0.mk (Below.refl w.heap.size w)
  have H : ((api_Name_122.f k l0 a1_0 a1_1).bind fun t613 => (some (decide (t613 ≥ 0)))) = some r := h
  clear h
  replace H := Option.bind_eq_some_iff.mp H
  obtain ⟨t613, A30, H⟩ := H
  replace H : (some (decide (t613 ≥ 0))) = some r := H
  have A3 := Aside0.mk A30
  clear A30
  obtain rfl := Option.some.inj H
  go_enter Try.func103, Try.ntmps103
  go_wp2_with (first | ((with_reducible refine gate_dst (N := 3) rfl ?_); refine box_event ?hg (N := 3) ?hd (cs := #[.int .i64 a1_0, .int .i64 a1_1]) (t := 78) ?hr ?_; (case hd => rfl); (case hg => rfl); (case hr => first | (go_simp; done) | (go_simp; rfl)); intro gb612 hg w4 hbox hb; have n0_ := Aside0.mk (below_step (by repeat (first | (with_reducible first | exact HB.out | apply below_alloc | apply pw_below_drewN | apply below_drew1) | exact HB.out)) hb); have n1_ := Aside0.mk (hbox); have n2_ := Aside0.mk ((by rw [hg]; exact (below_size (by repeat (first | (with_reducible first | exact HB.out | apply below_alloc | apply pw_below_drewN | apply below_drew1) | exact HB.out))) : w.heap.size ≤ gb612)); have n3_ := Aside0.mk ((by rw [hg]; exact (below_size (by repeat (first | (with_reducible first | exact HB.out | apply below_alloc | apply pw_below_drewN | apply below_drew1) | exact HB.out))) : w.heap.size ≤ gb612)); clear HB; have HB := n0_; have BK612 := n1_; have GW612 := n2_; have GE612 := n3_; clear n0_ n1_ n2_ n3_; clear hb hbox hg; have hcz5_0 : w4.cell? ⟨gb612, 0, none⟩ = some (.int .i64 a1_0) := (blk_cell BK612.out 0).trans rfl; have hcz5_1 : w4.cell? ⟨gb612, 1, none⟩ = some (.int .i64 a1_1) := (blk_cell BK612.out 1).trans rfl; have hfz5_0 := blk_frozen BK612.out 0; have hfz5_1 := blk_frozen BK612.out 1) | ((with_reducible refine gate_callee (f := 122) rfl ?_); refine goesL_ (some 7) rfl rfl Try.func122 (by kernel_rfl) rfl #[.slice A0 l0.length c0, .agg #[.int .i64 a1_0, .int .i64 a1_1]] rfl (by (try simp only [List.map_toArray, List.map_cons, List.map_nil]); first | done | rfl | (simp only [List.length_drop, List.length_take]; rfl)) ?_; (with_reducible refine (api_Name_122.calls k _ _ l0 a1_0 a1_1 t613 _ ?side1 ?side2 A3.out).mono ?_); (case side1 => repeat (first | exact (Kd.C_below HR0.out HB.out) | (with_reducible refine Kd.C_alloc ?_ _) | (with_reducible refine Kd.C_drewN ?_ _) | (with_reducible refine Kd.C_drew ?_))); (case side2 => exact HC0.out); rintro e w6 ⟨rfl, hb⟩; refine ⟨_, rfl, ?_⟩; have n0_ := Aside0.mk (blk_below (g := gb612) (o := .cells #[.int .i64 a1_0, .int .i64 a1_1] 78 (0, 0)) (by (with_reducible repeat (first | refine blk_drewN ?_ _ | refine blk_drew ?_ | refine blk_alloc ?_ _)); exact BK612.out) hb); have n1_ := Aside0.mk (below_step (by repeat (first | (with_reducible first | exact HB.out | apply below_alloc | apply pw_below_drewN | apply below_drew1 | refine below_set ?_ GE612.out) | exact HB.out)) hb); clear BK612; clear HB; have BK612 := n0_; have HB := n1_; clear n0_ n1_; (try clear hb); (try clear hb2); (try clear hk); (try clear hi)))
  go_ret
  exact ⟨by first | rfl | (simp [errW_none, errW_some] <;> rfl) | (simp [*, errW_none, errW_some] <;> rfl), by repeat (first | (with_reducible first | exact HB.out | apply below_alloc | apply pw_below_drewN | apply below_drew1 | refine below_set ?_ GE612.out) | exact HB.out)⟩
end Go.Proofs.Ytodhkbahjomfhaa.Q

namespace Go.Proofs.Ytodhkbahjomfhaa.Q
open Go Go.RowKit Go.Sort Go.Lib Go.Proofs Go.Proofs.Ytodhkbahjomfhaa.Gfl Go.Proofs.YtodhkbahjomfhaaW.PrintWords Go.Proofs.YtodhkbahjomfhaaW.PrintLast Go.Proofs.YtodhkbahjomfhaaW.PrintMore
set_option linter.unusedVariables false
theorem rd_N (m : List S78) (i : Nat) (hi : i < m.length) : rd_T78 m (i : Int) = m[i] := by
  simp [rd_T78, List.getD, hi]
theorem idx_eq (m : List S78) (x : S78) (hm : m.length ≤ 1000000) : ∀ (n i k : Nat), m.length - i = n → i ≤ m.length → n + 1 ≤ k →
    ∃ j : Int, api_Name_122.l0 k m (m.length : Int) (i : Int) x.f0 x.f1 = some j ∧ (0 ≤ j ↔ x ∈ m.drop i) := by
  intro n
  induction n with
  | zero =>
    intro i k h1 h2 h3
    obtain ⟨k, rfl⟩ : ∃ k', k = k' + 1 := ⟨k - 1, by omega⟩
    have hi : i = m.length := by omega
    subst hi
    refine ⟨-1, ?_, by simp⟩
    simp only [api_Name_122.l0]
    rw [if_neg (by omega)]
  | succ n ih =>
    intro i k h1 h2 h3
    obtain ⟨k, rfl⟩ : ∃ k', k = k' + 1 := ⟨k - 1, by omega⟩
    have hi : i < m.length := by omega
    simp only [api_Name_122.l0]
    rw [if_pos (by omega), if_pos (by omega), if_pos (by omega), rd_N m i hi, List.drop_eq_getElem_cons hi]
    by_cases hx : x = m[i]
    · rw [if_pos (by rw [hx]; simp)]
      exact ⟨_, rfl, fun _ => by rw [hx]; exact List.mem_cons_self, fun _ => by omega⟩
    · rw [if_neg (by
        simp only [Bool.and_eq_true, beq_iff_eq]
        rintro ⟨h5, h6⟩
        apply hx
        cases x
        cases hmi : m[i]
        rw [hmi] at h5 h6
        simp only at h5 h6
        rw [h5, h6])]
      have hw : wrap64 ((i : Int) + 1) = ((i + 1 : Nat) : Int) := by
        unfold wrap64
        omega
      rw [hw]
      obtain ⟨j, hj, hh⟩ := ih (i + 1) k (by omega) (by omega) (by omega)
      refine ⟨j, hj, ?_⟩
      rw [hh, List.mem_cons]
      exact ⟨fun h => .inr h, fun h => h.resolve_left hx⟩
theorem con_eq (m : List S78) (x : S78) (hm : m.length ≤ 1000000) : api_Name_103.f (m.length + 1) m x.f0 x.f1 = some (decide (x ∈ m)) := by
  unfold api_Name_103.f api_Name_122.f
  obtain ⟨j, hj, hh⟩ := idx_eq m x hm m.length 0 (m.length + 1) rfl (Nat.zero_le _) (Nat.le_refl _)
  simp only [Int.ofNat_zero, Int.natCast_zero, List.drop_zero] at hj hh
  rw [hj]
  simp only [Option.bind_some, Option.some.injEq]
  exact decide_eq_decide.2 hh
/-- What is not in the other one. -/
noncomputable def notIn (l m : List S78) : List S78 := l.filter fun n => !decide (n ∈ m)
noncomputable def woN (l m : List S78) : List S78 := Lib.compact (srtN (notIn l m))
noncomputable def manifest_without.f (l0 l1 : List S78) : Option (List S78) := if l0.length ≤ 1000000 ∧ l1.length ≤ 1000000 then some (woN l0 l1) else none
theorem srtN_length (l : List S78) : (srtN l).length = l.length := List.length_mergeSort l
theorem compact_le (l : List S78) : (Lib.compact l).length ≤ l.length := by
  unfold Lib.compact Lib.compactUpTo
  rw [List.length_map]
  exact Nat.le_trans (List.length_filter_le _ _) (by rw [List.length_range]; exact Nat.le_refl _)
/-- The world of 'without': the row that grows. -/
structure WoW (w W : World) (vs : Value) (out : List S78) : Prop where
  hb : Below w.heap.size w W
  r : Kd.R k78 78 W w.heap.size (fun _ => True) vs out
theorem WoW.below {w W W' : World} {vs : Value} {out : List S78} (h : WoW w W vs out) (hb : Below W.heap.size W W') : WoW w W' vs out := ⟨below_step h.hb hb, Kd.R_below h.r hb⟩
theorem WoW.alloc {w W : World} {vs : Value} {out : List S78} (h : WoW w W vs out) (o : Obj) : WoW w (W.alloc o) vs out := h.below (below_alloc (Below.refl _ _) o)
set_option maxRecDepth 100000 in
set_option maxHeartbeats 4000000 in
theorem manifest_without.calls (A0 : Option Addr) (c0 : Nat) (l0 : List S78) (A1 : Option Addr) (c1 : Nat) (l1 : List S78) (r : List S78) (w : World) (hr0 : Kd.C k78 w A0 l0.length l0) (hc0 : l0.length ≤ c0) (hr1 : Kd.C k78 w A1 l1.length l1) (hc1 : l1.length ≤ c1) (h : manifest_without.f l0 l1 = some r) :
    Calls Try.prog 86 #[.slice A0 l0.length c0, .slice A1 l1.length c1] w fun e w' => ∃ v0_ : Value, e = .returned v0_ ∧ Kd.R k78 78 w' w.heap.size (fun _ => True) v0_ r ∧ Below w.heap.size w w' := by
  unfold manifest_without.f at h
  split at h
  case isFalse => cases h
  case isTrue hle =>
  obtain rfl := Option.some.inj h
  clear h
  have hu78 := Try.underlying78
  have HR := Aside0.mk hr0
  have HR1 := Aside0.mk hr1
  have HC1 := Aside0.mk hc1
  have HL := Aside0.mk hle
  have HE : Aside0 (notIn (l0.take 0) l1 = []) := ⟨by simp [notIn]⟩
  have HS : Aside0 (WoW w w (.slice none 0 0) []) := ⟨⟨Below.refl _ _, Kd.R_nil _ _ _ _ _⟩⟩
  have hl0 : l0.length ≤ 1000000 := HL.out.1
  clear hr0 hr1 hc1 hle hc0
  go_enter Try.func86, Try.ntmps86
  go_wp2
  go_loopw [5, 10] (fun v5 v10 wr => ∃ (k : Nat), k ≤ l0.length ∧ v10 = .int .i64 k ∧ Aside0 (WoW w wr v5 (notIn (l0.take k) l1))) (fun _ v10 _ => l0.length - (intOf v10).toNat)
  case atStart => exact ⟨0, Nat.zero_le _, rfl, ⟨by rw [HE.out]; exact HS.out⟩⟩
  case round =>
    clear HS HE
    obtain ⟨k, hk, rfl, HS⟩ := hrel
    by_cases hlt : k < l0.length
    case pos =>
      obtain ⟨ad, ead, hx0, hx1⟩ := at_T78 HR.out k (by omega) (by omega)
      cases ead
      replace hx0 := (HS.out.hb.cell (World.block_lt_of_cell? w _ hx0)).trans hx0
      replace hx1 := (HS.out.hb.cell (World.block_lt_of_cell? w _ hx1)).trans hx1
      simp only [Int.toNat_natCast] at hx0 hx1
      rw [rd_N l0 k hlt] at hx0 hx1
      have htk : l0.take (k + 1) = l0.take k ++ [l0[k]] := List.take_succ_eq_append_getElem hlt
      have hnl : (notIn (l0.take k) l1).length ≤ 1000000 := Nat.le_trans (List.length_filter_le _ _) (by rw [List.length_take]; have := HL.out; omega)
      have hcon := con_eq l1 l0[k] HL.out.2
      have hnext : notIn (l0.take (k + 1)) l1 = notIn (l0.take k) l1 ++ (if l0[k] ∈ l1 then [] else [l0[k]]) := by
        rw [htk]
        unfold notIn
        rw [List.filter_append]
        congr 1
        by_cases hm : l0[k] ∈ l1 <;> simp [hm]
      generalize hxk : l0[k] = x at hx0 hx1 hcon hnext
      obtain ⟨x0, x1⟩ := x
      simp only at hx0 hx1 hcon
      have HNX := Aside0.mk hnext
      have HNL := Aside0.mk hnl
      clear htk hnl hnext hxk
      generalize hout : notIn (l0.take k) l1 = out at HS HNX HNL
      clear hout
      by_cases hm : (⟨x0, x1⟩ : S78) ∈ l1
      · rw [decide_eq_true hm] at hcon
        have HCN := Aside0.mk hcon
        have HM := Aside0.mk hm
        clear hcon hm
        go_wp2_with (go_at_call 103; with_reducible refine (api_Name_103.calls (l1.length + 1) A1 c1 l1 x0 x1 _ _ (Kd.C_below HR1.out (below_alloc HS.out.hb _)) HC1.out HCN.out).mono ?_; rintro e w2 ⟨rfl, hb⟩; have n_ := Aside0.mk ((HS.out.alloc _).below hb); clear HS hx0 hx1; have HS := n_; clear n_ hb)
        go_roundw
        case rel => exact ⟨k + 1, by omega, by simp, ⟨by rw [HNX.out, if_pos HM.out, List.append_nil]; exact HS.out⟩⟩
        case measure => simp only [intOf]; omega
      · rw [decide_eq_false hm] at hcon
        have HCN := Aside0.mk hcon
        have HM := Aside0.mk hm
        clear hcon hm
        go_wp2_with (first | (go_at_call 103; with_reducible refine (api_Name_103.calls (l1.length + 1) A1 c1 l1 x0 x1 _ _ (Kd.C_below HR1.out (below_alloc HS.out.hb _)) HC1.out HCN.out).mono ?_; rintro e w2 ⟨rfl, hb⟩; have B7 := Aside0.mk (blk_below (heap_alloc_new wr (.cells #[.int .i64 x0, .int .i64 x1] 78)) hb); have n_ := Aside0.mk ((HS.out.alloc _).below hb); clear HS hx0 hx1; have HS := n_; clear n_ hb; have hc7_0 : w2.cell? ⟨wr.heap.size, 0, none⟩ = some (.int .i64 x0) := (blk_cell B7.out 0).trans rfl; have hc7_1 : w2.cell? ⟨wr.heap.size, 1, none⟩ = some (.int .i64 x1) := (blk_cell B7.out 1).trans rfl) | (at_builtin; refine Kd.R_append k78 (w0 := w) w.heap.size rfl (.tmp 18) (.tmp 20) 30 78 (.agg #[.int .i64 0, .int .i64 0]) 16 rfl Try.underlying30 info78 rfl (by decide) (by omega) u5 out (⟨x0, x1⟩ : S78) [.int .i64 x0, .int .i64 x1] (fun _ => True) (fun _ => False) rfl rfl (k78_mkM _ _ _ _) (fun _ hk => hk.elim) (fun _ _ => trivial) HS.out.r HS.out.hb HS.out.hb.size (by have := HNL.out; omega) ?_; intro v1 w4_ ho hb hg hat; have n_ : Aside0 (WoW w w4_ v1 (out ++ [(⟨x0, x1⟩ : S78)])) := ⟨⟨hb, ho⟩⟩; clear HS B7 hc7_0 hc7_1; have HS := n_; clear n_ ho hb hg hat))
        go_roundw
        case rel => exact ⟨k + 1, by omega, by simp, ⟨by rw [HNX.out, if_neg HM.out]; exact HS.out⟩⟩
        case measure => simp only [intOf]; omega
    case neg =>
      have hkl : k = l0.length := by omega
      subst hkl
      rw [List.take_length] at HS
      have hnl : (notIn l0 l1).length ≤ 1000000 := Nat.le_trans (List.length_filter_le _ _) HL.out.1
      have hn2 : (srtN (notIn l0 l1)).length ≤ 1000000 := by rw [srtN_length]; exact hnl
      have hn3 : (Lib.compact (srtN (notIn l0 l1))).length ≤ 1000000 := Nat.le_trans (compact_le _) hn2
      have HNL := Aside0.mk hnl
      have HN2 := Aside0.mk hn2
      have HN3 := Aside0.mk hn3
      clear hnl hn2 hn3
      go_wp2_with (first | (go_at_call 104; with_reducible refine (sortN_calls HS.out.r HS.out.hb (by have := HNL.out; omega)).mono ?_; rintro e w2 ⟨rfl, hr, hg, hb⟩; have n_ := Aside0.mk (WoW.mk hb hr); clear HS; have HS := n_; clear n_ hb hr hg) | (go_at_call 107; with_reducible refine (compactN_calls HS.out.r HS.out.hb HN2.out).mono ?_; rintro e w3 ⟨v', rfl, hr, hg, hb⟩; obtain ⟨A, c, ev, hl, hC⟩ := Kd.R_reads hr; subst ev; have HCC := Aside0.mk hC; have HCL := Aside0.mk hl; have n_ := Aside0.mk (WoW.mk hb hr); clear HS; have HS := n_; clear n_ hb hr hg hl hC) | (go_at_call 106; with_reducible refine (api_Name_106.calls A c (Lib.compact (srtN (notIn l0 l1))) (Lib.compact (srtN (notIn l0 l1))) _ HCC.out HCL.out (by unfold api_Name_106.f; rw [if_pos HN3.out])).mono ?_; rintro e w4 ⟨v4, rfl, hr, hb⟩; have n_ := Aside0.mk (WoW.mk (below_step HS.out.hb hb) (Kd.R_lower hr HS.out.hb.size)); clear HS; have HS := n_; clear n_ hb hr))
      go_ret
      exact ⟨_, rfl, HS.out.r, HS.out.hb⟩
end Go.Proofs.Ytodhkbahjomfhaa.Q

namespace Go.Proofs.Ytodhkbahjomfhaa.Q
open Go.RowKit Go.Proofs.YtodhkbahjomfhaaW.PrintWords Go.Proofs.YtodhkbahjomfhaaW.PrintLast Go.Proofs.YtodhkbahjomfhaaW.PrintMore Go.Proofs.Ytodhkbahjomfhaa.Gput Go.Proofs.Ytodhkbahjomfhaa.Gputl
attribute [local go_sem] max2_int min2_int max_two min_two max_three min_three max_four min_four   -- for this text's walks alone
set_option linter.unusedVariables false
set_option linter.unusedSimpArgs false
noncomputable def manifest_Change.f (k : Nat) (a0_0 : Int) (l0_1 : List (S78)) (a1_0 : Int) (l1_1 : List (S78)) : Option ((List (S78)) × (List (S78)) × Int) := (manifest_Check.f k a0_0 l0_1).bind fun t643 => (if t643 = 0 then ((manifest_Check.f k a1_0 l1_1).bind fun t644 => (if t644 = 0 then ((manifest_without.f l1_1 l0_1).bind fun t645 => ((manifest_without.f l0_1 l1_1).bind fun t648 => (some (t645, t648, 0)))) else (some (([] : List (S78)), ([] : List (S78)), t644)))) else (some (([] : List (S78)), ([] : List (S78)), t643)))
theorem manifest_Change.mono : ∀ a0 a1 a2 a3 k, LeO (manifest_Change.f k a0 a1 a2 a3) (manifest_Change.f (k + 1) a0 a1 a2 a3) := by
  intro a0 a1 a2 a3 k
  unfold manifest_Change.f
  repeat' first
      | (with_reducible exact manifest_Check.mono _ _ _)
      | (with_reducible exact LeO.refl _)
      | (with_reducible exact LeO.none _)
      | (with_reducible refine LeO.ite ?_ ?_)
      | (with_reducible refine LeO.bind ?_ (fun _ => ?_))
      | exact manifest_Check.mono _ _ _
      | exact LeO.none _
      | refine LeO.ite ?_ ?_
      | refine LeO.bind ?_ (fun _ => ?_)
noncomputable def manifest_Change.T7 : Bool × List (List Nat × List Nat) := (true, [([], []), ([0], [0]), ([], []), ([2], [2]), ([1, 3], [1, 3]), ([], []), ([5], [5]), ([], []), ([7], [7]), ([6, 8, 4], [6, 8]), ([4, 9, 0, 1, 2, 3, 4], [4]), ([9, 10, 0, 1, 2, 3, 4, 5, 6, 7, 8, 9, 10], [9]), ([11, 0, 1, 2, 3, 4, 5, 6, 7, 8, 9, 10, 11], [])])
noncomputable def manifest_Change.B7 : List Nat := [0, 1, 0, 4, 15, 0, 32, 0, 128, 511, 1023, 2047, 4095]
theorem manifest_Change.tab7 : rtab .any (opsOf Try.f47 7) = manifest_Change.T7 := by kernel_rfl
theorem manifest_Change.bits7 : waitsOk manifest_Change.T7.2 manifest_Change.B7 = true := by kernel_rfl
set_option maxHeartbeats 8000000 in
set_option maxRecDepth 100000 in
theorem manifest_Change.calls (k : Nat) (a0_0 : Int) (A0_1 : Option Addr) (c0_1 : Nat) (l0_1 : List (S78)) (a1_0 : Int) (A1_1 : Option Addr) (c1_1 : Nat) (l1_1 : List (S78)) (r1 : List (S78)) (r2 : List (S78)) (r3 : Int) (w : World) (hr0_1 : Kd.C k78 w A0_1 l0_1.length l0_1) (hc0_1 : l0_1.length ≤ c0_1) (hr1_1 : Kd.C k78 w A1_1 l1_1.length l1_1) (hc1_1 : l1_1.length ≤ c1_1) (h : manifest_Change.f k a0_0 l0_1 a1_0 l1_1 = some (r1, r2, r3)) :
    Calls Try.prog 47 #[.agg #[.int .i64 a0_0, .slice A0_1 l0_1.length c0_1], .agg #[.int .i64 a1_0, .slice A1_1 l1_1.length c1_1]] w fun e w' => ∃ v0_ v1_ : Value, e = .returned (.tuple #[v0_, v1_, .int .i64 r3]) ∧ Kd.R k78 78 w' w.heap.size (fun k_ => some k_ ≠ (v1_ : Value).ownBlock) v0_ r1 ∧ Kd.R k78 78 w' w.heap.size (fun k_ => some k_ ≠ (v0_ : Value).ownBlock) v1_ r2 ∧ Below w.heap.size w w' := by
  have hu32 := Try.underlying32
  have HR0_1 := Aside0.mk hr0_1
  have HC0_1 := Aside0.mk hc0_1
  clear hr0_1 hc0_1
  have HR1_1 := Aside0.mk hr1_1
  have HC1_1 := Aside0.mk hc1_1
  clear hr1_1 hc1_1
  have HB := Aside0.mk (Below.refl w.heap.size w)
  have H : ((manifest_Check.f k a0_0 l0_1).bind fun t643 => (if t643 = 0 then ((manifest_Check.f k a1_0 l1_1).bind fun t644 => (if t644 = 0 then ((manifest_without.f l1_1 l0_1).bind fun t645 => ((manifest_without.f l0_1 l1_1).bind fun t648 => (some (t645, t648, 0)))) else (some (([] : List (S78)), ([] : List (S78)), t644)))) else (some (([] : List (S78)), ([] : List (S78)), t643)))) = some (r1, r2, r3) := h
  clear h
  replace H := Option.bind_eq_some_iff.mp H
  obtain ⟨t643, A30, H⟩ := H
  replace H : (if t643 = 0 then ((manifest_Check.f k a1_0 l1_1).bind fun t644 => (if t644 = 0 then ((manifest_without.f l1_1 l0_1).bind fun t645 => ((manifest_without.f l0_1 l1_1).bind fun t648 => (some (t645, t648, 0)))) else (some (([] : List (S78)), ([] : List (S78)), t644)))) else (some (([] : List (S78)), ([] : List (S78)), t643))) = some (r1, r2, r3) := H
  have A3 := Aside0.mk A30
  clear A30
  by_cases c4 : t643 = 0
  · rw [if_pos c4] at H
    have c4b0 : (t643 == 0) = true := beq_iff_eq.mpr c4
    have c4b1 : (t643 != 0) = false := bne_eq_false_iff_eq.mpr c4
    clear c4
    replace H := Option.bind_eq_some_iff.mp H
    obtain ⟨t644, A50, H⟩ := H
    replace H : (if t644 = 0 then ((manifest_without.f l1_1 l0_1).bind fun t645 => ((manifest_without.f l0_1 l1_1).bind fun t648 => (some (t645, t648, 0)))) else (some (([] : List (S78)), ([] : List (S78)), t644))) = some (r1, r2, r3) := H
    have A5 := Aside0.mk A50
    clear A50
    by_cases c6 : t644 = 0
    · rw [if_pos c6] at H
      have c6b0 : (t644 == 0) = true := beq_iff_eq.mpr c6
      have c6b1 : (t644 != 0) = false := bne_eq_false_iff_eq.mpr c6
      clear c6
      replace H := Option.bind_eq_some_iff.mp H
      obtain ⟨t645, A70, H⟩ := H
      replace H : ((manifest_without.f l0_1 l1_1).bind fun t648 => (some (t645, t648, 0))) = some (r1, r2, r3) := H
      have A7 := Aside0.mk A70
      clear A70
      replace H := Option.bind_eq_some_iff.mp H
      obtain ⟨t648, A80, H⟩ := H
      replace H : (some (t645, t648, 0)) = some (r1, r2, r3) := H
      have A8 := Aside0.mk A80
      clear A80
      simp only [Option.some.injEq, Prod.mk.injEq] at H
      obtain ⟨rfl, rfl, rfl⟩ := H
      go_enter Try.func47, Try.ntmps47
      try go_wp2_with (first | ((with_reducible refine gate_dst (N := 2) rfl ?_); refine box_event ?hg (N := 2) ?hd (cs := #[.int .i64 a0_0, .slice A0_1 l0_1.length c0_1]) (t := 32) ?hr ?_; (case hd => rfl); (case hg => rfl); (case hr => first | (go_simp; done) | (go_simp; rfl)); intro gb641 hg w9 hbox hb; have n0_ := Aside0.mk (below_step (by repeat (first | (with_reducible first | exact HB.out | apply below_alloc | apply pw_below_drewN | apply below_drew1) | exact HB.out)) hb); have n1_ := Aside0.mk (hbox); have n2_ := Aside0.mk ((by rw [hg]; exact (below_size (by repeat (first | (with_reducible first | exact HB.out | apply below_alloc | apply pw_below_drewN | apply below_drew1) | exact HB.out))) : w.heap.size ≤ gb641)); have n3_ := Aside0.mk ((by rw [hg]; exact (below_size (by repeat (first | (with_reducible first | exact HB.out | apply below_alloc | apply pw_below_drewN | apply below_drew1) | exact HB.out))) : w.heap.size ≤ gb641)); clear HB; have HB := n0_; have BK641 := n1_; have GW641 := n2_; have GE641 := n3_; clear n0_ n1_ n2_ n3_; clear hb hbox hg) | ((with_reducible refine gate_dst (N := 3) rfl ?_); refine box_event ?hg (N := 3) ?hd (cs := #[.int .i64 a1_0, .slice A1_1 l1_1.length c1_1]) (t := 32) ?hr ?_; (case hd => rfl); (case hg => rfl); (case hr => first | (go_simp; done) | (go_simp; rfl)); intro gb642 hg w10 hbox hb; have n0_ := Aside0.mk (blk_below (g := gb641) (o := .cells #[.int .i64 a0_0, .slice A0_1 l0_1.length c0_1] 32 (0, 0)) (by (with_reducible repeat (first | refine blk_drewN ?_ _ | refine blk_drew ?_ | refine blk_alloc ?_ _)); exact BK641.out) hb); have n1_ := Aside0.mk (below_step (by repeat (first | (with_reducible first | exact HB.out | apply below_alloc | apply pw_below_drewN | apply below_drew1 | refine below_set ?_ GE641.out) | exact HB.out)) hb); have n2_ := Aside0.mk (hbox); have n3_ := Aside0.mk ((by rw [hg]; exact (below_size (by repeat (first | (with_reducible first | exact HB.out | apply below_alloc | apply pw_below_drewN | apply below_drew1 | refine below_set ?_ GE641.out) | exact HB.out))) : w.heap.size ≤ gb642)); have n4_ := Aside0.mk ((by rw [hg]; exact (below_size (by repeat (first | (with_reducible first | exact HB.out | apply below_alloc | apply pw_below_drewN | apply below_drew1 | refine below_set ?_ GE641.out) | exact HB.out))) : w.heap.size ≤ gb642)); have n5_ := Aside0.mk ((by rw [hg]; exact Nat.ne_of_lt (blk_lt (g := gb641) (o := .cells #[.int .i64 a0_0, .slice A0_1 l0_1.length c0_1] 32 (0, 0)) (by (with_reducible repeat (first | refine blk_drewN ?_ _ | refine blk_drew ?_ | refine blk_alloc ?_ _)); exact BK641.out)) : gb641 ≠ gb642)); have n6_ := Aside0.mk ((by rw [hg]; exact Nat.ne_of_gt (blk_lt (g := gb641) (o := .cells #[.int .i64 a0_0, .slice A0_1 l0_1.length c0_1] 32 (0, 0)) (by (with_reducible repeat (first | refine blk_drewN ?_ _ | refine blk_drew ?_ | refine blk_alloc ?_ _)); exact BK641.out)) : gb642 ≠ gb641)); clear BK641; clear HB; have BK641 := n0_; have HB := n1_; have BK642 := n2_; have GW642 := n3_; have GE642 := n4_; have NB641_642 := n5_; have NB642_641 := n6_; clear n0_ n1_ n2_ n3_ n4_ n5_ n6_; clear hb hbox hg; have hnb11 := NB641_642.out; have hnc11 := NB642_641.out; have hcz12_0 : w10.cell? ⟨gb641, 0, none⟩ = some (.int .i64 a0_0) := (blk_cell BK641.out 0).trans rfl; have hcz12_1 : w10.cell? ⟨gb641, 1, none⟩ = some (.slice A0_1 l0_1.length c0_1) := (blk_cell BK641.out 1).trans rfl; have hfz12_0 := blk_frozen BK641.out 0; have hfz12_1 := blk_frozen BK641.out 1) | ((with_reducible refine gate_callee (f := 56) rfl ?_); refine goesL_ (some 10) rfl rfl Try.func56 (by kernel_rfl) rfl #[.agg #[.int .i64 a0_0, .slice A0_1 l0_1.length c0_1]] rfl (by (try simp only [List.map_toArray, List.map_cons, List.map_nil]); first | done | rfl | (simp only [List.length_drop, List.length_take]; rfl)) ?_; (with_reducible refine (manifest_Check.calls k a0_0 _ _ l0_1 t643 _ ?side1 ?side2 A3.out).mono ?_); (case side1 => repeat (first | exact (Kd.C_below HR0_1.out HB.out) | (with_reducible refine Kd.C_alloc ?_ _) | (with_reducible refine Kd.C_drewN ?_ _) | (with_reducible refine Kd.C_drew ?_))); (case side2 => exact HC0_1.out); rintro e w13 ⟨rfl, hb⟩; refine ⟨_, rfl, ?_⟩; have n0_ := Aside0.mk (blk_below (g := gb641) (o := .cells #[.int .i64 a0_0, .slice A0_1 l0_1.length c0_1] 32 (0, 0)) (by (with_reducible repeat (first | refine blk_drewN ?_ _ | refine blk_drew ?_ | refine blk_alloc ?_ _)); exact BK641.out) hb); have n1_ := Aside0.mk (blk_below (g := gb642) (o := .cells #[.int .i64 a1_0, .slice A1_1 l1_1.length c1_1] 32 (0, 0)) (by (with_reducible repeat (first | refine blk_drewN ?_ _ | refine blk_drew ?_ | refine blk_alloc ?_ _)); exact BK642.out) hb); have n2_ := Aside0.mk (below_step (by repeat (first | (with_reducible first | exact HB.out | apply below_alloc | apply pw_below_drewN | apply below_drew1 | refine below_set ?_ GE641.out | refine below_set ?_ GE642.out) | exact HB.out)) hb); clear BK641; clear BK642; clear HB; have BK641 := n0_; have BK642 := n1_; have HB := n2_; clear n0_ n1_ n2_; (try clear hb); (try clear hb2); (try clear hk); (try clear hi); have hcz14_0 : w13.cell? ⟨gb642, 0, none⟩ = some (.int .i64 a1_0) := (blk_cell BK642.out 0).trans rfl; have hcz14_1 : w13.cell? ⟨gb642, 1, none⟩ = some (.slice A1_1 l1_1.length c1_1) := (blk_cell BK642.out 1).trans rfl; have hfz14_0 := blk_frozen BK642.out 0; have hfz14_1 := blk_frozen BK642.out 1) | ((with_reducible refine gate_callee (f := 56) rfl ?_); refine goesL_ (some 15) rfl rfl Try.func56 (by kernel_rfl) rfl #[.agg #[.int .i64 a1_0, .slice A1_1 l1_1.length c1_1]] rfl (by (try simp only [List.map_toArray, List.map_cons, List.map_nil]); first | done | rfl | (simp only [List.length_drop, List.length_take]; rfl)) ?_; (with_reducible refine (manifest_Check.calls k a1_0 _ _ l1_1 t644 _ ?side1 ?side2 A5.out).mono ?_); (case side1 => repeat (first | exact (Kd.C_below HR1_1.out HB.out) | (with_reducible refine Kd.C_alloc ?_ _) | (with_reducible refine Kd.C_drewN ?_ _) | (with_reducible refine Kd.C_drew ?_))); (case side2 => exact HC1_1.out); rintro e w15 ⟨rfl, hb⟩; refine ⟨_, rfl, ?_⟩; have n0_ := Aside0.mk (blk_below (g := gb641) (o := .cells #[.int .i64 a0_0, .slice A0_1 l0_1.length c0_1] 32 (0, 0)) (by (with_reducible repeat (first | refine blk_drewN ?_ _ | refine blk_drew ?_ | refine blk_alloc ?_ _)); exact BK641.out) hb); have n1_ := Aside0.mk (blk_below (g := gb642) (o := .cells #[.int .i64 a1_0, .slice A1_1 l1_1.length c1_1] 32 (0, 0)) (by (with_reducible repeat (first | refine blk_drewN ?_ _ | refine blk_drew ?_ | refine blk_alloc ?_ _)); exact BK642.out) hb); have n2_ := Aside0.mk (below_step (by repeat (first | (with_reducible first | exact HB.out | apply below_alloc | apply pw_below_drewN | apply below_drew1 | refine below_set ?_ GE641.out | refine below_set ?_ GE642.out) | exact HB.out)) hb); clear BK641; clear BK642; clear HB; have BK641 := n0_; have BK642 := n1_; have HB := n2_; clear n0_ n1_ n2_; (try clear hb); (try clear hb2); (try clear hk); (try clear hi)))
      have n0_ := Aside0.mk (blk_drew BK641.out)
      have n1_ := Aside0.mk (blk_drew BK642.out)
      have n2_ := Aside0.mk (below_drew1 HB.out)
      clear BK641
      clear BK642
      clear HB
      have BK641 := n0_
      have BK642 := n1_
      have HB := n2_
      clear n0_ n1_ n2_
      refine start_ (n := 13) (S := fun w' => w'.cell? ⟨gb642, 0, none⟩ = some (.int .i64 a1_0) ∧ w'.cell? ⟨gb642, 1, none⟩ = some (.slice A1_1 l1_1.length c1_1) ∧ w'.cell? ⟨gb641, 0, none⟩ = some (.int .i64 a0_0) ∧ w'.cell? ⟨gb641, 1, none⟩ = some (.slice A0_1 l0_1.length c0_1)) (ds := []) #[false, false, false, false, false, false, false, false, false, false, false, false, false] (by kernel_rfl) rfl rfl ⟨(blk_cell BK642.out 0).trans rfl, (blk_cell BK642.out 1).trans rfl, (blk_cell BK641.out 0).trans rfl, (blk_cell BK641.out 1).trans rfl⟩ (fun hHeld => ?_); refine with_tabW manifest_Change.tab7 manifest_Change.bits7 (fun HT_ HW_ => ?_)
      generalize w15.drew = w16 at BK641 BK642 HB hHeld ⊢
      refine pure_ (i := 0) (N := some 19) (v := ?_) (a' := ?_) #[true, false, false, false, false, false, false, false, false, false, false, false, false] rfl rfl (any_of HT_.out (by kernel_rfl)) (fun _ _ _ h => h) (Or.inl ⟨by rfl, ?_⟩) ?_ ?_
      rotate_left
      · intro w'
        go_simp
        with_reducible rfl
      rotate_left
      · simp only [Act.put, List.setIfInBounds_toArray, List.set_cons_zero, List.set_cons_succ, i64_w, i32_w]
        rfl
      refine pure_ (i := 2) (N := some 21) (v := ?_) (a' := ?_) #[true, false, true, false, false, false, false, false, false, false, false, false, false] rfl rfl (any_of HT_.out (by kernel_rfl)) (fun _ _ _ h => h) (Or.inl ⟨by rfl, ?_⟩) ?_ ?_
      rotate_left
      · intro w'
        go_simp
        with_reducible rfl
      rotate_left
      · simp only [Act.put, List.setIfInBounds_toArray, List.set_cons_zero, List.set_cons_succ, i64_w, i32_w]
        rfl
      refine pure_ (i := 5) (N := some 24) (v := ?_) (a' := ?_) #[true, false, true, false, false, true, false, false, false, false, false, false, false] rfl rfl (any_of HT_.out (by kernel_rfl)) (fun _ _ _ h => h) (Or.inl ⟨by rfl, ?_⟩) ?_ ?_
      rotate_left
      · intro w'
        go_simp
        with_reducible rfl
      rotate_left
      · simp only [Act.put, List.setIfInBounds_toArray, List.set_cons_zero, List.set_cons_succ, i64_w, i32_w]
        rfl
      refine pure_ (i := 7) (N := some 26) (v := ?_) (a' := ?_) #[true, false, true, false, false, true, false, true, false, false, false, false, false] rfl rfl (any_of HT_.out (by kernel_rfl)) (fun _ _ _ h => h) (Or.inl ⟨by rfl, ?_⟩) ?_ ?_
      rotate_left
      · intro w'
        go_simp
        with_reducible rfl
      rotate_left
      · simp only [Act.put, List.setIfInBounds_toArray, List.set_cons_zero, List.set_cons_succ, i64_w, i32_w]
        rfl
      refine take_ (i := 1) (N := some 20) (v := ?_) (a' := ?_) #[true, true, true, false, false, true, false, true, false, false, false, false, false] rfl rfl (take_ofW HT_.out HW_.out (by kernel_rfl)) (fun _ _ _ h => h) (Or.inl ⟨by rfl, ?_⟩) hHeld ?_ ?_
      rotate_left
      · rintro w' ⟨s0, s1, s2, s3⟩
        go_simp
        with_reducible rfl
      rotate_left
      · simp only [Act.put, List.setIfInBounds_toArray, List.set_cons_zero, List.set_cons_succ, i64_w, i32_w]
        rfl
      refine take_ (i := 3) (N := some 22) (v := ?_) (a' := ?_) #[true, true, true, true, false, true, false, true, false, false, false, false, false] rfl rfl (take_ofW HT_.out HW_.out (by kernel_rfl)) (fun _ _ _ h => h) (Or.inl ⟨by rfl, ?_⟩) hHeld ?_ ?_
      rotate_left
      · rintro w' ⟨s0, s1, s2, s3⟩
        go_simp
        with_reducible rfl
      rotate_left
      · simp only [Act.put, List.setIfInBounds_toArray, List.set_cons_zero, List.set_cons_succ, i64_w, i32_w]
        rfl
      refine take_ (i := 6) (N := some 25) (v := ?_) (a' := ?_) #[true, true, true, true, false, true, true, true, false, false, false, false, false] rfl rfl (take_ofW HT_.out HW_.out (by kernel_rfl)) (fun _ _ _ h => h) (Or.inl ⟨by rfl, ?_⟩) hHeld ?_ ?_
      rotate_left
      · rintro w' ⟨s0, s1, s2, s3⟩
        go_simp
        with_reducible rfl
      rotate_left
      · simp only [Act.put, List.setIfInBounds_toArray, List.set_cons_zero, List.set_cons_succ, i64_w, i32_w]
        rfl
      refine take_ (i := 8) (N := some 27) (v := ?_) (a' := ?_) #[true, true, true, true, false, true, true, true, true, false, false, false, false] rfl rfl (take_ofW HT_.out HW_.out (by kernel_rfl)) (fun _ _ _ h => h) (Or.inl ⟨by rfl, ?_⟩) hHeld ?_ ?_
      rotate_left
      · rintro w' ⟨s0, s1, s2, s3⟩
        go_simp
        with_reducible rfl
      rotate_left
      · simp only [Act.put, List.setIfInBounds_toArray, List.set_cons_zero, List.set_cons_succ, i64_w, i32_w]
        rfl
      refine one_ (i := 4) (N := some 23) #[true, true, true, true, true, true, true, true, true, false, false, false, false] rfl rfl (one_of HT_.out (by kernel_rfl)) (by decide) (fun K hK => ?_)
      refine goes_ Try.func86 (by kernel_rfl) rfl #[.slice A1_1 l1_1.length c1_1, .slice A0_1 l0_1.length c0_1] (by rfl) rfl rfl (by (try simp only [List.map_toArray, List.map_cons, List.map_nil]); first | done | rfl | (simp only [List.length_drop, List.length_take]; rfl)) ?_
      with_reducible refine (manifest_without.calls _ _ l1_1 _ _ l0_1 t645 _ ?side1 ?side2 ?side3 ?side4 A7.out).mono ?_
      (case side1 => repeat (first | exact (Kd.C_below HR1_1.out HB.out) | (with_reducible refine Kd.C_alloc ?_ _) | (with_reducible refine Kd.C_drewN ?_ _) | (with_reducible refine Kd.C_drew ?_)))
      (case side2 => exact HC1_1.out)
      (case side3 => repeat (first | exact (Kd.C_below HR0_1.out HB.out) | (with_reducible refine Kd.C_alloc ?_ _) | (with_reducible refine Kd.C_drewN ?_ _) | (with_reducible refine Kd.C_drew ?_)))
      (case side4 => exact HC0_1.out)
      rintro e w17 ⟨v646, rfl, ho0, hb⟩
      refine ⟨_, rfl, ?_⟩
      have n0_ := Aside0.mk (Kd.R_lower ho0 (below_size (by repeat (first | (with_reducible first | exact HB.out | apply below_alloc | apply pw_below_drewN | apply below_drew1 | refine below_set ?_ GE641.out | refine below_set ?_ GE642.out) | exact HB.out))))
      have n1_ := Aside0.mk (blk_below (g := gb641) (o := .cells #[.int .i64 a0_0, .slice A0_1 l0_1.length c0_1] 32 (0, 0)) (by (with_reducible repeat (first | refine blk_drewN ?_ _ | refine blk_drew ?_ | refine blk_alloc ?_ _)); exact BK641.out) hb)
      have n2_ := Aside0.mk (blk_below (g := gb642) (o := .cells #[.int .i64 a1_0, .slice A1_1 l1_1.length c1_1] 32 (0, 0)) (by (with_reducible repeat (first | refine blk_drewN ?_ _ | refine blk_drew ?_ | refine blk_alloc ?_ _)); exact BK642.out) hb)
      have n3_ := Aside0.mk (below_step (by repeat (first | (with_reducible first | exact HB.out | apply below_alloc | apply pw_below_drewN | apply below_drew1 | refine below_set ?_ GE641.out | refine below_set ?_ GE642.out) | exact HB.out)) hb)
      clear BK641
      clear BK642
      clear HB
      have HO647 := n0_
      have BK641 := n1_
      have BK642 := n2_
      have HB := n3_
      clear n0_ n1_ n2_ n3_
      (try clear hb)
      (try clear hb2)
      (try clear hk)
      (try clear hi)
      (try clear ho0)
      refine hK.out _ _ ⟨(blk_cell BK642.out 0).trans rfl, (blk_cell BK642.out 1).trans rfl, (blk_cell BK641.out 0).trans rfl, (blk_cell BK641.out 1).trans rfl⟩ (fun hHeld => ?_)
      clear hK K
      refine norm_ (a' := ?_) ?_ ?_
      rotate_left
      · show Act.put _ (some 23) _ = _
        simp only [Act.put, List.setIfInBounds_toArray, List.set_cons_zero, List.set_cons_succ, i64_w, i32_w]
        rfl
      refine one_ (i := 9) (N := some 28) #[true, true, true, true, true, true, true, true, true, true, false, false, false] rfl rfl (one_of HT_.out (by kernel_rfl)) (by decide) (fun K hK => ?_)
      refine goes_ Try.func86 (by kernel_rfl) rfl #[.slice A0_1 l0_1.length c0_1, .slice A1_1 l1_1.length c1_1] (by rfl) rfl rfl (by (try simp only [List.map_toArray, List.map_cons, List.map_nil]); first | done | rfl | (simp only [List.length_drop, List.length_take]; rfl)) ?_
      with_reducible refine (manifest_without.calls _ _ l0_1 _ _ l1_1 t648 _ ?side1 ?side2 ?side3 ?side4 A8.out).mono ?_
      (case side1 => repeat (first | exact (Kd.C_below HR0_1.out HB.out) | (with_reducible refine Kd.C_alloc ?_ _) | (with_reducible refine Kd.C_drewN ?_ _) | (with_reducible refine Kd.C_drew ?_)))
      (case side2 => exact HC0_1.out)
      (case side3 => repeat (first | exact (Kd.C_below HR1_1.out HB.out) | (with_reducible refine Kd.C_alloc ?_ _) | (with_reducible refine Kd.C_drewN ?_ _) | (with_reducible refine Kd.C_drew ?_)))
      (case side4 => exact HC1_1.out)
      rintro e w18 ⟨v649, rfl, ho0, hb⟩
      refine ⟨_, rfl, ?_⟩
      have n0_ := Aside0.mk (Kd.R_elder' (by (with_reducible repeat (first | apply Kd.R_alloc | apply Kd.R_drewN | apply Kd.R_drew)); exact HO647.out) (Kd.R_base ho0) hb)
      have n1_ := Aside0.mk (Kd.R_lower (Kd.R_new' ho0 (Kd.R_lt (by (with_reducible repeat (first | apply Kd.R_alloc | apply Kd.R_drewN | apply Kd.R_drew)); exact HO647.out))) (below_size (by repeat (first | (with_reducible first | exact HB.out | apply below_alloc | apply pw_below_drewN | apply below_drew1 | refine below_set ?_ GE641.out | refine below_set ?_ GE642.out) | exact HB.out))))
      have n2_ := Aside0.mk (blk_below (g := gb641) (o := .cells #[.int .i64 a0_0, .slice A0_1 l0_1.length c0_1] 32 (0, 0)) (by (with_reducible repeat (first | refine blk_drewN ?_ _ | refine blk_drew ?_ | refine blk_alloc ?_ _)); exact BK641.out) hb)
      have n3_ := Aside0.mk (blk_below (g := gb642) (o := .cells #[.int .i64 a1_0, .slice A1_1 l1_1.length c1_1] 32 (0, 0)) (by (with_reducible repeat (first | refine blk_drewN ?_ _ | refine blk_drew ?_ | refine blk_alloc ?_ _)); exact BK642.out) hb)
      have n4_ := Aside0.mk (below_step (by repeat (first | (with_reducible first | exact HB.out | apply below_alloc | apply pw_below_drewN | apply below_drew1 | refine below_set ?_ GE641.out | refine below_set ?_ GE642.out) | exact HB.out)) hb)
      clear HO647
      clear BK641
      clear BK642
      clear HB
      have HO647 := n0_
      have HO650 := n1_
      have BK641 := n2_
      have BK642 := n3_
      have HB := n4_
      clear n0_ n1_ n2_ n3_ n4_
      (try clear hb)
      (try clear hb2)
      (try clear hk)
      (try clear hi)
      (try clear ho0)
      refine hK.out _ _ ⟨(blk_cell BK642.out 0).trans rfl, (blk_cell BK642.out 1).trans rfl, (blk_cell BK641.out 0).trans rfl, (blk_cell BK641.out 1).trans rfl⟩ (fun hHeld => ?_)
      clear hK K
      refine norm_ (a' := ?_) ?_ ?_
      rotate_left
      · show Act.put _ (some 28) _ = _
        simp only [Act.put, List.setIfInBounds_toArray, List.set_cons_zero, List.set_cons_succ, i64_w, i32_w]
        rfl
      refine pure_ (i := 10) (N := some 4) (v := ?_) (a' := ?_) #[true, true, true, true, true, true, true, true, true, true, true, false, false] rfl rfl (any_of HT_.out (by kernel_rfl)) (fun _ _ _ h => h) (Or.inl ⟨by rfl, ?_⟩) ?_ ?_
      rotate_left
      · intro w'
        go_simp
        with_reducible rfl
      rotate_left
      · simp only [Act.put, List.setIfInBounds_toArray, List.set_cons_zero, List.set_cons_succ, i64_w, i32_w]
        rfl
      refine pure_ (i := 11) (N := some 5) (v := ?_) (a' := ?_) #[true, true, true, true, true, true, true, true, true, true, true, true, false] rfl rfl (any_of HT_.out (by kernel_rfl)) (fun _ _ _ h => h) (Or.inl ⟨by rfl, ?_⟩) ?_ ?_
      rotate_left
      · intro w'
        go_simp
        with_reducible rfl
      rotate_left
      · simp only [Act.put, List.setIfInBounds_toArray, List.set_cons_zero, List.set_cons_succ, i64_w, i32_w]
        rfl
      refine pure_ (i := 12) (N := some 6) (v := ?_) (a' := ?_) #[true, true, true, true, true, true, true, true, true, true, true, true, true] rfl rfl (any_of HT_.out (by kernel_rfl)) (fun _ _ _ h => h) (Or.inl ⟨by rfl, ?_⟩) ?_ ?_
      rotate_left
      · intro w'
        go_simp
        with_reducible rfl
      rotate_left
      · simp only [Act.put, List.setIfInBounds_toArray, List.set_cons_zero, List.set_cons_succ, i64_w, i32_w]
        rfl
      refine done_ (done_of HT_.out (by kernel_rfl)) ?_
      try go_wp2
      go_ret3
      exact ⟨_, _, by first | rfl | (simp [errW_none, errW_some] <;> rfl) | (simp [*, errW_none, errW_some] <;> rfl), by (with_reducible repeat (first | apply Kd.R_alloc | apply Kd.R_drewN | apply Kd.R_drew)); exact Kd.R_mono HO647.out (fun _ hk => hk.2), by (with_reducible repeat (first | apply Kd.R_alloc | apply Kd.R_drewN | apply Kd.R_drew)); exact Kd.R_mono HO650.out (fun _ hk => hk.2), by repeat (first | (with_reducible first | exact HB.out | apply below_alloc | apply pw_below_drewN | apply below_drew1 | refine below_set ?_ GE641.out | refine below_set ?_ GE642.out) | exact HB.out)⟩
    · rw [if_neg c6] at H
      have c6b0 : (t644 == 0) = false := beq_eq_false_iff_ne.mpr c6
      have c6b1 : (t644 != 0) = true := bne_iff_ne.mpr c6
      simp only [Option.some.injEq, Prod.mk.injEq] at H
      obtain ⟨rfl, rfl, rfl⟩ := H
      go_enter Try.func47, Try.ntmps47
      go_wp2_with (first | ((with_reducible refine gate_dst (N := 2) rfl ?_); refine box_event ?hg (N := 2) ?hd (cs := #[.int .i64 a0_0, .slice A0_1 l0_1.length c0_1]) (t := 32) ?hr ?_; (case hd => rfl); (case hg => rfl); (case hr => first | (go_simp; done) | (go_simp; rfl)); intro gb641 hg w19 hbox hb; have n0_ := Aside0.mk (below_step (by repeat (first | (with_reducible first | exact HB.out | apply below_alloc | apply pw_below_drewN | apply below_drew1) | exact HB.out)) hb); have n1_ := Aside0.mk (hbox); have n2_ := Aside0.mk ((by rw [hg]; exact (below_size (by repeat (first | (with_reducible first | exact HB.out | apply below_alloc | apply pw_below_drewN | apply below_drew1) | exact HB.out))) : w.heap.size ≤ gb641)); have n3_ := Aside0.mk ((by rw [hg]; exact (below_size (by repeat (first | (with_reducible first | exact HB.out | apply below_alloc | apply pw_below_drewN | apply below_drew1) | exact HB.out))) : w.heap.size ≤ gb641)); clear HB; have HB := n0_; have BK641 := n1_; have GW641 := n2_; have GE641 := n3_; clear n0_ n1_ n2_ n3_; clear hb hbox hg) | ((with_reducible refine gate_dst (N := 3) rfl ?_); refine box_event ?hg (N := 3) ?hd (cs := #[.int .i64 a1_0, .slice A1_1 l1_1.length c1_1]) (t := 32) ?hr ?_; (case hd => rfl); (case hg => rfl); (case hr => first | (go_simp; done) | (go_simp; rfl)); intro gb642 hg w20 hbox hb; have n0_ := Aside0.mk (blk_below (g := gb641) (o := .cells #[.int .i64 a0_0, .slice A0_1 l0_1.length c0_1] 32 (0, 0)) (by (with_reducible repeat (first | refine blk_drewN ?_ _ | refine blk_drew ?_ | refine blk_alloc ?_ _)); exact BK641.out) hb); have n1_ := Aside0.mk (below_step (by repeat (first | (with_reducible first | exact HB.out | apply below_alloc | apply pw_below_drewN | apply below_drew1 | refine below_set ?_ GE641.out) | exact HB.out)) hb); have n2_ := Aside0.mk (hbox); have n3_ := Aside0.mk ((by rw [hg]; exact (below_size (by repeat (first | (with_reducible first | exact HB.out | apply below_alloc | apply pw_below_drewN | apply below_drew1 | refine below_set ?_ GE641.out) | exact HB.out))) : w.heap.size ≤ gb642)); have n4_ := Aside0.mk ((by rw [hg]; exact (below_size (by repeat (first | (with_reducible first | exact HB.out | apply below_alloc | apply pw_below_drewN | apply below_drew1 | refine below_set ?_ GE641.out) | exact HB.out))) : w.heap.size ≤ gb642)); have n5_ := Aside0.mk ((by rw [hg]; exact Nat.ne_of_lt (blk_lt (g := gb641) (o := .cells #[.int .i64 a0_0, .slice A0_1 l0_1.length c0_1] 32 (0, 0)) (by (with_reducible repeat (first | refine blk_drewN ?_ _ | refine blk_drew ?_ | refine blk_alloc ?_ _)); exact BK641.out)) : gb641 ≠ gb642)); have n6_ := Aside0.mk ((by rw [hg]; exact Nat.ne_of_gt (blk_lt (g := gb641) (o := .cells #[.int .i64 a0_0, .slice A0_1 l0_1.length c0_1] 32 (0, 0)) (by (with_reducible repeat (first | refine blk_drewN ?_ _ | refine blk_drew ?_ | refine blk_alloc ?_ _)); exact BK641.out)) : gb642 ≠ gb641)); clear BK641; clear HB; have BK641 := n0_; have HB := n1_; have BK642 := n2_; have GW642 := n3_; have GE642 := n4_; have NB641_642 := n5_; have NB642_641 := n6_; clear n0_ n1_ n2_ n3_ n4_ n5_ n6_; clear hb hbox hg; have hnb21 := NB641_642.out; have hnc21 := NB642_641.out; have hcz22_0 : w20.cell? ⟨gb641, 0, none⟩ = some (.int .i64 a0_0) := (blk_cell BK641.out 0).trans rfl; have hcz22_1 : w20.cell? ⟨gb641, 1, none⟩ = some (.slice A0_1 l0_1.length c0_1) := (blk_cell BK641.out 1).trans rfl; have hfz22_0 := blk_frozen BK641.out 0; have hfz22_1 := blk_frozen BK641.out 1) | ((with_reducible refine gate_callee (f := 56) rfl ?_); refine goesL_ (some 10) rfl rfl Try.func56 (by kernel_rfl) rfl #[.agg #[.int .i64 a0_0, .slice A0_1 l0_1.length c0_1]] rfl (by (try simp only [List.map_toArray, List.map_cons, List.map_nil]); first | done | rfl | (simp only [List.length_drop, List.length_take]; rfl)) ?_; (with_reducible refine (manifest_Check.calls k a0_0 _ _ l0_1 t643 _ ?side1 ?side2 A3.out).mono ?_); (case side1 => repeat (first | exact (Kd.C_below HR0_1.out HB.out) | (with_reducible refine Kd.C_alloc ?_ _) | (with_reducible refine Kd.C_drewN ?_ _) | (with_reducible refine Kd.C_drew ?_))); (case side2 => exact HC0_1.out); rintro e w23 ⟨rfl, hb⟩; refine ⟨_, rfl, ?_⟩; have n0_ := Aside0.mk (blk_below (g := gb641) (o := .cells #[.int .i64 a0_0, .slice A0_1 l0_1.length c0_1] 32 (0, 0)) (by (with_reducible repeat (first | refine blk_drewN ?_ _ | refine blk_drew ?_ | refine blk_alloc ?_ _)); exact BK641.out) hb); have n1_ := Aside0.mk (blk_below (g := gb642) (o := .cells #[.int .i64 a1_0, .slice A1_1 l1_1.length c1_1] 32 (0, 0)) (by (with_reducible repeat (first | refine blk_drewN ?_ _ | refine blk_drew ?_ | refine blk_alloc ?_ _)); exact BK642.out) hb); have n2_ := Aside0.mk (below_step (by repeat (first | (with_reducible first | exact HB.out | apply below_alloc | apply pw_below_drewN | apply below_drew1 | refine below_set ?_ GE641.out | refine below_set ?_ GE642.out) | exact HB.out)) hb); clear BK641; clear BK642; clear HB; have BK641 := n0_; have BK642 := n1_; have HB := n2_; clear n0_ n1_ n2_; (try clear hb); (try clear hb2); (try clear hk); (try clear hi); have hcz24_0 : w23.cell? ⟨gb642, 0, none⟩ = some (.int .i64 a1_0) := (blk_cell BK642.out 0).trans rfl; have hcz24_1 : w23.cell? ⟨gb642, 1, none⟩ = some (.slice A1_1 l1_1.length c1_1) := (blk_cell BK642.out 1).trans rfl; have hfz24_0 := blk_frozen BK642.out 0; have hfz24_1 := blk_frozen BK642.out 1) | ((with_reducible refine gate_callee (f := 56) rfl ?_); refine goesL_ (some 15) rfl rfl Try.func56 (by kernel_rfl) rfl #[.agg #[.int .i64 a1_0, .slice A1_1 l1_1.length c1_1]] rfl (by (try simp only [List.map_toArray, List.map_cons, List.map_nil]); first | done | rfl | (simp only [List.length_drop, List.length_take]; rfl)) ?_; (with_reducible refine (manifest_Check.calls k a1_0 _ _ l1_1 t644 _ ?side1 ?side2 A5.out).mono ?_); (case side1 => repeat (first | exact (Kd.C_below HR1_1.out HB.out) | (with_reducible refine Kd.C_alloc ?_ _) | (with_reducible refine Kd.C_drewN ?_ _) | (with_reducible refine Kd.C_drew ?_))); (case side2 => exact HC1_1.out); rintro e w25 ⟨rfl, hb⟩; refine ⟨_, rfl, ?_⟩; have n0_ := Aside0.mk (blk_below (g := gb641) (o := .cells #[.int .i64 a0_0, .slice A0_1 l0_1.length c0_1] 32 (0, 0)) (by (with_reducible repeat (first | refine blk_drewN ?_ _ | refine blk_drew ?_ | refine blk_alloc ?_ _)); exact BK641.out) hb); have n1_ := Aside0.mk (blk_below (g := gb642) (o := .cells #[.int .i64 a1_0, .slice A1_1 l1_1.length c1_1] 32 (0, 0)) (by (with_reducible repeat (first | refine blk_drewN ?_ _ | refine blk_drew ?_ | refine blk_alloc ?_ _)); exact BK642.out) hb); have n2_ := Aside0.mk (below_step (by repeat (first | (with_reducible first | exact HB.out | apply below_alloc | apply pw_below_drewN | apply below_drew1 | refine below_set ?_ GE641.out | refine below_set ?_ GE642.out) | exact HB.out)) hb); clear BK641; clear BK642; clear HB; have BK641 := n0_; have BK642 := n1_; have HB := n2_; clear n0_ n1_ n2_; (try clear hb); (try clear hb2); (try clear hk); (try clear hi)))
      go_ret3
      exact ⟨_, _, by first | rfl | (simp [errW_none, errW_some] <;> rfl) | (simp [*, errW_none, errW_some] <;> rfl), by first | exact Kd.R_nil _ _ _ _ _ | exact Kd.N_nil _ _ _ _ _ | exact Kd.V_nil _ _ _ _ _ | exact Kd.Q_nil _ _ _ _ _ | exact Kd.S_nil _ _ _ _ _, by first | exact Kd.R_nil _ _ _ _ _ | exact Kd.N_nil _ _ _ _ _ | exact Kd.V_nil _ _ _ _ _ | exact Kd.Q_nil _ _ _ _ _ | exact Kd.S_nil _ _ _ _ _, by repeat (first | (with_reducible first | exact HB.out | apply below_alloc | apply pw_below_drewN | apply below_drew1 | refine below_set ?_ GE641.out | refine below_set ?_ GE642.out) | exact HB.out)⟩
  · rw [if_neg c4] at H
    have c4b0 : (t643 == 0) = false := beq_eq_false_iff_ne.mpr c4
    have c4b1 : (t643 != 0) = true := bne_iff_ne.mpr c4
    simp only [Option.some.injEq, Prod.mk.injEq] at H
    obtain ⟨rfl, rfl, rfl⟩ := H
    go_enter Try.func47, Try.ntmps47
    go_wp2_with (first | ((with_reducible refine gate_dst (N := 2) rfl ?_); refine box_event ?hg (N := 2) ?hd (cs := #[.int .i64 a0_0, .slice A0_1 l0_1.length c0_1]) (t := 32) ?hr ?_; (case hd => rfl); (case hg => rfl); (case hr => first | (go_simp; done) | (go_simp; rfl)); intro gb641 hg w26 hbox hb; have n0_ := Aside0.mk (below_step (by repeat (first | (with_reducible first | exact HB.out | apply below_alloc | apply pw_below_drewN | apply below_drew1) | exact HB.out)) hb); have n1_ := Aside0.mk (hbox); have n2_ := Aside0.mk ((by rw [hg]; exact (below_size (by repeat (first | (with_reducible first | exact HB.out | apply below_alloc | apply pw_below_drewN | apply below_drew1) | exact HB.out))) : w.heap.size ≤ gb641)); have n3_ := Aside0.mk ((by rw [hg]; exact (below_size (by repeat (first | (with_reducible first | exact HB.out | apply below_alloc | apply pw_below_drewN | apply below_drew1) | exact HB.out))) : w.heap.size ≤ gb641)); clear HB; have HB := n0_; have BK641 := n1_; have GW641 := n2_; have GE641 := n3_; clear n0_ n1_ n2_ n3_; clear hb hbox hg) | ((with_reducible refine gate_dst (N := 3) rfl ?_); refine box_event ?hg (N := 3) ?hd (cs := #[.int .i64 a1_0, .slice A1_1 l1_1.length c1_1]) (t := 32) ?hr ?_; (case hd => rfl); (case hg => rfl); (case hr => first | (go_simp; done) | (go_simp; rfl)); intro gb642 hg w27 hbox hb; have n0_ := Aside0.mk (blk_below (g := gb641) (o := .cells #[.int .i64 a0_0, .slice A0_1 l0_1.length c0_1] 32 (0, 0)) (by (with_reducible repeat (first | refine blk_drewN ?_ _ | refine blk_drew ?_ | refine blk_alloc ?_ _)); exact BK641.out) hb); have n1_ := Aside0.mk (below_step (by repeat (first | (with_reducible first | exact HB.out | apply below_alloc | apply pw_below_drewN | apply below_drew1 | refine below_set ?_ GE641.out) | exact HB.out)) hb); have n2_ := Aside0.mk (hbox); have n3_ := Aside0.mk ((by rw [hg]; exact (below_size (by repeat (first | (with_reducible first | exact HB.out | apply below_alloc | apply pw_below_drewN | apply below_drew1 | refine below_set ?_ GE641.out) | exact HB.out))) : w.heap.size ≤ gb642)); have n4_ := Aside0.mk ((by rw [hg]; exact (below_size (by repeat (first | (with_reducible first | exact HB.out | apply below_alloc | apply pw_below_drewN | apply below_drew1 | refine below_set ?_ GE641.out) | exact HB.out))) : w.heap.size ≤ gb642)); have n5_ := Aside0.mk ((by rw [hg]; exact Nat.ne_of_lt (blk_lt (g := gb641) (o := .cells #[.int .i64 a0_0, .slice A0_1 l0_1.length c0_1] 32 (0, 0)) (by (with_reducible repeat (first | refine blk_drewN ?_ _ | refine blk_drew ?_ | refine blk_alloc ?_ _)); exact BK641.out)) : gb641 ≠ gb642)); have n6_ := Aside0.mk ((by rw [hg]; exact Nat.ne_of_gt (blk_lt (g := gb641) (o := .cells #[.int .i64 a0_0, .slice A0_1 l0_1.length c0_1] 32 (0, 0)) (by (with_reducible repeat (first | refine blk_drewN ?_ _ | refine blk_drew ?_ | refine blk_alloc ?_ _)); exact BK641.out)) : gb642 ≠ gb641)); clear BK641; clear HB; have BK641 := n0_; have HB := n1_; have BK642 := n2_; have GW642 := n3_; have GE642 := n4_; have NB641_642 := n5_; have NB642_641 := n6_; clear n0_ n1_ n2_ n3_ n4_ n5_ n6_; clear hb hbox hg; have hnb28 := NB641_642.out; have hnc28 := NB642_641.out; have hcz29_0 : w27.cell? ⟨gb641, 0, none⟩ = some (.int .i64 a0_0) := (blk_cell BK641.out 0).trans rfl; have hcz29_1 : w27.cell? ⟨gb641, 1, none⟩ = some (.slice A0_1 l0_1.length c0_1) := (blk_cell BK641.out 1).trans rfl; have hfz29_0 := blk_frozen BK641.out 0; have hfz29_1 := blk_frozen BK641.out 1) | ((with_reducible refine gate_callee (f := 56) rfl ?_); refine goesL_ (some 10) rfl rfl Try.func56 (by kernel_rfl) rfl #[.agg #[.int .i64 a0_0, .slice A0_1 l0_1.length c0_1]] rfl (by (try simp only [List.map_toArray, List.map_cons, List.map_nil]); first | done | rfl | (simp only [List.length_drop, List.length_take]; rfl)) ?_; (with_reducible refine (manifest_Check.calls k a0_0 _ _ l0_1 t643 _ ?side1 ?side2 A3.out).mono ?_); (case side1 => repeat (first | exact (Kd.C_below HR0_1.out HB.out) | (with_reducible refine Kd.C_alloc ?_ _) | (with_reducible refine Kd.C_drewN ?_ _) | (with_reducible refine Kd.C_drew ?_))); (case side2 => exact HC0_1.out); rintro e w30 ⟨rfl, hb⟩; refine ⟨_, rfl, ?_⟩; have n0_ := Aside0.mk (blk_below (g := gb641) (o := .cells #[.int .i64 a0_0, .slice A0_1 l0_1.length c0_1] 32 (0, 0)) (by (with_reducible repeat (first | refine blk_drewN ?_ _ | refine blk_drew ?_ | refine blk_alloc ?_ _)); exact BK641.out) hb); have n1_ := Aside0.mk (blk_below (g := gb642) (o := .cells #[.int .i64 a1_0, .slice A1_1 l1_1.length c1_1] 32 (0, 0)) (by (with_reducible repeat (first | refine blk_drewN ?_ _ | refine blk_drew ?_ | refine blk_alloc ?_ _)); exact BK642.out) hb); have n2_ := Aside0.mk (below_step (by repeat (first | (with_reducible first | exact HB.out | apply below_alloc | apply pw_below_drewN | apply below_drew1 | refine below_set ?_ GE641.out | refine below_set ?_ GE642.out) | exact HB.out)) hb); clear BK641; clear BK642; clear HB; have BK641 := n0_; have BK642 := n1_; have HB := n2_; clear n0_ n1_ n2_; (try clear hb); (try clear hb2); (try clear hk); (try clear hi)))
    go_ret3
    exact ⟨_, _, by first | rfl | (simp [errW_none, errW_some] <;> rfl) | (simp [*, errW_none, errW_some] <;> rfl), by first | exact Kd.R_nil _ _ _ _ _ | exact Kd.N_nil _ _ _ _ _ | exact Kd.V_nil _ _ _ _ _ | exact Kd.Q_nil _ _ _ _ _ | exact Kd.S_nil _ _ _ _ _, by first | exact Kd.R_nil _ _ _ _ _ | exact Kd.N_nil _ _ _ _ _ | exact Kd.V_nil _ _ _ _ _ | exact Kd.Q_nil _ _ _ _ _ | exact Kd.S_nil _ _ _ _ _, by repeat (first | (with_reducible first | exact HB.out | apply below_alloc | apply pw_below_drewN | apply below_drew1 | refine below_set ?_ GE641.out | refine below_set ?_ GE642.out) | exact HB.out)⟩
end Go.Proofs.Ytodhkbahjomfhaa.Q

namespace Go.Proofs.Ytodhkbahjomfhaa.Q
open Go.RowKit Go.Proofs.YtodhkbahjomfhaaW.PrintWords Go.Proofs.YtodhkbahjomfhaaW.PrintLast Go.Proofs.YtodhkbahjomfhaaW.PrintMore Go.Proofs.Ytodhkbahjomfhaa.Gput Go.Proofs.Ytodhkbahjomfhaa.Gputl
attribute [local go_sem] max2_int min2_int max_two min_two max_three min_three max_four min_four   -- for this text's walks alone
set_option linter.unusedVariables false
set_option linter.unusedSimpArgs false
noncomputable def storagebartermake_Bytes.l0 : Nat → List Int → Int → List Int → Int → Option (ByteArray × Int)
  | 0, _, _, _, _ => none
  | k + 1, x5, x6, x1000, x1001 => if x6 ≥ 0 then ((storagebartermake_Deck_Next.f x1000 x1001 256).bind fun bt707 => (if x5.length < 140737488355328 then (storagebartermake_Bytes.l0 k (x5 ++ [(bt707.1) % 256]) (wrap64 (x6 - 1)) x1000 bt707.2) else (none))) else (some (strOfNums x5, x1001))
noncomputable def storagebartermake_Bytes.f (k : Nat) (s0_0 : List Int) (s0_1 : Int) (a1 : Int) : Option (ByteArray × Int) := (storagebartermake_Deck_Next.f s0_0 s0_1 a1).bind fun bt705 => (storagebartermake_Bytes.l0 k ([] : List Int) bt705.1 s0_0 bt705.2)
theorem storagebartermake_Bytes.mono_l : ∀ k, (∀ y0 y1 y2 y3, LeO (storagebartermake_Bytes.l0 k y0 y1 y2 y3) (storagebartermake_Bytes.l0 (k + 1) y0 y1 y2 y3))
  | 0 => fun _ _ _ _ r h => by simp [storagebartermake_Bytes.l0] at h
  | k + 1 => by
    have ih0 := storagebartermake_Bytes.mono_l k
    · intro y0 y1 y2 y3
      unfold storagebartermake_Bytes.l0
      repeat' first
      | (with_reducible exact ih0 _ _ _ _)
      | (with_reducible exact LeO.refl _)
      | (with_reducible exact LeO.none _)
      | (with_reducible refine LeO.ite ?_ ?_)
      | (with_reducible refine LeO.bind ?_ (fun _ => ?_))
      | exact ih0 _ _ _ _
      | exact LeO.none _
      | refine LeO.ite ?_ ?_
      | refine LeO.bind ?_ (fun _ => ?_)
theorem storagebartermake_Bytes.mono : ∀ a0 a1 a2 k, LeO (storagebartermake_Bytes.f k a0 a1 a2) (storagebartermake_Bytes.f (k + 1) a0 a1 a2) := by
  intro a0 a1 a2 k
  have ih0 := storagebartermake_Bytes.mono_l k
  unfold storagebartermake_Bytes.f
  repeat' first
      | (with_reducible exact ih0 _ _ _ _)
      | (with_reducible exact LeO.refl _)
      | (with_reducible exact LeO.none _)
      | (with_reducible refine LeO.ite ?_ ?_)
      | (with_reducible refine LeO.bind ?_ (fun _ => ?_))
      | exact ih0 _ _ _ _
      | exact LeO.none _
      | refine LeO.ite ?_ ?_
      | refine LeO.bind ?_ (fun _ => ?_)
set_option maxHeartbeats 8000000 in
set_option maxRecDepth 100000 in
theorem storagebartermake_Bytes.calls (k : Nat) (g : Nat) (s0_0 : List Int) (s0_1 : Int) (a1 : Int) (r1 : ByteArray) (r2 : Int) (w0 w : World) (hI : IsS86 w0 w g s0_0 s0_1) (hB : Below w0.heap.size w0 w) (h : storagebartermake_Bytes.f k s0_0 s0_1 a1 = some (r1, r2)) :
    Calls Try.prog 50 #[.pointer (some ⟨g, 0, none⟩), .int .i64 a1] w fun e w' => e = .returned (.string r1) ∧ IsS86 w0 w' g s0_0 r2 ∧ Below w0.heap.size w0 w' ∧ KeepBut w w' g none := by
  have HI0 := Aside0.mk hI
  have HK := Aside0.mk (KeepBut.refl w g none)
  have HL := Aside0.mk hB.size
  clear hI
  have HW0 := Aside0.mk hB.size
  have HB := Aside0.mk hB
  clear hB
  have H : ((storagebartermake_Deck_Next.f s0_0 s0_1 a1).bind fun bt705 => (storagebartermake_Bytes.l0 k ([] : List Int) bt705.1 s0_0 bt705.2)) = some (r1, r2) := h
  clear h
  replace H := Option.bind_eq_some_iff.mp H
  obtain ⟨⟨t705, t706⟩, A30, H⟩ := H
  replace H : (storagebartermake_Bytes.l0 k ([] : List Int) t705 s0_0 t706) = some (r1, r2) := H
  have A3 := Aside0.mk A30
  clear A30
  have H' := Aside0.mk H
  clear H
  go_enter Try.func50, Try.ntmps50
  go_wp2_with (first | ((with_reducible refine gate_callee (f := 19) rfl ?_); refine goesL_ (some 9) rfl rfl Try.func19 (by kernel_rfl) rfl #[.pointer (some ⟨g, 0, none⟩), .int .i64 a1] rfl (by (try simp only [List.map_toArray, List.map_cons, List.map_nil]); first | done | rfl | (simp only [List.length_drop, List.length_take]; rfl)) ?_; (with_reducible refine (storagebartermake_Deck_Next.calls g s0_0 s0_1 a1 t705 t706 w0 _ ?side1 ?side2 A3.out).mono ?_); (case side1 => repeat (first | (with_reducible first | exact HI0.out | apply IsS86.alloc | apply IsS86.drewN | apply IsS86.drew | apply IsS86.set_1) | exact HI0.out)); (case side2 => repeat (first | (with_reducible first | exact HB.out | apply below_alloc | apply pw_below_drewN | apply below_drew1 | refine below_set ?_ (IsS86.ge HI0.out)) | exact HB.out)); rintro e w4 ⟨rfl, hi, hb, hk⟩; refine ⟨_, rfl, ?_⟩; have n0_ := Aside0.mk (KeepBut.trans (by repeat (first | (with_reducible first | exact HK.out | apply KeepBut.set_ | apply keep_drewN | apply keep_drew | apply keep_alloc) | exact HK.out)) hk (.inl rfl)); have n1_ := Aside0.mk (hb); have n2_ := Aside0.mk (hi); clear HK; clear HB; clear HI0; have HK := n0_; have HB := n1_; have HI0 := n2_; clear n0_ n1_ n2_; (try clear hb); (try clear hb2); (try clear hk); (try clear hi)))
  go_loopg [5, 6] k (fun kq v5 v6 w' => ∃ (x5_1 : List Int) (x6_1 : Int) (x1001_1 : Int), v6 = .int .i64 x6_1 ∧ Aside0 (storagebartermake_Bytes.l0 kq x5_1 x6_1 s0_0 x1001_1 = some (r1, r2)) ∧ Aside0 (kq ≤ k) ∧ Aside0 (Kd.R (Kd.int .u8) 5 w' w.heap.size (fun _ => True) v5 x5_1) ∧ Aside0 (IsS86 w0 w' g s0_0 x1001_1) ∧ Aside0 (KeepBut w w' g none) ∧ Aside0 (Below w0.heap.size w0 w'))
  case atStart => exact ⟨(([] : List Int)), (t705), (t706), (by first | rfl | (simp; done) | (simp [*]; done)), H', ⟨Nat.le_refl _⟩, ⟨by first | exact Kd.R_nil _ _ _ _ _ | exact Kd.N_nil _ _ _ _ _ | exact Kd.V_nil _ _ _ _ _ | exact Kd.Q_nil _ _ _ _ _ | exact Kd.S_nil _ _ _ _ _⟩, ⟨by repeat (first | (with_reducible first | exact HI0.out | apply IsS86.alloc | apply IsS86.drewN | apply IsS86.drew | apply IsS86.set_1) | exact HI0.out)⟩, ⟨by repeat (first | (with_reducible first | exact HK.out | apply KeepBut.set_ | apply keep_drewN | apply keep_drew | apply keep_alloc) | exact HK.out)⟩, ⟨by repeat (first | (with_reducible first | exact HB.out | apply below_alloc | apply pw_below_drewN | apply below_drew1 | refine below_set ?_ (IsS86.ge HI0.out)) | exact HB.out)⟩⟩
  case round =>
    clear H'
    try clear c1
    try clear p2
    obtain ⟨x5_1, x6_1, x1001_1, rfl, HA, HK1, HO_5, HI0, HK, HB⟩ := hrel
    cases gk with
    | zero => exact absurd HA.out (by simp [storagebartermake_Bytes.l0])
    | succ k1 =>
      have H := HA.out
      clear HA
      simp only [storagebartermake_Bytes.l0] at H
      by_cases c5 : x6_1 ≥ 0
      · rw [if_pos c5] at H
        have c5b0 : decide (0 ≤ x6_1) = true := decide_eq_true c5
        clear c5
        replace H := Option.bind_eq_some_iff.mp H
        obtain ⟨⟨t707, t708⟩, A60, H⟩ := H
        replace H : (if x5_1.length < 140737488355328 then (storagebartermake_Bytes.l0 k1 (x5_1 ++ [(t707) % 256]) (wrap64 (x6_1 - 1)) s0_0 t708) else (none)) = some (r1, r2) := H
        have A6 := Aside0.mk A60
        clear A60
        by_cases c7 : x5_1.length < 140737488355328
        · rw [if_pos c7] at H
          have LMc7 := Aside0.mk c7
          clear c7
          obtain ⟨y709, hy709⟩ : ∃ y_ : List Int, y_ = (x5_1 ++ [(t707) % 256]) := ⟨_, rfl⟩
          replace H : (storagebartermake_Bytes.l0 k1 y709 (wrap64 (x6_1 - 1)) s0_0 t708) = some (r1, r2) := by first | (rw [hy709]; with_reducible exact H) | (have H2_ := (Option.bind_some _ _).symm.trans H; rw [hy709]; with_reducible exact H2_) | (have H2_ := (Option.bind_some _ _).symm.trans H; with_reducible exact H2_) | with_reducible exact H | (rw [hy709]; exact H) | exact H
          have Ny709 := Aside0.mk hy709
          clear hy709
          have H' := Aside0.mk H
          clear H
          go_wp2_with (first | ((with_reducible refine gate_callee (f := 19) rfl ?_); refine goesL_ (some 16) rfl rfl Try.func19 (by kernel_rfl) rfl #[.pointer (some ⟨g, 0, none⟩), .int .i64 256] rfl (by (try simp only [List.map_toArray, List.map_cons, List.map_nil]); first | done | rfl | (simp only [List.length_drop, List.length_take]; rfl)) ?_; (with_reducible refine (storagebartermake_Deck_Next.calls g s0_0 x1001_1 256 t707 t708 w0 _ ?side1 ?side2 A6.out).mono ?_); (case side1 => repeat (first | (with_reducible first | exact HI0.out | apply IsS86.alloc | apply IsS86.drewN | apply IsS86.drew | apply IsS86.set_1) | exact HI0.out)); (case side2 => repeat (first | (with_reducible first | exact HB.out | apply below_alloc | apply pw_below_drewN | apply below_drew1 | refine below_set ?_ (IsS86.ge HI0.out)) | exact HB.out)); rintro e w8 ⟨rfl, hi, hb, hk⟩; refine ⟨_, rfl, ?_⟩; have n0_ := Aside0.mk (Kd.R_mono (Kd.R_keep (IsS86.apart (show IsS86 w0 _ g s0_0 x1001_1 from by repeat (first | (with_reducible first | exact HI0.out | apply IsS86.alloc | apply IsS86.drewN | apply IsS86.drew | apply IsS86.set_1) | exact HI0.out)) (by (with_reducible repeat (first | apply Kd.R_alloc | apply Kd.R_drewN | apply Kd.R_drew)); exact HO_5.out) (by decide)) hk (fun _ h => h.2)) (fun _ h => h.1)); have n1_ := Aside0.mk (KeepBut.trans (by repeat (first | (with_reducible first | exact HK.out | apply KeepBut.set_ | apply keep_drewN | apply keep_drew | apply keep_alloc) | exact HK.out)) hk (.inl rfl)); have n2_ := Aside0.mk (hb); have n3_ := Aside0.mk (hi); clear HO_5; clear HK; clear HB; clear HI0; have HO_5 := n0_; have HK := n1_; have HB := n2_; have HI0 := n3_; clear n0_ n1_ n2_ n3_; (try clear hb); (try clear hb2); (try clear hk); (try clear hi)) | ((with_reducible refine gate_builtin (b := .append) (xs := #[.tmp 14, .tmp 18]) rfl ?_); at_builtin; refine Kd.R_append (Kd.int .u8) w.heap.size rfl (.tmp 14) (.tmp 18) 43 5 (.int .u8 0) 1 rfl Try.underlying43 info5 rfl (by decide) (by omega) u5 x5_1 ((t707) % 256) [.int .u8 ((t707) % 256)] (fun _ => True) (fun _ => False) rfl rfl ?aP (fun _ hk => hk.elim) ?aF ?aO (Below.refl _ _) ?aS ?aL ?_; (case aP => exact rfl); (case aF => exact (fun _ _ => trivial)); (case aO => exact (by (with_reducible repeat (first | apply Kd.R_alloc | apply Kd.R_drewN | apply Kd.R_drew)); exact HO_5.out)); (case aS => exact (keep_size (w := w) (g := g) (row := none) (by repeat (first | (with_reducible first | exact HK.out | apply KeepBut.set_ | apply keep_drewN | apply keep_drew | apply keep_alloc) | exact HK.out)))); (case aL => have := LMc7.out; omega); intro v710 w9 ho hb hg hat; rw [← Ny709.out] at ho; have n0_ := Aside0.mk (IsS86.grown (by repeat (first | (with_reducible first | exact HI0.out | apply IsS86.alloc | apply IsS86.drewN | apply IsS86.drew | apply IsS86.set_1) | exact HI0.out)) hg (IsS86.own_ne HI0.out HO_5.out (by decide))); have n1_ := Aside0.mk (below_weaken (by repeat (first | (with_reducible first | exact HB.out | apply below_alloc | apply pw_below_drewN | apply below_drew1 | refine below_set ?_ (IsS86.ge HI0.out)) | exact HB.out)) HL.out hb); have n2_ := Aside0.mk (KeepBut.trans (by repeat (first | (with_reducible first | exact HK.out | apply KeepBut.set_ | apply keep_drewN | apply keep_drew | apply keep_alloc) | exact HK.out)) (KeepBut.of_grown hg g) (Kd.R_base2 HO_5.out)); have n3_ := Aside0.mk (ho); clear HI0; clear HB; clear HK; clear HO_5; have HI0 := n0_; have HB := n1_; have HK := n2_; have HO711 := n3_; clear n0_ n1_ n2_ n3_; clear ho hb hg hat))
          go_roundg k1
          case measure => have := HK1.out; omega
          case rel => exact ⟨(y709), (wrap64 (x6_1 - 1)), (t708), (by first | rfl | (simp; done) | (simp [*]; done)), H', ⟨by have := HK1.out; omega⟩, ⟨by (with_reducible repeat (first | apply Kd.R_alloc | apply Kd.R_drewN | apply Kd.R_drew)); exact HO711.out⟩, ⟨by repeat (first | (with_reducible first | exact HI0.out | apply IsS86.alloc | apply IsS86.drewN | apply IsS86.drew | apply IsS86.set_1) | exact HI0.out)⟩, ⟨by repeat (first | (with_reducible first | exact HK.out | apply KeepBut.set_ | apply keep_drewN | apply keep_drew | apply keep_alloc) | exact HK.out)⟩, ⟨by repeat (first | (with_reducible first | exact HB.out | apply below_alloc | apply pw_below_drewN | apply below_drew1 | refine below_set ?_ (IsS86.ge HI0.out)) | exact HB.out)⟩⟩
        · rw [if_neg c7] at H
          exact absurd H (by simp)
      · rw [if_neg c5] at H
        have c5b0 : decide (0 ≤ x6_1) = false := decide_eq_false c5
        clear c5
        simp only [Option.some.injEq, Prod.mk.injEq] at H
        obtain ⟨rfl, rfl⟩ := H
        have hcv10 := own_string (P := Try.prog) Try.underlying43 Try.underlying5 Try.underlying9 (Kd.own_of_R HO_5.out)
        go_wp2
        go_ret
        exact ⟨by first | rfl | (simp [errW_none, errW_some] <;> rfl) | (simp [*, errW_none, errW_some] <;> rfl), by repeat (first | (with_reducible first | exact HI0.out | apply IsS86.alloc | apply IsS86.drewN | apply IsS86.drew | apply IsS86.set_1) | exact HI0.out), by repeat (first | (with_reducible first | exact HB.out | apply below_alloc | apply pw_below_drewN | apply below_drew1 | refine below_set ?_ (IsS86.ge HI0.out)) | exact HB.out), by repeat (first | (with_reducible first | exact HK.out | apply KeepBut.set_ | apply keep_drewN | apply keep_drew | apply keep_alloc) | exact HK.out)⟩
end Go.Proofs.Ytodhkbahjomfhaa.Q

namespace Go.Proofs.Ytodhkbahjomfhaa.Q
open Go.RowKit Go.Proofs.YtodhkbahjomfhaaW.PrintWords Go.Proofs.YtodhkbahjomfhaaW.PrintLast Go.Proofs.YtodhkbahjomfhaaW.PrintMore Go.Proofs.Ytodhkbahjomfhaa.Gput Go.Proofs.Ytodhkbahjomfhaa.Gputl
attribute [local go_sem] max2_int min2_int max_two min_two max_three min_three max_four min_four   -- for this text's walks alone
set_option linter.unusedVariables false
set_option linter.unusedSimpArgs false
mutual
noncomputable def storagebarterlaw08_ManifestAppends.j0 : Nat → List ByteArray → ByteArray → Int → Int → Bool → Int → List (S78) → Int → List (S78) → Option (Bool)
  | 0, _, _, _, _, _, _, _, _, _ => none
  | k + 1, x4, x5, x7, x9, x50, x729000, x729001, x741000, x741001 => if x50 = true then (if x7 = 8 then (some true) else (some (x9 == 8))) else (storagebarterlaw08_ManifestAppends.l0 k x5 false x4 (x4.length : Int) 0 x729000 x729001 x741000 x741001)
noncomputable def storagebarterlaw08_ManifestAppends.l0 : Nat → ByteArray → Bool → List ByteArray → Int → Int → Int → List (S78) → Int → List (S78) → Option (Bool)
  | 0, _, _, _, _, _, _, _, _, _ => none
  | k + 1, x5, x10, x57, x58, x59, x729000, x729001, x741000, x741001 => if x59 < x58 then (if 0 ≤ x59 then (if x59 < (x57.length : Int) then (if x10 = true then (storagebarterlaw08_ManifestAppends.l0 k x5 true x57 x58 (wrap64 (x59 + 1)) x729000 x729001 x741000 x741001) else (storagebarterlaw08_ManifestAppends.l0 k x5 ((rdOf ByteArray.empty x57 x59).toList == x5.toList) x57 x58 (wrap64 (x59 + 1)) x729000 x729001 x741000 x741001)) else (none)) else (none)) else ((manifest_Change.f k x729000 x729001 x741000 x741001).bind fun bt742 => ((manifest_Size.f k x729000 x729001).bind fun bt749 => ((manifest_Size.f k x741000 x741001).bind fun bt751 => (if bt742.2.2 = 0 then (if bt749.2 = 0 then (if bt751.2 = 0 then (if (x741001.length : Int) = (wrap64 ((x729001.length : Int) + 1)) then (if (bt742.2.1.length : Int) = 0 then (if (((bt742.1.length : Int) == 0) == x10) = true then (if (bt742.1.length : Int) ≤ 1 then (some (bt751.1 == (wrap64 (bt749.1 + (x5.size : Int))))) else (some false)) else (some false)) else (some false)) else (some false)) else (some false)) else (some false)) else (some false)))))
end
noncomputable def storagebarterlaw08_ManifestAppends.f (k : Nat) (l0 : List Int) : Option (Bool) := (storagebarterlaw08_sane.f k).bind fun t712 => (if t712 = true then ((storagebartermake_Few.f l0).bind fun t713 => (if t713 = true then ((storagebartermake_New.f l0).bind fun bt714 => ((storagebartermake_Chunks.f k bt714.1 bt714.2).bind fun bt717 => ((storagebartermake_Bytes.f k bt714.1 bt717.2 20).bind fun bt721 => ((manifest_Of.f 1 bt717.1).bind fun bt723 => (if ([] : List ByteArray).length + bt717.1.length < 8796093022208 then ((some (([] : List ByteArray) ++ bt717.1 : List ByteArray)).bind fun y729 => (if y729.length < 8796093022208 then ((manifest_Of.f 2 (y729 ++ [bt721.1])).bind fun bt735 => (if bt723.2.2 = 0 then (storagebarterlaw08_ManifestAppends.j0 k bt717.1 bt721.1 bt723.2.2 bt735.2.2 (bt735.2.2 != 0) bt723.1 bt723.2.1 bt735.1 bt735.2.1) else (storagebarterlaw08_ManifestAppends.j0 k bt717.1 bt721.1 bt723.2.2 bt735.2.2 true bt723.1 bt723.2.1 bt735.1 bt735.2.1))) else (none))) else (none)))))) else (some true))) else (some false))
theorem storagebarterlaw08_ManifestAppends.mono_l : ∀ k, (∀ y0 y1 y2 y3 y4 y5 y6 y7 y8, LeO (storagebarterlaw08_ManifestAppends.j0 k y0 y1 y2 y3 y4 y5 y6 y7 y8) (storagebarterlaw08_ManifestAppends.j0 (k + 1) y0 y1 y2 y3 y4 y5 y6 y7 y8)) ∧ (∀ y0 y1 y2 y3 y4 y5 y6 y7 y8, LeO (storagebarterlaw08_ManifestAppends.l0 k y0 y1 y2 y3 y4 y5 y6 y7 y8) (storagebarterlaw08_ManifestAppends.l0 (k + 1) y0 y1 y2 y3 y4 y5 y6 y7 y8))
  | 0 => ⟨fun _ _ _ _ _ _ _ _ _ r h => by simp [storagebarterlaw08_ManifestAppends.j0] at h, fun _ _ _ _ _ _ _ _ _ r h => by simp [storagebarterlaw08_ManifestAppends.l0] at h⟩
  | k + 1 => by
    obtain ⟨ih0, ih1⟩ := storagebarterlaw08_ManifestAppends.mono_l k
    refine ⟨?_, ?_⟩
    · intro y0 y1 y2 y3 y4 y5 y6 y7 y8
      unfold storagebarterlaw08_ManifestAppends.j0
      repeat' first
      | (with_reducible exact ih0 _ _ _ _ _ _ _ _ _)
      | (with_reducible exact ih1 _ _ _ _ _ _ _ _ _)
      | (with_reducible exact manifest_Change.mono _ _ _ _ _)
      | (with_reducible exact manifest_Size.mono _ _ _)
      | (with_reducible exact storagebarterlaw08_sane.mono _)
      | (with_reducible exact storagebartermake_Bytes.mono _ _ _ _)
      | (with_reducible exact storagebartermake_Chunks.mono _ _ _)
      | (with_reducible exact LeO.refl _)
      | (with_reducible exact LeO.none _)
      | (with_reducible refine LeO.ite ?_ ?_)
      | (with_reducible refine LeO.bind ?_ (fun _ => ?_))
      | exact ih0 _ _ _ _ _ _ _ _ _
      | exact ih1 _ _ _ _ _ _ _ _ _
      | exact manifest_Change.mono _ _ _ _ _
      | exact manifest_Size.mono _ _ _
      | exact storagebarterlaw08_sane.mono _
      | exact storagebartermake_Bytes.mono _ _ _ _
      | exact storagebartermake_Chunks.mono _ _ _
      | exact LeO.none _
      | refine LeO.ite ?_ ?_
      | refine LeO.bind ?_ (fun _ => ?_)
    · intro y0 y1 y2 y3 y4 y5 y6 y7 y8
      unfold storagebarterlaw08_ManifestAppends.l0
      repeat' first
      | (with_reducible exact ih0 _ _ _ _ _ _ _ _ _)
      | (with_reducible exact ih1 _ _ _ _ _ _ _ _ _)
      | (with_reducible exact manifest_Change.mono _ _ _ _ _)
      | (with_reducible exact manifest_Size.mono _ _ _)
      | (with_reducible exact storagebarterlaw08_sane.mono _)
      | (with_reducible exact storagebartermake_Bytes.mono _ _ _ _)
      | (with_reducible exact storagebartermake_Chunks.mono _ _ _)
      | (with_reducible exact LeO.refl _)
      | (with_reducible exact LeO.none _)
      | (with_reducible refine LeO.ite ?_ ?_)
      | (with_reducible refine LeO.bind ?_ (fun _ => ?_))
      | exact ih0 _ _ _ _ _ _ _ _ _
      | exact ih1 _ _ _ _ _ _ _ _ _
      | exact manifest_Change.mono _ _ _ _ _
      | exact manifest_Size.mono _ _ _
      | exact storagebarterlaw08_sane.mono _
      | exact storagebartermake_Bytes.mono _ _ _ _
      | exact storagebartermake_Chunks.mono _ _ _
      | exact LeO.none _
      | refine LeO.ite ?_ ?_
      | refine LeO.bind ?_ (fun _ => ?_)
theorem storagebarterlaw08_ManifestAppends.mono : ∀ a0 k, LeO (storagebarterlaw08_ManifestAppends.f k a0) (storagebarterlaw08_ManifestAppends.f (k + 1) a0) := by
  intro a0 k
  obtain ⟨ih0, ih1⟩ := storagebarterlaw08_ManifestAppends.mono_l k
  unfold storagebarterlaw08_ManifestAppends.f
  repeat' first
      | (with_reducible exact ih0 _ _ _ _ _ _ _ _ _)
      | (with_reducible exact ih1 _ _ _ _ _ _ _ _ _)
      | (with_reducible exact manifest_Change.mono _ _ _ _ _)
      | (with_reducible exact manifest_Size.mono _ _ _)
      | (with_reducible exact storagebarterlaw08_sane.mono _)
      | (with_reducible exact storagebartermake_Bytes.mono _ _ _ _)
      | (with_reducible exact storagebartermake_Chunks.mono _ _ _)
      | (with_reducible exact LeO.refl _)
      | (with_reducible exact LeO.none _)
      | (with_reducible refine LeO.ite ?_ ?_)
      | (with_reducible refine LeO.bind ?_ (fun _ => ?_))
      | exact ih0 _ _ _ _ _ _ _ _ _
      | exact ih1 _ _ _ _ _ _ _ _ _
      | exact manifest_Change.mono _ _ _ _ _
      | exact manifest_Size.mono _ _ _
      | exact storagebarterlaw08_sane.mono _
      | exact storagebartermake_Bytes.mono _ _ _ _
      | exact storagebartermake_Chunks.mono _ _ _
      | exact LeO.none _
      | refine LeO.ite ?_ ?_
      | refine LeO.bind ?_ (fun _ => ?_)
set_option maxHeartbeats 8000000 in
set_option maxRecDepth 100000 in
theorem storagebarterlaw08_ManifestAppends.calls (k : Nat) (A0 : Option Addr) (c0 : Nat) (l0 : List Int) (r : Bool) (w : World) (hr0 : Kd.C (Kd.int .i64) w A0 l0.length l0) (hc0 : l0.length ≤ c0) (h : storagebarterlaw08_ManifestAppends.f k l0 = some r) (hrt : r = true) :
    Calls Try.prog 11 #[.slice A0 l0.length c0] w fun e w' => e = .returned (.bool r) ∧ Below w.heap.size w w' := by
  have hu32 := Try.underlying32
  have HR0 := Aside0.mk hr0
  have HC0 := Aside0.mk hc0
  clear hr0 hc0
  have HB := Aside0.mk (Below.refl w.heap.size w)
  have H : ((storagebarterlaw08_sane.f k).bind fun t712 => (if t712 = true then ((storagebartermake_Few.f l0).bind fun t713 => (if t713 = true then ((storagebartermake_New.f l0).bind fun bt714 => ((storagebartermake_Chunks.f k bt714.1 bt714.2).bind fun bt717 => ((storagebartermake_Bytes.f k bt714.1 bt717.2 20).bind fun bt721 => ((manifest_Of.f 1 bt717.1).bind fun bt723 => (if ([] : List ByteArray).length + bt717.1.length < 8796093022208 then ((some (([] : List ByteArray) ++ bt717.1 : List ByteArray)).bind fun y729 => (if y729.length < 8796093022208 then ((manifest_Of.f 2 (y729 ++ [bt721.1])).bind fun bt735 => (if bt723.2.2 = 0 then (storagebarterlaw08_ManifestAppends.j0 k bt717.1 bt721.1 bt723.2.2 bt735.2.2 (bt735.2.2 != 0) bt723.1 bt723.2.1 bt735.1 bt735.2.1) else (storagebarterlaw08_ManifestAppends.j0 k bt717.1 bt721.1 bt723.2.2 bt735.2.2 true bt723.1 bt723.2.1 bt735.1 bt735.2.1))) else (none))) else (none)))))) else (some true))) else (some false))) = some r := h
  clear h
  have RT_ := Aside0.mk hrt
  clear hrt
  replace H := Option.bind_eq_some_iff.mp H
  obtain ⟨t712, A20, H⟩ := H
  replace H : (if t712 = true then ((storagebartermake_Few.f l0).bind fun t713 => (if t713 = true then ((storagebartermake_New.f l0).bind fun bt714 => ((storagebartermake_Chunks.f k bt714.1 bt714.2).bind fun bt717 => ((storagebartermake_Bytes.f k bt714.1 bt717.2 20).bind fun bt721 => ((manifest_Of.f 1 bt717.1).bind fun bt723 => (if ([] : List ByteArray).length + bt717.1.length < 8796093022208 then ((some (([] : List ByteArray) ++ bt717.1 : List ByteArray)).bind fun y729 => (if y729.length < 8796093022208 then ((manifest_Of.f 2 (y729 ++ [bt721.1])).bind fun bt735 => (if bt723.2.2 = 0 then (storagebarterlaw08_ManifestAppends.j0 k bt717.1 bt721.1 bt723.2.2 bt735.2.2 (bt735.2.2 != 0) bt723.1 bt723.2.1 bt735.1 bt735.2.1) else (storagebarterlaw08_ManifestAppends.j0 k bt717.1 bt721.1 bt723.2.2 bt735.2.2 true bt723.1 bt723.2.1 bt735.1 bt735.2.1))) else (none))) else (none)))))) else (some true))) else (some false)) = some r := H
  have A2 := Aside0.mk A20
  clear A20
  by_cases c3 : t712 = true
  · subst c3
    have H1 : ((storagebartermake_Few.f l0).bind fun t713 => (if t713 = true then ((storagebartermake_New.f l0).bind fun bt714 => ((storagebartermake_Chunks.f k bt714.1 bt714.2).bind fun bt717 => ((storagebartermake_Bytes.f k bt714.1 bt717.2 20).bind fun bt721 => ((manifest_Of.f 1 bt717.1).bind fun bt723 => (if ([] : List ByteArray).length + bt717.1.length < 8796093022208 then ((some (([] : List ByteArray) ++ bt717.1 : List ByteArray)).bind fun y729 => (if y729.length < 8796093022208 then ((manifest_Of.f 2 (y729 ++ [bt721.1])).bind fun bt735 => (if bt723.2.2 = 0 then (storagebarterlaw08_ManifestAppends.j0 k bt717.1 bt721.1 bt723.2.2 bt735.2.2 (bt735.2.2 != 0) bt723.1 bt723.2.1 bt735.1 bt735.2.1) else (storagebarterlaw08_ManifestAppends.j0 k bt717.1 bt721.1 bt723.2.2 bt735.2.2 true bt723.1 bt723.2.1 bt735.1 bt735.2.1))) else (none))) else (none)))))) else (some true))) = some r := by rw [if_pos rfl] at H; exact H
    clear H
    have H := H1
    clear H1
    replace H := Option.bind_eq_some_iff.mp H
    obtain ⟨t713, A40, H⟩ := H
    replace H : (if t713 = true then ((storagebartermake_New.f l0).bind fun bt714 => ((storagebartermake_Chunks.f k bt714.1 bt714.2).bind fun bt717 => ((storagebartermake_Bytes.f k bt714.1 bt717.2 20).bind fun bt721 => ((manifest_Of.f 1 bt717.1).bind fun bt723 => (if ([] : List ByteArray).length + bt717.1.length < 8796093022208 then ((some (([] : List ByteArray) ++ bt717.1 : List ByteArray)).bind fun y729 => (if y729.length < 8796093022208 then ((manifest_Of.f 2 (y729 ++ [bt721.1])).bind fun bt735 => (if bt723.2.2 = 0 then (storagebarterlaw08_ManifestAppends.j0 k bt717.1 bt721.1 bt723.2.2 bt735.2.2 (bt735.2.2 != 0) bt723.1 bt723.2.1 bt735.1 bt735.2.1) else (storagebarterlaw08_ManifestAppends.j0 k bt717.1 bt721.1 bt723.2.2 bt735.2.2 true bt723.1 bt723.2.1 bt735.1 bt735.2.1))) else (none))) else (none)))))) else (some true)) = some r := H
    have A4 := Aside0.mk A40
    clear A40
    by_cases c5 : t713 = true
    · subst c5
      have H1 : ((storagebartermake_New.f l0).bind fun bt714 => ((storagebartermake_Chunks.f k bt714.1 bt714.2).bind fun bt717 => ((storagebartermake_Bytes.f k bt714.1 bt717.2 20).bind fun bt721 => ((manifest_Of.f 1 bt717.1).bind fun bt723 => (if ([] : List ByteArray).length + bt717.1.length < 8796093022208 then ((some (([] : List ByteArray) ++ bt717.1 : List ByteArray)).bind fun y729 => (if y729.length < 8796093022208 then ((manifest_Of.f 2 (y729 ++ [bt721.1])).bind fun bt735 => (if bt723.2.2 = 0 then (storagebarterlaw08_ManifestAppends.j0 k bt717.1 bt721.1 bt723.2.2 bt735.2.2 (bt735.2.2 != 0) bt723.1 bt723.2.1 bt735.1 bt735.2.1) else (storagebarterlaw08_ManifestAppends.j0 k bt717.1 bt721.1 bt723.2.2 bt735.2.2 true bt723.1 bt723.2.1 bt735.1 bt735.2.1))) else (none))) else (none)))))) = some r := by rw [if_pos rfl] at H; exact H
      clear H
      have H := H1
      clear H1
      replace H := Option.bind_eq_some_iff.mp H
      obtain ⟨⟨t714, t715⟩, A60, H⟩ := H
      replace H : ((storagebartermake_Chunks.f k t714 t715).bind fun bt717 => ((storagebartermake_Bytes.f k t714 bt717.2 20).bind fun bt721 => ((manifest_Of.f 1 bt717.1).bind fun bt723 => (if ([] : List ByteArray).length + bt717.1.length < 8796093022208 then ((some (([] : List ByteArray) ++ bt717.1 : List ByteArray)).bind fun y729 => (if y729.length < 8796093022208 then ((manifest_Of.f 2 (y729 ++ [bt721.1])).bind fun bt735 => (if bt723.2.2 = 0 then (storagebarterlaw08_ManifestAppends.j0 k bt717.1 bt721.1 bt723.2.2 bt735.2.2 (bt735.2.2 != 0) bt723.1 bt723.2.1 bt735.1 bt735.2.1) else (storagebarterlaw08_ManifestAppends.j0 k bt717.1 bt721.1 bt723.2.2 bt735.2.2 true bt723.1 bt723.2.1 bt735.1 bt735.2.1))) else (none))) else (none))))) = some r := H
      have A6 := Aside0.mk A60
      clear A60
      replace H := Option.bind_eq_some_iff.mp H
      obtain ⟨⟨t717, t720⟩, A70, H⟩ := H
      replace H : ((storagebartermake_Bytes.f k t714 t720 20).bind fun bt721 => ((manifest_Of.f 1 t717).bind fun bt723 => (if ([] : List ByteArray).length + t717.length < 8796093022208 then ((some (([] : List ByteArray) ++ t717 : List ByteArray)).bind fun y729 => (if y729.length < 8796093022208 then ((manifest_Of.f 2 (y729 ++ [bt721.1])).bind fun bt735 => (if bt723.2.2 = 0 then (storagebarterlaw08_ManifestAppends.j0 k t717 bt721.1 bt723.2.2 bt735.2.2 (bt735.2.2 != 0) bt723.1 bt723.2.1 bt735.1 bt735.2.1) else (storagebarterlaw08_ManifestAppends.j0 k t717 bt721.1 bt723.2.2 bt735.2.2 true bt723.1 bt723.2.1 bt735.1 bt735.2.1))) else (none))) else (none)))) = some r := H
      have A7 := Aside0.mk A70
      clear A70
      replace H := Option.bind_eq_some_iff.mp H
      obtain ⟨⟨t721, t722⟩, A80, H⟩ := H
      replace H : ((manifest_Of.f 1 t717).bind fun bt723 => (if ([] : List ByteArray).length + t717.length < 8796093022208 then ((some (([] : List ByteArray) ++ t717 : List ByteArray)).bind fun y729 => (if y729.length < 8796093022208 then ((manifest_Of.f 2 (y729 ++ [t721])).bind fun bt735 => (if bt723.2.2 = 0 then (storagebarterlaw08_ManifestAppends.j0 k t717 t721 bt723.2.2 bt735.2.2 (bt735.2.2 != 0) bt723.1 bt723.2.1 bt735.1 bt735.2.1) else (storagebarterlaw08_ManifestAppends.j0 k t717 t721 bt723.2.2 bt735.2.2 true bt723.1 bt723.2.1 bt735.1 bt735.2.1))) else (none))) else (none))) = some r := H
      have A8 := Aside0.mk A80
      clear A80
      replace H := Option.bind_eq_some_iff.mp H
      obtain ⟨⟨t723, t724, t727⟩, A90, H⟩ := H
      replace H : (if ([] : List ByteArray).length + t717.length < 8796093022208 then ((some (([] : List ByteArray) ++ t717 : List ByteArray)).bind fun y729 => (if y729.length < 8796093022208 then ((manifest_Of.f 2 (y729 ++ [t721])).bind fun bt735 => (if t727 = 0 then (storagebarterlaw08_ManifestAppends.j0 k t717 t721 t727 bt735.2.2 (bt735.2.2 != 0) t723 t724 bt735.1 bt735.2.1) else (storagebarterlaw08_ManifestAppends.j0 k t717 t721 t727 bt735.2.2 true t723 t724 bt735.1 bt735.2.1))) else (none))) else (none)) = some r := H
      have A9 := Aside0.mk A90
      clear A90
      by_cases c10 : ([] : List ByteArray).length + t717.length < 8796093022208
      · rw [if_pos c10] at H
        have LMc10 := Aside0.mk c10
        clear c10
        obtain ⟨y729, hy729⟩ : ∃ y_ : List ByteArray, y_ = (([] : List ByteArray) ++ t717) := ⟨_, rfl⟩
        replace H : (if y729.length < 8796093022208 then ((manifest_Of.f 2 (y729 ++ [t721])).bind fun bt735 => (if t727 = 0 then (storagebarterlaw08_ManifestAppends.j0 k t717 t721 t727 bt735.2.2 (bt735.2.2 != 0) t723 t724 bt735.1 bt735.2.1) else (storagebarterlaw08_ManifestAppends.j0 k t717 t721 t727 bt735.2.2 true t723 t724 bt735.1 bt735.2.1))) else (none)) = some r := by first | (rw [hy729]; with_reducible exact H) | (have H2_ := (Option.bind_some _ _).symm.trans H; rw [hy729]; with_reducible exact H2_) | (have H2_ := (Option.bind_some _ _).symm.trans H; with_reducible exact H2_) | with_reducible exact H | (rw [hy729]; exact H) | exact H
        have Ny729 := Aside0.mk hy729
        clear hy729
        by_cases c11 : y729.length < 8796093022208
        · rw [if_pos c11] at H
          have LMc11 := Aside0.mk c11
          clear c11
          obtain ⟨y732, hy732⟩ : ∃ y_ : List ByteArray, y_ = (y729 ++ [t721]) := ⟨_, rfl⟩
          replace H : ((manifest_Of.f 2 y732).bind fun bt735 => (if t727 = 0 then (storagebarterlaw08_ManifestAppends.j0 k t717 t721 t727 bt735.2.2 (bt735.2.2 != 0) t723 t724 bt735.1 bt735.2.1) else (storagebarterlaw08_ManifestAppends.j0 k t717 t721 t727 bt735.2.2 true t723 t724 bt735.1 bt735.2.1))) = some r := by first | (rw [hy732]; with_reducible exact H) | (have H2_ := (Option.bind_some _ _).symm.trans H; rw [hy732]; with_reducible exact H2_) | (have H2_ := (Option.bind_some _ _).symm.trans H; with_reducible exact H2_) | with_reducible exact H | (rw [hy732]; exact H) | exact H
          have Ny732 := Aside0.mk hy732
          clear hy732
          replace H := Option.bind_eq_some_iff.mp H
          obtain ⟨⟨t735, t736, t739⟩, A120, H⟩ := H
          replace H : (if t727 = 0 then (storagebarterlaw08_ManifestAppends.j0 k t717 t721 t727 t739 (t739 != 0) t723 t724 t735 t736) else (storagebarterlaw08_ManifestAppends.j0 k t717 t721 t727 t739 true t723 t724 t735 t736)) = some r := H
          have A12 := Aside0.mk A120
          clear A120
          have HC13 := Aside0.mk H
          clear H
          go_enter Try.func11, Try.ntmps11
          go_upto_region 10 with (first | ((with_reducible refine gate_callee (f := 13) rfl ?_); refine goesL_ (some 20) rfl rfl Try.func13 (by kernel_rfl) rfl #[] rfl (by (try simp only [List.map_toArray, List.map_cons, List.map_nil]); first | done | rfl | (simp only [List.length_drop, List.length_take]; rfl)) ?_; (with_reducible refine (storagebarterlaw08_sane.calls k  true _ A2.out).mono ?_); rintro e w14 ⟨rfl, hb⟩; refine ⟨_, rfl, ?_⟩; have n0_ := Aside0.mk (below_step (by repeat (first | (with_reducible first | exact HB.out | apply below_alloc | apply pw_below_drewN | apply below_drew1) | exact HB.out)) hb); clear HB; have HB := n0_; clear n0_; (try clear hb); (try clear hb2); (try clear hk); (try clear hi)) | ((with_reducible refine gate_callee (f := 14) rfl ?_); refine goesL_ (some 23) rfl rfl Try.func14 (by kernel_rfl) rfl #[.slice A0 l0.length c0] rfl (by (try simp only [List.map_toArray, List.map_cons, List.map_nil]); first | done | rfl | (simp only [List.length_drop, List.length_take]; rfl)) ?_; (with_reducible refine (storagebartermake_Few.calls _ _ l0 true _ ?side1 ?side2 A4.out).mono ?_); (case side1 => repeat (first | exact (Kd.C_below HR0.out HB.out) | (with_reducible refine Kd.C_alloc ?_ _) | (with_reducible refine Kd.C_drewN ?_ _) | (with_reducible refine Kd.C_drew ?_))); (case side2 => exact HC0.out); rintro e w' ⟨rfl, ⟨nd, rfl⟩⟩; refine ⟨_, rfl, ?_⟩; (try (rw [drewN_self w14]; generalize hq_ : World.drewN w14 _ = w14; have n0_ : Aside0 (Below w.heap.size w w14) := ⟨by rw [← hq_]; exact (by repeat (first | (with_reducible first | exact HB.out | apply below_alloc | apply pw_below_drewN | apply below_drew1) | exact HB.out))⟩; clear HB hq_; have HB := n0_; clear n0_))) | ((with_reducible refine gate_callee (f := 16) rfl ?_); refine goesL_ (some 26) rfl rfl Try.func16 (by kernel_rfl) rfl #[.slice A0 l0.length c0] rfl (by (try simp only [List.map_toArray, List.map_cons, List.map_nil]); first | done | rfl | (simp only [List.length_drop, List.length_take]; rfl)) ?_; (with_reducible refine (storagebartermake_New.calls _ _ l0 t714 t715 w _ ?side1 ?side2 ?side3 A6.out).mono ?_); (case side1 => repeat (first | (with_reducible first | exact HB.out | apply below_alloc | apply pw_below_drewN | apply below_drew1) | exact HB.out)); (case side2 => exact HR0.out); (case side3 => exact HC0.out); rintro e w15 ⟨g716, rfl, hi, hb, hb2⟩; refine ⟨_, rfl, ?_⟩; have n0_ := Aside0.mk (hb); have n1_ := Aside0.mk (hi); clear HB; have HB := n0_; have HI716 := n1_; clear n0_ n1_; (try clear hb); (try clear hb2); (try clear hk); (try clear hi)) | ((with_reducible refine gate_callee (f := 17) rfl ?_); refine goesL_ (some 28) rfl rfl Try.func17 (by kernel_rfl) rfl #[.pointer (some ⟨g716, 0, none⟩)] rfl (by (try simp only [List.map_toArray, List.map_cons, List.map_nil]); first | done | rfl | (simp only [List.length_drop, List.length_take]; rfl)) ?_; (with_reducible refine (storagebartermake_Chunks.calls k g716 t714 t715 t717 t720 w _ ?side1 ?side2 A7.out).mono ?_); (case side1 => repeat (first | (with_reducible first | exact HI716.out | apply IsS86.alloc | apply IsS86.drewN | apply IsS86.drew | apply IsS86.set_1) | exact HI716.out)); (case side2 => repeat (first | (with_reducible first | exact HB.out | apply below_alloc | apply pw_below_drewN | apply below_drew1 | refine below_set ?_ (IsS86.ge HI716.out)) | exact HB.out)); rintro e w16 ⟨v718, rfl, ho0, hi, hb, hk⟩; refine ⟨_, rfl, ?_⟩; have n0_ := Aside0.mk (Kd.R_lower ho0 (below_size (by repeat (first | (with_reducible first | exact HB.out | apply below_alloc | apply pw_below_drewN | apply below_drew1 | refine below_set ?_ (IsS86.ge HI716.out)) | exact HB.out)))); have n1_ := Aside0.mk (hb); have n2_ := Aside0.mk (hi); clear HB; clear HI716; have HO719 := n0_; have HB := n1_; have HI716 := n2_; clear n0_ n1_ n2_; (try clear hb); (try clear hb2); (try clear hk); (try clear hi); (try clear ho0)) | ((with_reducible refine gate_callee (f := 50) rfl ?_); refine goesL_ (some 30) rfl rfl Try.func50 (by kernel_rfl) rfl #[.pointer (some ⟨g716, 0, none⟩), .int .i64 20] rfl (by (try simp only [List.map_toArray, List.map_cons, List.map_nil]); first | done | rfl | (simp only [List.length_drop, List.length_take]; rfl)) ?_; (with_reducible refine (storagebartermake_Bytes.calls k g716 t714 t720 20 t721 t722 w _ ?side1 ?side2 A8.out).mono ?_); (case side1 => repeat (first | (with_reducible first | exact HI716.out | apply IsS86.alloc | apply IsS86.drewN | apply IsS86.drew | apply IsS86.set_1) | exact HI716.out)); (case side2 => repeat (first | (with_reducible first | exact HB.out | apply below_alloc | apply pw_below_drewN | apply below_drew1 | refine below_set ?_ (IsS86.ge HI716.out)) | exact HB.out)); rintro e w17 ⟨rfl, hi, hb, hk⟩; refine ⟨_, rfl, ?_⟩; have n0_ := Aside0.mk (Kd.R_mono (Kd.R_keep (IsS86.apart (show IsS86 w _ g716 t714 t720 from by repeat (first | (with_reducible first | exact HI716.out | apply IsS86.alloc | apply IsS86.drewN | apply IsS86.drew | apply IsS86.set_1) | exact HI716.out)) (by (with_reducible repeat (first | apply Kd.R_alloc | apply Kd.R_drewN | apply Kd.R_drew)); exact HO719.out) (by decide)) hk (fun _ h => h.2)) (fun _ h => h.1)); have n1_ := Aside0.mk (hb); have n2_ := Aside0.mk (hi); clear HO719; clear HB; clear HI716; have HO719 := n0_; have HB := n1_; have HI716 := n2_; clear n0_ n1_ n2_; (try clear hb); (try clear hb2); (try clear hk); (try clear hi); obtain ⟨Ao18, co18, eo18⟩ := Kd.R_slice HO719.out; subst eo18) | ((with_reducible refine gate_callee (f := 18) rfl ?_); refine goesL_ (some 33) rfl rfl Try.func18 (by kernel_rfl) rfl #[.int .i64 1, .slice Ao18 t717.length co18] rfl (by (try simp only [List.map_toArray, List.map_cons, List.map_nil]); first | done | rfl | (simp only [List.length_drop, List.length_take]; rfl)) ?_; (with_reducible refine (manifest_Of.calls 1 _ _ t717 t723 t724 t727 _ ?side1 ?side2 A9.out).mono ?_); (case side1 => repeat (first | exact (Kd.R_reads' HO719.out).2.2 | (with_reducible refine Kd.C_alloc ?_ _) | (with_reducible refine Kd.C_drewN ?_ _) | (with_reducible refine Kd.C_drew ?_))); (case side2 => exact (Kd.R_reads' HO719.out).2.1); rintro e w19 ⟨v725, rfl, ho0, hb⟩; refine ⟨_, rfl, ?_⟩; have n0_ := Aside0.mk (Kd.R_below (by (with_reducible repeat (first | apply Kd.R_alloc | apply Kd.R_drewN | apply Kd.R_drew)); exact HO719.out) hb); have n1_ := Aside0.mk (Kd.R_lower ho0 (below_size (by repeat (first | (with_reducible first | exact HB.out | apply below_alloc | apply pw_below_drewN | apply below_drew1 | refine below_set ?_ (IsS86.ge HI716.out)) | exact HB.out)))); have n2_ := Aside0.mk (IsS86.below (by repeat (first | (with_reducible first | exact HI716.out | apply IsS86.alloc | apply IsS86.drewN | apply IsS86.drew | apply IsS86.set_1) | exact HI716.out)) hb); have n3_ := Aside0.mk (below_step (by repeat (first | (with_reducible first | exact HB.out | apply below_alloc | apply pw_below_drewN | apply below_drew1 | refine below_set ?_ (IsS86.ge HI716.out)) | exact HB.out)) hb); clear HO719; clear HI716; clear HB; have HO719 := n0_; have HO726 := n1_; have HI716 := n2_; have HB := n3_; clear n0_ n1_ n2_ n3_; (try clear hb); (try clear hb2); (try clear hk); (try clear hi); (try clear ho0)) | ((with_reducible refine gate_dst (N := 6) rfl ?_); (try (refine gate_guard (by rfl) ?_; dsimp only)); refine box_event ?hg (N := 6) ?hd (cs := #[.int .i64 0, .slice none 0 0]) (t := 32) ?hr ?_; (case hd => rfl); (case hg => rfl); (case hr => first | (go_simp; done) | (go_simp; rfl)); intro gb728 hg w20 hbox hb; have n0_ := Aside0.mk (Kd.R_below (by (with_reducible repeat (first | apply Kd.R_alloc | apply Kd.R_drewN | apply Kd.R_drew)); exact HO719.out) hb); have n1_ := Aside0.mk (Kd.R_below (by (with_reducible repeat (first | apply Kd.R_alloc | apply Kd.R_drewN | apply Kd.R_drew)); exact HO726.out) hb); have n2_ := Aside0.mk (IsS86.below (by repeat (first | (with_reducible first | exact HI716.out | apply IsS86.alloc | apply IsS86.drewN | apply IsS86.drew | apply IsS86.set_1) | exact HI716.out)) hb); have n3_ := Aside0.mk (below_step (by repeat (first | (with_reducible first | exact HB.out | apply below_alloc | apply pw_below_drewN | apply below_drew1 | refine below_set ?_ (IsS86.ge HI716.out)) | exact HB.out)) hb); have n4_ := Aside0.mk (hbox); have n5_ := Aside0.mk ((by rw [hg]; exact (below_size (by repeat (first | (with_reducible first | exact HB.out | apply below_alloc | apply pw_below_drewN | apply below_drew1 | refine below_set ?_ (IsS86.ge HI716.out)) | exact HB.out))) : w.heap.size ≤ gb728)); have n6_ := Aside0.mk ((by rw [hg]; exact (below_size (by repeat (first | (with_reducible first | exact HB.out | apply below_alloc | apply pw_below_drewN | apply below_drew1 | refine below_set ?_ (IsS86.ge HI716.out)) | exact HB.out))) : w.heap.size ≤ gb728)); have n7_ := Aside0.mk ((by rw [hg]; exact Nat.ne_of_lt (IsS86.lt (show IsS86 w _ g716 t714 t722 from by repeat (first | (with_reducible first | exact HI716.out | apply IsS86.alloc | apply IsS86.drewN | apply IsS86.drew | apply IsS86.set_1) | exact HI716.out))) : g716 ≠ gb728)); have n8_ := Aside0.mk ((by rw [hg]; exact Nat.ne_of_gt (IsS86.lt (show IsS86 w _ g716 t714 t722 from by repeat (first | (with_reducible first | exact HI716.out | apply IsS86.alloc | apply IsS86.drewN | apply IsS86.drew | apply IsS86.set_1) | exact HI716.out))) : gb728 ≠ g716)); clear HO719; clear HO726; clear HI716; clear HB; have HO719 := n0_; have HO726 := n1_; have HI716 := n2_; have HB := n3_; have BK728 := n4_; have GW728 := n5_; have GE728 := n6_; have NB716_728 := n7_; have NB728_716 := n8_; clear n0_ n1_ n2_ n3_ n4_ n5_ n6_ n7_ n8_; clear hb hbox hg; have hnb21 := NB728_716.out; have hnc21 := NB716_728.out; have hcz22_0 : w20.cell? ⟨gb728, 0, none⟩ = some (.int .i64 0) := (blk_cell BK728.out 0).trans rfl; have hcz22_1 : w20.cell? ⟨gb728, 1, none⟩ = some (.slice none 0 0) := (blk_cell BK728.out 1).trans rfl; have hfz22_0 := blk_frozen BK728.out 0; have hfz22_1 := blk_frozen BK728.out 1; obtain ⟨Ao23, co23, eo23⟩ := Kd.R_slice HO726.out; subst eo23) | ((with_reducible refine gate_builtin (b := .append) (xs := #[_, .tmp 37]) rfl ?_); (try (refine gate_guard (by rfl) ?_; dsimp only)); at_builtin; refine Kd.R_append_rows Kd.string (w0 := w) w.heap.size rfl _ (.tmp 37) 23 9 (.string ⟨#[]⟩) 16 rfl Try.underlying23 info9 rfl (by decide) (by omega) (.slice none 0 0) ([] : List ByteArray) t717 _ _ _ (fun k_ => some k_ ≠ (.slice Ao18 t717.length co18 : Value).ownBlock) (fun _ => False) rfl rfl ?aO ?aR (fun _ _ h => h) (fun _ h => h.elim) ?aF ?aB ?aS ?aL ?_; (case aR => refine (Kd.R_reads' (e := 9) (base := w.heap.size) (ok := fun k_ => True) (n := t717.length) (c := co18) ?_).2.2; exact (by (with_reducible repeat (first | apply Kd.R_alloc | apply Kd.R_drewN | apply Kd.R_drew)); exact (Kd.R_mono (Kd.R_far (p := ⟨gb728, 1, none⟩) (Kd.R_far (p := ⟨gb728, 0, none⟩) (Kd.R_types HO719.out BK728.out (by decide)) (fun _ hk => hk.2) (.int .i64 t723)) (fun _ hk => hk.2) (.slice Ao23 t724.length co23)) (fun _ h_ => h_.1)))); (case aB => exact (by repeat (first | (with_reducible first | exact HB.out | apply below_alloc | apply pw_below_drewN | apply below_drew1 | refine below_set ?_ (IsS86.ge HI716.out) | refine below_set ?_ GE728.out) | exact HB.out))); (case aF => exact (fun k_ hk => Kd.fresh' (Kd.R_lt (by (with_reducible repeat (first | apply Kd.R_alloc | apply Kd.R_drewN | apply Kd.R_drew)); exact (Kd.R_mono (Kd.R_far (p := ⟨gb728, 1, none⟩) (Kd.R_far (p := ⟨gb728, 0, none⟩) (Kd.R_types HO719.out BK728.out (by decide)) (fun _ hk => hk.2) (.int .i64 t723)) (fun _ hk => hk.2) (.slice Ao23 t724.length co23)) (fun _ h_ => h_.1)))) k_ hk)); (case aO => exact ((Kd.R_nil _ _ _ _ (fun k_ => some k_ ≠ (.slice Ao18 t717.length co18 : Value).ownBlock)))); (case aS => exact (below_size (by repeat (first | (with_reducible first | exact HB.out | apply below_alloc | apply pw_below_drewN | apply below_drew1 | refine below_set ?_ (IsS86.ge HI716.out) | refine below_set ?_ GE728.out) | exact HB.out)))); (case aL => have := LMc10.out; omega); intro v730 w24 ho hb hg hat; rw [← Ny729.out] at ho; have n0_ := Aside0.mk (by first | exact IsS86.grown (IsS86.far (IsS86.far HI716.out NB716_728.out _) NB716_728.out _) hg (by simp [Value.ownBlock]) | exact (IsS86.grown (by repeat (first | (with_reducible first | exact HI716.out | apply IsS86.alloc | apply IsS86.drewN | apply IsS86.drew | apply IsS86.set_1 | refine IsS86.far ?_ NB716_728.out _) | exact HI716.out)) hg (by simp [Value.ownBlock]))); have n1_ := Aside0.mk (Kd.R_after (Kd.R_apart_nil (by (with_reducible repeat (first | apply Kd.R_alloc | apply Kd.R_drewN | apply Kd.R_drew)); exact (Kd.R_mono (Kd.R_far (p := ⟨gb728, 1, none⟩) (Kd.R_far (p := ⟨gb728, 0, none⟩) (Kd.R_types HO719.out BK728.out (by decide)) (fun _ hk => hk.2) (.int .i64 t723)) (fun _ hk => hk.2) (.slice Ao23 t724.length co23)) (fun _ h_ => h_.1)))) hg hat); have n2_ := Aside0.mk (Kd.R_grown (by (with_reducible repeat (first | apply Kd.R_alloc | apply Kd.R_drewN | apply Kd.R_drew)); exact (Kd.R_mono (Kd.R_far (p := ⟨gb728, 1, none⟩) (Kd.R_far (p := ⟨gb728, 0, none⟩) (Kd.R_types HO726.out BK728.out (by decide)) (fun _ hk => hk.2) (.int .i64 t723)) (fun _ hk => hk.2) (.slice Ao23 t724.length co23)) (fun _ h_ => h_.1))) hg (fun _ _ => by simp [Value.ownBlock])); have n3_ := Aside0.mk (blk_grown (g := gb728) (o := .cells #[.int .i64 t723, .slice Ao23 t724.length co23] 32 (0, 0)) (by (with_reducible repeat (first | refine blk_drewN ?_ _ | refine blk_drew ?_ | refine blk_alloc ?_ _)); refine blk_put (cs := #[.int .i64 t723, .slice none 0 0]) ?_ 1 _ rfl; (with_reducible repeat (first | refine blk_drewN ?_ _ | refine blk_drew ?_ | refine blk_alloc ?_ _)); refine blk_put (cs := #[.int .i64 0, .slice none 0 0]) ?_ 0 _ rfl; (with_reducible repeat (first | refine blk_drewN ?_ _ | refine blk_drew ?_ | refine blk_alloc ?_ _)); exact BK728.out) hg (by simp [Value.ownBlock])); have n4_ := Aside0.mk (hb); have n5_ := Aside0.mk (ho); clear HI716; clear HO719; clear HO726; clear BK728; clear HB; have HI716 := n0_; have HO719 := n1_; have HO726 := n2_; have BK728 := n3_; have HB := n4_; have HO731 := n5_; clear n0_ n1_ n2_ n3_ n4_ n5_; clear ho hb hg hat) | ((with_reducible refine gate_builtin (b := .append) (xs := #[.tmp 38, .tmp 40]) rfl ?_); (try (refine gate_guard (by rfl) ?_; dsimp only)); at_builtin; refine Kd.R_append Kd.string (w0 := w) w.heap.size rfl (.tmp 38) (.tmp 40) 23 9 (.string ⟨#[]⟩) 16 rfl Try.underlying23 info9 rfl (by decide) (by omega) v730 y729 t721 [.string t721] (fun k_ => some k_ ≠ (.slice Ao18 t717.length co18 : Value).ownBlock) (fun _ => False) rfl rfl ?aP (fun _ hk => hk.elim) ?aF ?aO ?aB ?aS ?aL ?_; (case aP => exact rfl); (case aB => exact (by repeat (first | (with_reducible first | exact HB.out | apply below_alloc | apply pw_below_drewN | apply below_drew1 | refine below_set ?_ (IsS86.ge HI716.out) | refine below_set ?_ GE728.out) | exact HB.out))); (case aF => exact (fun k_ hk => Kd.fresh' (Kd.R_lt (by (with_reducible repeat (first | apply Kd.R_alloc | apply Kd.R_drewN | apply Kd.R_drew)); exact HO719.out)) k_ hk)); (case aO => exact (by (with_reducible repeat (first | apply Kd.R_alloc | apply Kd.R_drewN | apply Kd.R_drew)); exact HO731.out)); (case aS => exact (below_size (by repeat (first | (with_reducible first | exact HB.out | apply below_alloc | apply pw_below_drewN | apply below_drew1 | refine below_set ?_ (IsS86.ge HI716.out) | refine below_set ?_ GE728.out) | exact HB.out)))); (case aL => have := LMc11.out; omega); intro v733 w25 ho hb hg hat; rw [← Ny732.out] at ho; have n0_ := Aside0.mk (IsS86.grown (by repeat (first | (with_reducible first | exact HI716.out | apply IsS86.alloc | apply IsS86.drewN | apply IsS86.drew | apply IsS86.set_1 | refine IsS86.far ?_ NB716_728.out _) | exact HI716.out)) hg (IsS86.own_ne HI716.out HO731.out (by decide))); have n1_ := Aside0.mk (Kd.R_after (ok := (fun _ => True)) (by (with_reducible repeat (first | apply Kd.R_alloc | apply Kd.R_drewN | apply Kd.R_drew)); exact HO719.out) hg hat); have n2_ := Aside0.mk (Kd.R_over' (by (with_reducible repeat (first | apply Kd.R_alloc | apply Kd.R_drewN | apply Kd.R_drew)); exact HO726.out) (Kd.R_typed (by (with_reducible repeat (first | apply Kd.R_alloc | apply Kd.R_drewN | apply Kd.R_drew)); exact HO731.out)) (by decide) hg); have n3_ := Aside0.mk (blk_grown (g := gb728) (o := .cells #[.int .i64 t723, .slice Ao23 t724.length co23] 32 (0, 0)) (by (with_reducible repeat (first | refine blk_drewN ?_ _ | refine blk_drew ?_ | refine blk_alloc ?_ _)); exact BK728.out) hg (Kd.R_ne HO731.out BK728.out (by decide))); have n4_ := Aside0.mk (hb); have n5_ := Aside0.mk (ho); clear HI716; clear HO719; clear HO726; clear BK728; clear HB; clear HO731; have HI716 := n0_; have HO719 := n1_; have HO726 := n2_; have BK728 := n3_; have HB := n4_; have HO734 := n5_; clear n0_ n1_ n2_ n3_ n4_ n5_; clear ho hb hg hat; obtain ⟨Ao26, co26, eo26⟩ := Kd.R_slice HO734.out; subst eo26) | ((with_reducible refine gate_callee (f := 18) rfl ?_); refine goesL_ (some 42) rfl rfl Try.func18 (by kernel_rfl) rfl #[.int .i64 2, .slice Ao26 y732.length co26] rfl (by (try simp only [List.map_toArray, List.map_cons, List.map_nil]); first | done | rfl | (simp only [List.length_drop, List.length_take]; rfl)) ?_; (with_reducible refine (manifest_Of.calls 2 _ _ y732 t735 t736 t739 _ ?side1 ?side2 A12.out).mono ?_); (case side1 => repeat (first | exact (Kd.R_reads' HO734.out).2.2 | (with_reducible refine Kd.C_alloc ?_ _) | (with_reducible refine Kd.C_drewN ?_ _) | (with_reducible refine Kd.C_drew ?_))); (case side2 => exact (Kd.R_reads' HO734.out).2.1); rintro e w27 ⟨v737, rfl, ho0, hb⟩; refine ⟨_, rfl, ?_⟩; have n0_ := Aside0.mk (Kd.R_below (by (with_reducible repeat (first | apply Kd.R_alloc | apply Kd.R_drewN | apply Kd.R_drew)); exact HO719.out) hb); have n1_ := Aside0.mk (Kd.R_elder' (by (with_reducible repeat (first | apply Kd.R_alloc | apply Kd.R_drewN | apply Kd.R_drew)); exact HO726.out) (Kd.R_base ho0) hb); have n2_ := Aside0.mk (Kd.R_below (by (with_reducible repeat (first | apply Kd.R_alloc | apply Kd.R_drewN | apply Kd.R_drew)); exact HO734.out) hb); have n3_ := Aside0.mk (Kd.R_lower (Kd.R_new' ho0 (Kd.R_lt (by (with_reducible repeat (first | apply Kd.R_alloc | apply Kd.R_drewN | apply Kd.R_drew)); exact HO726.out))) (below_size (by repeat (first | (with_reducible first | exact HB.out | apply below_alloc | apply pw_below_drewN | apply below_drew1 | refine below_set ?_ (IsS86.ge HI716.out) | refine below_set ?_ GE728.out) | exact HB.out)))); have n4_ := Aside0.mk (IsS86.below (by repeat (first | (with_reducible first | exact HI716.out | apply IsS86.alloc | apply IsS86.drewN | apply IsS86.drew | apply IsS86.set_1 | refine IsS86.far ?_ NB716_728.out _) | exact HI716.out)) hb); have n5_ := Aside0.mk (blk_below (g := gb728) (o := .cells #[.int .i64 t723, .slice Ao23 t724.length co23] 32 (0, 0)) (by (with_reducible repeat (first | refine blk_drewN ?_ _ | refine blk_drew ?_ | refine blk_alloc ?_ _)); exact BK728.out) hb); have n6_ := Aside0.mk (below_step (by repeat (first | (with_reducible first | exact HB.out | apply below_alloc | apply pw_below_drewN | apply below_drew1 | refine below_set ?_ (IsS86.ge HI716.out) | refine below_set ?_ GE728.out) | exact HB.out)) hb); clear HO719; clear HO726; clear HO734; clear HI716; clear BK728; clear HB; have HO719 := n0_; have HO726 := n1_; have HO734 := n2_; have HO738 := n3_; have HI716 := n4_; have BK728 := n5_; have HB := n6_; clear n0_ n1_ n2_ n3_ n4_ n5_ n6_; (try clear hb); (try clear hb2); (try clear hk); (try clear hi); (try clear ho0)) | ((with_reducible refine gate_dst (N := 8) rfl ?_); (try (refine gate_guard (by rfl) ?_; dsimp only)); refine box_event ?hg (N := 8) ?hd (cs := #[.int .i64 0, .slice none 0 0]) (t := 32) ?hr ?_; (case hd => rfl); (case hg => rfl); (case hr => first | (go_simp; done) | (go_simp; rfl)); intro gb740 hg w28 hbox hb; have n0_ := Aside0.mk (Kd.R_below (by (with_reducible repeat (first | apply Kd.R_alloc | apply Kd.R_drewN | apply Kd.R_drew)); exact HO719.out) hb); have n1_ := Aside0.mk (Kd.R_below (by (with_reducible repeat (first | apply Kd.R_alloc | apply Kd.R_drewN | apply Kd.R_drew)); exact HO726.out) hb); have n2_ := Aside0.mk (Kd.R_below (by (with_reducible repeat (first | apply Kd.R_alloc | apply Kd.R_drewN | apply Kd.R_drew)); exact HO734.out) hb); have n3_ := Aside0.mk (Kd.R_below (by (with_reducible repeat (first | apply Kd.R_alloc | apply Kd.R_drewN | apply Kd.R_drew)); exact HO738.out) hb); have n4_ := Aside0.mk (IsS86.below (by repeat (first | (with_reducible first | exact HI716.out | apply IsS86.alloc | apply IsS86.drewN | apply IsS86.drew | apply IsS86.set_1 | refine IsS86.far ?_ NB716_728.out _) | exact HI716.out)) hb); have n5_ := Aside0.mk (blk_below (g := gb728) (o := .cells #[.int .i64 t723, .slice Ao23 t724.length co23] 32 (0, 0)) (by (with_reducible repeat (first | refine blk_drewN ?_ _ | refine blk_drew ?_ | refine blk_alloc ?_ _)); exact BK728.out) hb); have n6_ := Aside0.mk (below_step (by repeat (first | (with_reducible first | exact HB.out | apply below_alloc | apply pw_below_drewN | apply below_drew1 | refine below_set ?_ (IsS86.ge HI716.out) | refine below_set ?_ GE728.out) | exact HB.out)) hb); have n7_ := Aside0.mk (hbox); have n8_ := Aside0.mk ((by rw [hg]; exact (below_size (by repeat (first | (with_reducible first | exact HB.out | apply below_alloc | apply pw_below_drewN | apply below_drew1 | refine below_set ?_ (IsS86.ge HI716.out) | refine below_set ?_ GE728.out) | exact HB.out))) : w.heap.size ≤ gb740)); have n9_ := Aside0.mk ((by rw [hg]; exact (below_size (by repeat (first | (with_reducible first | exact HB.out | apply below_alloc | apply pw_below_drewN | apply below_drew1 | refine below_set ?_ (IsS86.ge HI716.out) | refine below_set ?_ GE728.out) | exact HB.out))) : w.heap.size ≤ gb740)); have n10_ := Aside0.mk ((by rw [hg]; exact Nat.ne_of_lt (blk_lt (g := gb728) (o := .cells #[.int .i64 t723, .slice Ao23 t724.length co23] 32 (0, 0)) (by (with_reducible repeat (first | refine blk_drewN ?_ _ | refine blk_drew ?_ | refine blk_alloc ?_ _)); exact BK728.out)) : gb728 ≠ gb740)); have n11_ := Aside0.mk ((by rw [hg]; exact Nat.ne_of_gt (blk_lt (g := gb728) (o := .cells #[.int .i64 t723, .slice Ao23 t724.length co23] 32 (0, 0)) (by (with_reducible repeat (first | refine blk_drewN ?_ _ | refine blk_drew ?_ | refine blk_alloc ?_ _)); exact BK728.out)) : gb740 ≠ gb728)); have n12_ := Aside0.mk ((by rw [hg]; exact Nat.ne_of_lt (IsS86.lt (show IsS86 w _ g716 t714 t722 from by repeat (first | (with_reducible first | exact HI716.out | apply IsS86.alloc | apply IsS86.drewN | apply IsS86.drew | apply IsS86.set_1 | refine IsS86.far ?_ NB716_728.out _) | exact HI716.out))) : g716 ≠ gb740)); have n13_ := Aside0.mk ((by rw [hg]; exact Nat.ne_of_gt (IsS86.lt (show IsS86 w _ g716 t714 t722 from by repeat (first | (with_reducible first | exact HI716.out | apply IsS86.alloc | apply IsS86.drewN | apply IsS86.drew | apply IsS86.set_1 | refine IsS86.far ?_ NB716_728.out _) | exact HI716.out))) : gb740 ≠ g716)); clear HO719; clear HO726; clear HO734; clear HO738; clear HI716; clear BK728; clear HB; have HO719 := n0_; have HO726 := n1_; have HO734 := n2_; have HO738 := n3_; have HI716 := n4_; have BK728 := n5_; have HB := n6_; have BK740 := n7_; have GW740 := n8_; have GE740 := n9_; have NB728_740 := n10_; have NB740_728 := n11_; have NB716_740 := n12_; have NB740_716 := n13_; clear n0_ n1_ n2_ n3_ n4_ n5_ n6_ n7_ n8_ n9_ n10_ n11_ n12_ n13_; clear hb hbox hg; have hnb29 := NB740_728.out; have hnc29 := NB728_740.out; have hnb30 := NB740_716.out; have hnc30 := NB716_740.out; have hcz31_0 : w28.cell? ⟨gb740, 0, none⟩ = some (.int .i64 0) := (blk_cell BK740.out 0).trans rfl; have hcz31_1 : w28.cell? ⟨gb740, 1, none⟩ = some (.slice none 0 0) := (blk_cell BK740.out 1).trans rfl; have hfz31_0 := blk_frozen BK740.out 0; have hfz31_1 := blk_frozen BK740.out 1; obtain ⟨Ao32, co32, eo32⟩ := Kd.R_slice HO738.out; subst eo32))
          (try simp only [Act.put, List.setIfInBounds_toArray, List.set_cons_zero, List.set_cons_succ])
          go_cut [50] (fun v50 wc => ∃ (kq : Nat) (x50_12 : Bool), v50 = .bool x50_12 ∧ Aside0 (storagebarterlaw08_ManifestAppends.j0 kq t717 t721 t727 t739 x50_12 t723 t724 t735 t736 = some r) ∧ Aside0 (kq ≤ k) ∧ Aside0 (Kd.R Kd.string 9 wc w.heap.size (fun _ => True) (.slice Ao18 t717.length co18) t717) ∧ Aside0 (Kd.R k78 78 wc w.heap.size (fun k_ => some k_ ≠ ((.slice Ao32 t736.length co32) : Value).ownBlock) (.slice Ao23 t724.length co23) t724) ∧ Aside0 (Kd.R k78 78 wc w.heap.size (fun k_ => some k_ ≠ ((.slice Ao23 t724.length co23) : Value).ownBlock) (.slice Ao32 t736.length co32) t736) ∧ Aside0 (wc.heap[gb728]? = some (.cells #[.int .i64 t723, (.slice Ao23 t724.length co23)] 32 (0, 0))) ∧ Aside0 (wc.heap[gb740]? = some (.cells #[.int .i64 t735, (.slice Ao32 t736.length co32)] 32 (0, 0))) ∧ Aside0 (Below w.heap.size w wc))
          case first =>
            have H := HC13.out
            clear HC13
            by_cases c33 : t727 = 0
            · rw [if_pos c33] at H
              have c33b0 : (t727 == 0) = true := beq_iff_eq.mpr c33
              have c33b1 : (t727 != 0) = false := bne_eq_false_iff_eq.mpr c33
              clear c33
              (first | rw [c33b0] | (simp only [i64_w, i32_w]; rw [c33b0]) | skip)
              have H' := Aside0.mk H
              clear H
              go_wp2
              go_meet
              case rel => exact ⟨_, ((t739 != 0)), (by first | rfl | (simp; done) | (simp [*]; done)), H', ⟨by first | omega | exact Nat.le_refl _⟩, ⟨by (with_reducible repeat (first | apply Kd.R_alloc | apply Kd.R_drewN | apply Kd.R_drew)); exact Kd.R_mono (Kd.R_far (p := ⟨gb740, 1, none⟩) (Kd.R_far (p := ⟨gb740, 0, none⟩) (Kd.R_types HO719.out BK740.out (by decide)) (fun _ hk => hk.2) (.int .i64 t735)) (fun _ hk => hk.2) (.slice Ao32 t736.length co32)) (fun _ hk => trivial)⟩, ⟨by (with_reducible repeat (first | apply Kd.R_alloc | apply Kd.R_drewN | apply Kd.R_drew)); exact Kd.R_mono (Kd.R_far (p := ⟨gb740, 1, none⟩) (Kd.R_far (p := ⟨gb740, 0, none⟩) (Kd.R_types HO726.out BK740.out (by decide)) (fun _ hk => hk.2) (.int .i64 t735)) (fun _ hk => hk.2) (.slice Ao32 t736.length co32)) (fun _ hk => hk.1.2)⟩, ⟨by (with_reducible repeat (first | apply Kd.R_alloc | apply Kd.R_drewN | apply Kd.R_drew)); exact Kd.R_mono (Kd.R_far (p := ⟨gb740, 1, none⟩) (Kd.R_far (p := ⟨gb740, 0, none⟩) (Kd.R_types HO738.out BK740.out (by decide)) (fun _ hk => hk.2) (.int .i64 t735)) (fun _ hk => hk.2) (.slice Ao32 t736.length co32)) (fun _ hk => hk.1.2)⟩, ⟨by (with_reducible repeat (first | refine blk_drewN ?_ _ | refine blk_drew ?_ | refine blk_alloc ?_ _)); refine blk_far ?_ NB728_740.out _; (with_reducible repeat (first | refine blk_drewN ?_ _ | refine blk_drew ?_ | refine blk_alloc ?_ _)); refine blk_far ?_ NB728_740.out _; (with_reducible repeat (first | refine blk_drewN ?_ _ | refine blk_drew ?_ | refine blk_alloc ?_ _)); exact BK728.out⟩, ⟨by (with_reducible repeat (first | refine blk_drewN ?_ _ | refine blk_drew ?_ | refine blk_alloc ?_ _)); refine blk_put (cs := #[.int .i64 t735, .slice none 0 0]) ?_ 1 _ rfl; (with_reducible repeat (first | refine blk_drewN ?_ _ | refine blk_drew ?_ | refine blk_alloc ?_ _)); refine blk_put (cs := #[.int .i64 0, .slice none 0 0]) ?_ 0 _ rfl; (with_reducible repeat (first | refine blk_drewN ?_ _ | refine blk_drew ?_ | refine blk_alloc ?_ _)); exact BK740.out⟩, ⟨by repeat (first | (with_reducible first | exact HB.out | apply below_alloc | apply pw_below_drewN | apply below_drew1 | refine below_set ?_ (IsS86.ge HI716.out) | refine below_set ?_ GE728.out | refine below_set ?_ GE740.out) | exact HB.out)⟩⟩
            · rw [if_neg c33] at H
              have c33b0 : (t727 == 0) = false := beq_eq_false_iff_ne.mpr c33
              have c33b1 : (t727 != 0) = true := bne_iff_ne.mpr c33
              (first | rw [c33b0] | (simp only [i64_w, i32_w]; rw [c33b0]) | skip)
              have H' := Aside0.mk H
              clear H
              go_wp2
              go_meet
              case rel => exact ⟨_, (true), (by first | rfl | (simp; done) | (simp [*]; done)), H', ⟨by first | omega | exact Nat.le_refl _⟩, ⟨by (with_reducible repeat (first | apply Kd.R_alloc | apply Kd.R_drewN | apply Kd.R_drew)); exact Kd.R_mono (Kd.R_far (p := ⟨gb740, 1, none⟩) (Kd.R_far (p := ⟨gb740, 0, none⟩) (Kd.R_types HO719.out BK740.out (by decide)) (fun _ hk => hk.2) (.int .i64 t735)) (fun _ hk => hk.2) (.slice Ao32 t736.length co32)) (fun _ hk => trivial)⟩, ⟨by (with_reducible repeat (first | apply Kd.R_alloc | apply Kd.R_drewN | apply Kd.R_drew)); exact Kd.R_mono (Kd.R_far (p := ⟨gb740, 1, none⟩) (Kd.R_far (p := ⟨gb740, 0, none⟩) (Kd.R_types HO726.out BK740.out (by decide)) (fun _ hk => hk.2) (.int .i64 t735)) (fun _ hk => hk.2) (.slice Ao32 t736.length co32)) (fun _ hk => hk.1.2)⟩, ⟨by (with_reducible repeat (first | apply Kd.R_alloc | apply Kd.R_drewN | apply Kd.R_drew)); exact Kd.R_mono (Kd.R_far (p := ⟨gb740, 1, none⟩) (Kd.R_far (p := ⟨gb740, 0, none⟩) (Kd.R_types HO738.out BK740.out (by decide)) (fun _ hk => hk.2) (.int .i64 t735)) (fun _ hk => hk.2) (.slice Ao32 t736.length co32)) (fun _ hk => hk.1.2)⟩, ⟨by (with_reducible repeat (first | refine blk_drewN ?_ _ | refine blk_drew ?_ | refine blk_alloc ?_ _)); refine blk_far ?_ NB728_740.out _; (with_reducible repeat (first | refine blk_drewN ?_ _ | refine blk_drew ?_ | refine blk_alloc ?_ _)); refine blk_far ?_ NB728_740.out _; (with_reducible repeat (first | refine blk_drewN ?_ _ | refine blk_drew ?_ | refine blk_alloc ?_ _)); exact BK728.out⟩, ⟨by (with_reducible repeat (first | refine blk_drewN ?_ _ | refine blk_drew ?_ | refine blk_alloc ?_ _)); refine blk_put (cs := #[.int .i64 t735, .slice none 0 0]) ?_ 1 _ rfl; (with_reducible repeat (first | refine blk_drewN ?_ _ | refine blk_drew ?_ | refine blk_alloc ?_ _)); refine blk_put (cs := #[.int .i64 0, .slice none 0 0]) ?_ 0 _ rfl; (with_reducible repeat (first | refine blk_drewN ?_ _ | refine blk_drew ?_ | refine blk_alloc ?_ _)); exact BK740.out⟩, ⟨by repeat (first | (with_reducible first | exact HB.out | apply below_alloc | apply pw_below_drewN | apply below_drew1 | refine below_set ?_ (IsS86.ge HI716.out) | refine below_set ?_ GE728.out | refine below_set ?_ GE740.out) | exact HB.out)⟩⟩
          case rest =>
            clear HC13
            try clear c1
            try clear c2
            try clear p2
            try clear c3
            try clear c5
            try clear c10
            try clear c11
            try clear c13
            try clear c14
            try clear c16
            try clear c17
            try clear c18
            try clear c21
            try clear c29
            try clear c30
            try clear c33
            try clear c33b0
            try clear c33b1
            try clear hcz22_0
            try clear hcz22_1
            try clear hcz31_0
            try clear hcz31_1
            try clear hfz22_0
            try clear hfz22_1
            try clear hfz31_0
            try clear hfz31_1
            obtain ⟨kq, x50_12, rfl, HA, HJ12, HO_4, HO_729001, HO_741001, BK728, BK740, HB⟩ := hcut
            cases kq with
            | zero => exact absurd HA.out (by simp [storagebarterlaw08_ManifestAppends.j0])
            | succ kj12 =>
              have H := HA.out
              clear HA
              simp only [storagebarterlaw08_ManifestAppends.j0] at H
              by_cases c34 : x50_12 = true
              · subst c34
                have H1 : (if t727 = 8 then (some true) else (some (t739 == 8))) = some r := by rw [if_pos rfl] at H; exact H
                clear H
                have H := H1
                clear H1
                by_cases c35 : t727 = 8
                · rw [if_pos c35] at H
                  have c35b0 : (t727 == 8) = true := beq_iff_eq.mpr c35
                  have c35b1 : (t727 != 8) = false := bne_eq_false_iff_eq.mpr c35
                  clear c35
                  obtain rfl := Option.some.inj H
                  go_wp2
                  go_ret
                  exact ⟨by first | rfl | (simp [errW_none, errW_some] <;> rfl) | (simp [*, errW_none, errW_some] <;> rfl), by repeat (first | (with_reducible first | exact HB.out | apply below_alloc | apply pw_below_drewN | apply below_drew1 | refine below_set ?_ GE728.out | refine below_set ?_ GE740.out) | exact HB.out)⟩
                · rw [if_neg c35] at H
                  have c35b0 : (t727 == 8) = false := beq_eq_false_iff_ne.mpr c35
                  have c35b1 : (t727 != 8) = true := bne_iff_ne.mpr c35
                  obtain rfl := Option.some.inj H
                  go_wp2
                  go_ret
                  exact ⟨by first | rfl | (simp [errW_none, errW_some] <;> rfl) | (simp [*, errW_none, errW_some] <;> rfl), by repeat (first | (with_reducible first | exact HB.out | apply below_alloc | apply pw_below_drewN | apply below_drew1 | refine below_set ?_ GE728.out | refine below_set ?_ GE740.out) | exact HB.out)⟩
              · replace c34 := Bool.eq_false_iff.mpr c34
                subst c34
                have H1 : (storagebarterlaw08_ManifestAppends.l0 kj12 t721 false t717 (t717.length : Int) 0 t723 t724 t735 t736) = some r := by rw [if_neg (show ¬ (false = true) by decide)] at H; exact H
                clear H
                have H := H1
                clear H1
                have H' := Aside0.mk H
                clear H
                go_wp2
                go_loopg [10, 59] kj12 (fun kq v10 v59 w' => ∃ (x10_2 : Bool) (x59_2 : Int), v10 = .bool x10_2 ∧ v59 = .int .i64 x59_2 ∧ Aside0 (storagebarterlaw08_ManifestAppends.l0 kq t721 x10_2 t717 (t717.length : Int) x59_2 t723 t724 t735 t736 = some r) ∧ Aside0 (kq ≤ kj12) ∧ Aside0 (Kd.R Kd.string 9 w' w.heap.size (fun _ => True) (.slice Ao18 t717.length co18) t717) ∧ Aside0 (Kd.R k78 78 w' w.heap.size (fun k_ => some k_ ≠ ((.slice Ao32 t736.length co32) : Value).ownBlock) (.slice Ao23 t724.length co23) t724) ∧ Aside0 (Kd.R k78 78 w' w.heap.size (fun k_ => some k_ ≠ ((.slice Ao23 t724.length co23) : Value).ownBlock) (.slice Ao32 t736.length co32) t736) ∧ Aside0 (w'.heap[gb728]? = some (.cells #[.int .i64 t723, (.slice Ao23 t724.length co23)] 32 (0, 0))) ∧ Aside0 (w'.heap[gb740]? = some (.cells #[.int .i64 t735, (.slice Ao32 t736.length co32)] 32 (0, 0))) ∧ Aside0 (Below w.heap.size w w'))
                case atStart => exact ⟨(false), (0), (by first | rfl | (simp; done) | (simp [*]; done)), (by first | rfl | (simp; done) | (simp [*]; done)), H', ⟨Nat.le_refl _⟩, ⟨by (with_reducible repeat (first | apply Kd.R_alloc | apply Kd.R_drewN | apply Kd.R_drew)); exact HO_4.out⟩, ⟨by (with_reducible repeat (first | apply Kd.R_alloc | apply Kd.R_drewN | apply Kd.R_drew)); exact HO_729001.out⟩, ⟨by (with_reducible repeat (first | apply Kd.R_alloc | apply Kd.R_drewN | apply Kd.R_drew)); exact HO_741001.out⟩, ⟨by (with_reducible repeat (first | refine blk_drewN ?_ _ | refine blk_drew ?_ | refine blk_alloc ?_ _)); exact BK728.out⟩, ⟨by (with_reducible repeat (first | refine blk_drewN ?_ _ | refine blk_drew ?_ | refine blk_alloc ?_ _)); exact BK740.out⟩, ⟨by repeat (first | (with_reducible first | exact HB.out | apply below_alloc | apply pw_below_drewN | apply below_drew1 | refine below_set ?_ GE728.out | refine below_set ?_ GE740.out) | exact HB.out)⟩⟩
                case round =>
                  clear H'
                  try clear c1
                  try clear c2
                  try clear p2
                  try clear c3
                  try clear c5
                  try clear c10
                  try clear c11
                  try clear c13
                  try clear c14
                  try clear c16
                  try clear c17
                  try clear c18
                  try clear c21
                  try clear c29
                  try clear c30
                  try clear c33
                  try clear c33b0
                  try clear c33b1
                  try clear c34
                  try clear c35
                  try clear c35b0
                  try clear c35b1
                  try clear hcz22_0
                  try clear hcz22_1
                  try clear hcz31_0
                  try clear hcz31_1
                  try clear hfz22_0
                  try clear hfz22_1
                  try clear hfz31_0
                  try clear hfz31_1
                  try clear p2
                  obtain ⟨x10_2, x59_2, rfl, rfl, HA, HK2, HO_57, HO_729001, HO_741001, BK728, BK740, HB⟩ := hrel
                  cases gk with
                  | zero => exact absurd HA.out (by simp [storagebarterlaw08_ManifestAppends.l0])
                  | succ k2 =>
                    have H := HA.out
                    clear HA
                    simp only [storagebarterlaw08_ManifestAppends.l0] at H
                    by_cases c36 : x59_2 < (t717.length : Int)
                    · rw [if_pos c36] at H
                      have c36b0 : decide (x59_2 < (t717.length : Int)) = true := decide_eq_true c36
                      clear c36
                      by_cases c37 : 0 ≤ x59_2
                      · rw [if_pos c37] at H
                        have c37b0 : decide (0 ≤ x59_2) = true := decide_eq_true c37
                        clear c37
                        by_cases c38 : x59_2 < (t717.length : Int)
                        · rw [if_pos c38] at H
                          have c38b0 : decide (x59_2 < (t717.length : Int)) = true := decide_eq_true c38
                          clear c38
                          by_cases c39 : x10_2 = true
                          · subst c39
                            have H1 : (storagebarterlaw08_ManifestAppends.l0 k2 t721 true t717 (t717.length : Int) (wrap64 (x59_2 + 1)) t723 t724 t735 t736) = some r := by rw [if_pos rfl] at H; exact H
                            clear H
                            have H := H1
                            clear H1
                            have H' := Aside0.mk H
                            clear H
                            have p741 : 0 ≤ (x59_2 : Int) := of_decide_eq_true (by first | (with_reducible assumption) | assumption)
                            have q741 : x59_2 < (t717.length : Int) := of_decide_eq_true (by first | (with_reducible assumption) | assumption)
                            obtain ⟨ad741, e741, hx741_0⟩ := Kd.at_string (Kd.R_reads' HO_57.out).2.2 x59_2 p741 q741
                            cases e741
                            replace p741 := eq_true p741
                            replace q741 := eq_true q741
                            go_wp2
                            go_roundg k2
                            case measure => have := HJ12.out; have := HK2.out; omega
                            case rel => exact ⟨(true), (wrap64 (x59_2 + 1)), (by first | rfl | (simp; done) | (simp [*]; done)), (by first | rfl | (simp; done) | (simp [*]; done)), H', ⟨by have := HJ12.out; have := HK2.out; omega⟩, ⟨by (with_reducible repeat (first | apply Kd.R_alloc | apply Kd.R_drewN | apply Kd.R_drew)); exact HO_57.out⟩, ⟨by (with_reducible repeat (first | apply Kd.R_alloc | apply Kd.R_drewN | apply Kd.R_drew)); exact HO_729001.out⟩, ⟨by (with_reducible repeat (first | apply Kd.R_alloc | apply Kd.R_drewN | apply Kd.R_drew)); exact HO_741001.out⟩, ⟨by (with_reducible repeat (first | refine blk_drewN ?_ _ | refine blk_drew ?_ | refine blk_alloc ?_ _)); exact BK728.out⟩, ⟨by (with_reducible repeat (first | refine blk_drewN ?_ _ | refine blk_drew ?_ | refine blk_alloc ?_ _)); exact BK740.out⟩, ⟨by repeat (first | (with_reducible first | exact HB.out | apply below_alloc | apply pw_below_drewN | apply below_drew1 | refine below_set ?_ GE728.out | refine below_set ?_ GE740.out) | exact HB.out)⟩⟩
                          · replace c39 := Bool.eq_false_iff.mpr c39
                            subst c39
                            have H1 : (storagebarterlaw08_ManifestAppends.l0 k2 t721 ((rdOf ByteArray.empty t717 x59_2).toList == t721.toList) t717 (t717.length : Int) (wrap64 (x59_2 + 1)) t723 t724 t735 t736) = some r := by rw [if_neg (show ¬ (false = true) by decide)] at H; exact H
                            clear H
                            have H := H1
                            clear H1
                            have H' := Aside0.mk H
                            clear H
                            have p741 : 0 ≤ (x59_2 : Int) := of_decide_eq_true (by first | (with_reducible assumption) | assumption)
                            have q741 : x59_2 < (t717.length : Int) := of_decide_eq_true (by first | (with_reducible assumption) | assumption)
                            obtain ⟨ad741, e741, hx741_0⟩ := Kd.at_string (Kd.R_reads' HO_57.out).2.2 x59_2 p741 q741
                            cases e741
                            replace p741 := eq_true p741
                            replace q741 := eq_true q741
                            go_wp2
                            go_roundg k2
                            case measure => have := HJ12.out; have := HK2.out; omega
                            case rel => exact ⟨(((rdOf ByteArray.empty t717 x59_2).toList == t721.toList)), (wrap64 (x59_2 + 1)), (by first | rfl | (simp; done) | (simp [*]; done)), (by first | rfl | (simp; done) | (simp [*]; done)), H', ⟨by have := HJ12.out; have := HK2.out; omega⟩, ⟨by (with_reducible repeat (first | apply Kd.R_alloc | apply Kd.R_drewN | apply Kd.R_drew)); exact HO_57.out⟩, ⟨by (with_reducible repeat (first | apply Kd.R_alloc | apply Kd.R_drewN | apply Kd.R_drew)); exact HO_729001.out⟩, ⟨by (with_reducible repeat (first | apply Kd.R_alloc | apply Kd.R_drewN | apply Kd.R_drew)); exact HO_741001.out⟩, ⟨by (with_reducible repeat (first | refine blk_drewN ?_ _ | refine blk_drew ?_ | refine blk_alloc ?_ _)); exact BK728.out⟩, ⟨by (with_reducible repeat (first | refine blk_drewN ?_ _ | refine blk_drew ?_ | refine blk_alloc ?_ _)); exact BK740.out⟩, ⟨by repeat (first | (with_reducible first | exact HB.out | apply below_alloc | apply pw_below_drewN | apply below_drew1 | refine below_set ?_ GE728.out | refine below_set ?_ GE740.out) | exact HB.out)⟩⟩
                        · rw [if_neg c38] at H
                          exact absurd H (by simp)
                      · rw [if_neg c37] at H
                        exact absurd H (by simp)
                    · rw [if_neg c36] at H
                      have c36b0 : decide (x59_2 < (t717.length : Int)) = false := decide_eq_false c36
                      clear c36
                      replace H := Option.bind_eq_some_iff.mp H
                      obtain ⟨⟨t742, t745, t748⟩, A400, H⟩ := H
                      replace H : ((manifest_Size.f k2 t723 t724).bind fun bt749 => ((manifest_Size.f k2 t735 t736).bind fun bt751 => (if t748 = 0 then (if bt749.2 = 0 then (if bt751.2 = 0 then (if (t736.length : Int) = (wrap64 ((t724.length : Int) + 1)) then (if (t745.length : Int) = 0 then (if (((t742.length : Int) == 0) == x10_2) = true then (if (t742.length : Int) ≤ 1 then (some (bt751.1 == (wrap64 (bt749.1 + (t721.size : Int))))) else (some false)) else (some false)) else (some false)) else (some false)) else (some false)) else (some false)) else (some false)))) = some r := H
                      have A40 := Aside0.mk A400
                      clear A400
                      replace H := Option.bind_eq_some_iff.mp H
                      obtain ⟨⟨t749, t750⟩, A410, H⟩ := H
                      replace H : ((manifest_Size.f k2 t735 t736).bind fun bt751 => (if t748 = 0 then (if t750 = 0 then (if bt751.2 = 0 then (if (t736.length : Int) = (wrap64 ((t724.length : Int) + 1)) then (if (t745.length : Int) = 0 then (if (((t742.length : Int) == 0) == x10_2) = true then (if (t742.length : Int) ≤ 1 then (some (bt751.1 == (wrap64 (t749 + (t721.size : Int))))) else (some false)) else (some false)) else (some false)) else (some false)) else (some false)) else (some false)) else (some false))) = some r := H
                      have A41 := Aside0.mk A410
                      clear A410
                      replace H := Option.bind_eq_some_iff.mp H
                      obtain ⟨⟨t751, t752⟩, A420, H⟩ := H
                      replace H : (if t748 = 0 then (if t750 = 0 then (if t752 = 0 then (if (t736.length : Int) = (wrap64 ((t724.length : Int) + 1)) then (if (t745.length : Int) = 0 then (if (((t742.length : Int) == 0) == x10_2) = true then (if (t742.length : Int) ≤ 1 then (some (t751 == (wrap64 (t749 + (t721.size : Int))))) else (some false)) else (some false)) else (some false)) else (some false)) else (some false)) else (some false)) else (some false)) = some r := H
                      have A42 := Aside0.mk A420
                      clear A420
                      by_cases c43 : t748 = 0
                      · rw [if_pos c43] at H
                        have c43b0 : (t748 == 0) = true := beq_iff_eq.mpr c43
                        have c43b1 : (t748 != 0) = false := bne_eq_false_iff_eq.mpr c43
                        clear c43
                        by_cases c44 : t750 = 0
                        · rw [if_pos c44] at H
                          have c44b0 : (t750 == 0) = true := beq_iff_eq.mpr c44
                          have c44b1 : (t750 != 0) = false := bne_eq_false_iff_eq.mpr c44
                          clear c44
                          by_cases c45 : t752 = 0
                          · rw [if_pos c45] at H
                            have c45b0 : (t752 == 0) = true := beq_iff_eq.mpr c45
                            have c45b1 : (t752 != 0) = false := bne_eq_false_iff_eq.mpr c45
                            clear c45
                            by_cases c46 : (t736.length : Int) = (wrap64 ((t724.length : Int) + 1))
                            · rw [if_pos c46] at H
                              have c46b0 : ((t736.length : Int) == (wrap64 ((t724.length : Int) + 1))) = true := beq_iff_eq.mpr c46
                              have c46b1 : ((t736.length : Int) != (wrap64 ((t724.length : Int) + 1))) = false := bne_eq_false_iff_eq.mpr c46
                              clear c46
                              by_cases c47 : (t745.length : Int) = 0
                              · rw [if_pos c47] at H
                                have c47b0 : ((t745.length : Int) == 0) = true := beq_iff_eq.mpr c47
                                have c47b1 : ((t745.length : Int) != 0) = false := bne_eq_false_iff_eq.mpr c47
                                clear c47
                                by_cases c48 : (((t742.length : Int) == 0) == x10_2) = true
                                · rw [if_pos c48] at H
                                  have c48b0 : (((t742.length : Int) == 0) == x10_2) = true := c48
                                  (try (have c48b1 : decide (((t742.length : Int) == 0) = x10_2) = true := by simpa using c48))
                                  (try (have c48b2 : (((t742.length : Int) == 0) == x10_2) = true := by simpa using c48))
                                  clear c48
                                  by_cases c49 : (t742.length : Int) ≤ 1
                                  · rw [if_pos c49] at H
                                    have c49b0 : decide ((t742.length : Int) ≤ 1) = true := decide_eq_true c49
                                    have c49b1 : decide (t742.length ≤ 1) = true := decide_eq_true (by omega)
                                    clear c49
                                    obtain rfl := Option.some.inj H
                                    have hnb50 := NB728_740.out
                                    have hnc50 := NB740_728.out
                                    have hcz51_0 : wr.cell? ⟨gb728, 0, none⟩ = some (.int .i64 t723) := (blk_cell BK728.out 0).trans rfl
                                    have hcz51_1 : wr.cell? ⟨gb728, 1, none⟩ = some (.slice Ao23 t724.length co23) := (blk_cell BK728.out 1).trans rfl
                                    have hfz51_0 := blk_frozen BK728.out 0
                                    have hfz51_1 := blk_frozen BK728.out 1
                                    have hcz52_0 : wr.cell? ⟨gb740, 0, none⟩ = some (.int .i64 t735) := (blk_cell BK740.out 0).trans rfl
                                    have hcz52_1 : wr.cell? ⟨gb740, 1, none⟩ = some (.slice Ao32 t736.length co32) := (blk_cell BK740.out 1).trans rfl
                                    have hfz52_0 := blk_frozen BK740.out 0
                                    have hfz52_1 := blk_frozen BK740.out 1
                                    go_wp2_with (first | ((with_reducible refine gate_callee (f := 47) rfl ?_); refine goesL_ (some 73) rfl rfl Try.func47 (by kernel_rfl) rfl #[.agg #[.int .i64 t723, .slice Ao23 t724.length co23], .agg #[.int .i64 t735, .slice Ao32 t736.length co32]] rfl (by (try simp only [List.map_toArray, List.map_cons, List.map_nil]); first | done | rfl | (simp only [List.length_drop, List.length_take]; rfl)) ?_; (with_reducible refine (manifest_Change.calls k2 t723 _ _ t724 t735 _ _ t736 t742 t745 t748 _ ?side1 ?side2 ?side3 ?side4 A40.out).mono ?_); (case side1 => repeat (first | exact (Kd.R_reads' HO_729001.out).2.2 | (with_reducible refine Kd.C_alloc ?_ _) | (with_reducible refine Kd.C_drewN ?_ _) | (with_reducible refine Kd.C_drew ?_))); (case side2 => exact (Kd.R_reads' HO_729001.out).2.1); (case side3 => repeat (first | exact (Kd.R_reads' HO_741001.out).2.2 | (with_reducible refine Kd.C_alloc ?_ _) | (with_reducible refine Kd.C_drewN ?_ _) | (with_reducible refine Kd.C_drew ?_))); (case side4 => exact (Kd.R_reads' HO_741001.out).2.1); rintro e w53 ⟨v743, v746, rfl, ho0, ho1, hb⟩; refine ⟨_, rfl, ?_⟩; have n0_ := Aside0.mk (Kd.R_below (by (with_reducible repeat (first | apply Kd.R_alloc | apply Kd.R_drewN | apply Kd.R_drew)); exact HO_57.out) hb); have n1_ := Aside0.mk (Kd.R_mono (Kd.R_told (Kd.R_told (Kd.R_old (by (with_reducible repeat (first | apply Kd.R_alloc | apply Kd.R_drewN | apply Kd.R_drew)); exact HO_729001.out) hb) (Kd.R_base ho0)) (Kd.R_base ho1)) (fun _ h_ => h_.1)); have n2_ := Aside0.mk (Kd.R_mono (Kd.R_told (Kd.R_told (Kd.R_old (by (with_reducible repeat (first | apply Kd.R_alloc | apply Kd.R_drewN | apply Kd.R_drew)); exact HO_741001.out) hb) (Kd.R_base ho0)) (Kd.R_base ho1)) (fun _ h_ => h_.1)); have n3_ := Aside0.mk (Kd.R_lower (Kd.R_new' (Kd.R_new' ho0 (Kd.R_lt (by (with_reducible repeat (first | apply Kd.R_alloc | apply Kd.R_drewN | apply Kd.R_drew)); exact HO_729001.out))) (Kd.R_lt (by (with_reducible repeat (first | apply Kd.R_alloc | apply Kd.R_drewN | apply Kd.R_drew)); exact HO_741001.out))) (below_size (by repeat (first | (with_reducible first | exact HB.out | apply below_alloc | apply pw_below_drewN | apply below_drew1 | refine below_set ?_ GE728.out | refine below_set ?_ GE740.out) | exact HB.out)))); have n4_ := Aside0.mk (Kd.R_lower (Kd.R_new' (Kd.R_new' ho1 (Kd.R_lt (by (with_reducible repeat (first | apply Kd.R_alloc | apply Kd.R_drewN | apply Kd.R_drew)); exact HO_729001.out))) (Kd.R_lt (by (with_reducible repeat (first | apply Kd.R_alloc | apply Kd.R_drewN | apply Kd.R_drew)); exact HO_741001.out))) (below_size (by repeat (first | (with_reducible first | exact HB.out | apply below_alloc | apply pw_below_drewN | apply below_drew1 | refine below_set ?_ GE728.out | refine below_set ?_ GE740.out) | exact HB.out)))); have n5_ := Aside0.mk (blk_below (g := gb728) (o := .cells #[.int .i64 t723, .slice Ao23 t724.length co23] 32 (0, 0)) (by (with_reducible repeat (first | refine blk_drewN ?_ _ | refine blk_drew ?_ | refine blk_alloc ?_ _)); exact BK728.out) hb); have n6_ := Aside0.mk (blk_below (g := gb740) (o := .cells #[.int .i64 t735, .slice Ao32 t736.length co32] 32 (0, 0)) (by (with_reducible repeat (first | refine blk_drewN ?_ _ | refine blk_drew ?_ | refine blk_alloc ?_ _)); exact BK740.out) hb); have n7_ := Aside0.mk (below_step (by repeat (first | (with_reducible first | exact HB.out | apply below_alloc | apply pw_below_drewN | apply below_drew1 | refine below_set ?_ GE728.out | refine below_set ?_ GE740.out) | exact HB.out)) hb); clear HO_57; clear HO_729001; clear HO_741001; clear BK728; clear BK740; clear HB; have HO_57 := n0_; have HO_729001 := n1_; have HO_741001 := n2_; have HO744 := n3_; have HO747 := n4_; have BK728 := n5_; have BK740 := n6_; have HB := n7_; clear n0_ n1_ n2_ n3_ n4_ n5_ n6_ n7_; (try clear hb); (try clear hb2); (try clear hk); (try clear hi); (try clear ho0); (try clear ho1); have hcz54_0 : w53.cell? ⟨gb728, 0, none⟩ = some (.int .i64 t723) := (blk_cell BK728.out 0).trans rfl; have hcz54_1 : w53.cell? ⟨gb728, 1, none⟩ = some (.slice Ao23 t724.length co23) := (blk_cell BK728.out 1).trans rfl; have hfz54_0 := blk_frozen BK728.out 0; have hfz54_1 := blk_frozen BK728.out 1) | ((with_reducible refine gate_callee (f := 22) rfl ?_); refine goesL_ (some 79) rfl rfl Try.func22 (by kernel_rfl) rfl #[.agg #[.int .i64 t723, .slice Ao23 t724.length co23]] rfl (by (try simp only [List.map_toArray, List.map_cons, List.map_nil]); first | done | rfl | (simp only [List.length_drop, List.length_take]; rfl)) ?_; (with_reducible refine (manifest_Size.calls k2 t723 _ _ t724 t749 t750 _ ?side1 ?side2 A41.out).mono ?_); (case side1 => repeat (first | exact (Kd.R_reads' HO_729001.out).2.2 | (with_reducible refine Kd.C_alloc ?_ _) | (with_reducible refine Kd.C_drewN ?_ _) | (with_reducible refine Kd.C_drew ?_))); (case side2 => exact (Kd.R_reads' HO_729001.out).2.1); rintro e w55 ⟨rfl, hb⟩; refine ⟨_, rfl, ?_⟩; have n0_ := Aside0.mk (Kd.R_below (by (with_reducible repeat (first | apply Kd.R_alloc | apply Kd.R_drewN | apply Kd.R_drew)); exact HO_57.out) hb); have n1_ := Aside0.mk (Kd.R_below (by (with_reducible repeat (first | apply Kd.R_alloc | apply Kd.R_drewN | apply Kd.R_drew)); exact HO_729001.out) hb); have n2_ := Aside0.mk (Kd.R_below (by (with_reducible repeat (first | apply Kd.R_alloc | apply Kd.R_drewN | apply Kd.R_drew)); exact HO_741001.out) hb); have n3_ := Aside0.mk (Kd.R_below (by (with_reducible repeat (first | apply Kd.R_alloc | apply Kd.R_drewN | apply Kd.R_drew)); exact HO744.out) hb); have n4_ := Aside0.mk (Kd.R_below (by (with_reducible repeat (first | apply Kd.R_alloc | apply Kd.R_drewN | apply Kd.R_drew)); exact HO747.out) hb); have n5_ := Aside0.mk (blk_below (g := gb728) (o := .cells #[.int .i64 t723, .slice Ao23 t724.length co23] 32 (0, 0)) (by (with_reducible repeat (first | refine blk_drewN ?_ _ | refine blk_drew ?_ | refine blk_alloc ?_ _)); exact BK728.out) hb); have n6_ := Aside0.mk (blk_below (g := gb740) (o := .cells #[.int .i64 t735, .slice Ao32 t736.length co32] 32 (0, 0)) (by (with_reducible repeat (first | refine blk_drewN ?_ _ | refine blk_drew ?_ | refine blk_alloc ?_ _)); exact BK740.out) hb); have n7_ := Aside0.mk (below_step (by repeat (first | (with_reducible first | exact HB.out | apply below_alloc | apply pw_below_drewN | apply below_drew1 | refine below_set ?_ GE728.out | refine below_set ?_ GE740.out) | exact HB.out)) hb); clear HO_57; clear HO_729001; clear HO_741001; clear HO744; clear HO747; clear BK728; clear BK740; clear HB; have HO_57 := n0_; have HO_729001 := n1_; have HO_741001 := n2_; have HO744 := n3_; have HO747 := n4_; have BK728 := n5_; have BK740 := n6_; have HB := n7_; clear n0_ n1_ n2_ n3_ n4_ n5_ n6_ n7_; (try clear hb); (try clear hb2); (try clear hk); (try clear hi); have hcz56_0 : w55.cell? ⟨gb740, 0, none⟩ = some (.int .i64 t735) := (blk_cell BK740.out 0).trans rfl; have hcz56_1 : w55.cell? ⟨gb740, 1, none⟩ = some (.slice Ao32 t736.length co32) := (blk_cell BK740.out 1).trans rfl; have hfz56_0 := blk_frozen BK740.out 0; have hfz56_1 := blk_frozen BK740.out 1) | ((with_reducible refine gate_callee (f := 22) rfl ?_); refine goesL_ (some 84) rfl rfl Try.func22 (by kernel_rfl) rfl #[.agg #[.int .i64 t735, .slice Ao32 t736.length co32]] rfl (by (try simp only [List.map_toArray, List.map_cons, List.map_nil]); first | done | rfl | (simp only [List.length_drop, List.length_take]; rfl)) ?_; (with_reducible refine (manifest_Size.calls k2 t735 _ _ t736 t751 t752 _ ?side1 ?side2 A42.out).mono ?_); (case side1 => repeat (first | exact (Kd.R_reads' HO_741001.out).2.2 | (with_reducible refine Kd.C_alloc ?_ _) | (with_reducible refine Kd.C_drewN ?_ _) | (with_reducible refine Kd.C_drew ?_))); (case side2 => exact (Kd.R_reads' HO_741001.out).2.1); rintro e w57 ⟨rfl, hb⟩; refine ⟨_, rfl, ?_⟩; have n0_ := Aside0.mk (Kd.R_below (by (with_reducible repeat (first | apply Kd.R_alloc | apply Kd.R_drewN | apply Kd.R_drew)); exact HO_57.out) hb); have n1_ := Aside0.mk (Kd.R_below (by (with_reducible repeat (first | apply Kd.R_alloc | apply Kd.R_drewN | apply Kd.R_drew)); exact HO_729001.out) hb); have n2_ := Aside0.mk (Kd.R_below (by (with_reducible repeat (first | apply Kd.R_alloc | apply Kd.R_drewN | apply Kd.R_drew)); exact HO_741001.out) hb); have n3_ := Aside0.mk (Kd.R_below (by (with_reducible repeat (first | apply Kd.R_alloc | apply Kd.R_drewN | apply Kd.R_drew)); exact HO744.out) hb); have n4_ := Aside0.mk (Kd.R_below (by (with_reducible repeat (first | apply Kd.R_alloc | apply Kd.R_drewN | apply Kd.R_drew)); exact HO747.out) hb); have n5_ := Aside0.mk (blk_below (g := gb728) (o := .cells #[.int .i64 t723, .slice Ao23 t724.length co23] 32 (0, 0)) (by (with_reducible repeat (first | refine blk_drewN ?_ _ | refine blk_drew ?_ | refine blk_alloc ?_ _)); exact BK728.out) hb); have n6_ := Aside0.mk (blk_below (g := gb740) (o := .cells #[.int .i64 t735, .slice Ao32 t736.length co32] 32 (0, 0)) (by (with_reducible repeat (first | refine blk_drewN ?_ _ | refine blk_drew ?_ | refine blk_alloc ?_ _)); exact BK740.out) hb); have n7_ := Aside0.mk (below_step (by repeat (first | (with_reducible first | exact HB.out | apply below_alloc | apply pw_below_drewN | apply below_drew1 | refine below_set ?_ GE728.out | refine below_set ?_ GE740.out) | exact HB.out)) hb); clear HO_57; clear HO_729001; clear HO_741001; clear HO744; clear HO747; clear BK728; clear BK740; clear HB; have HO_57 := n0_; have HO_729001 := n1_; have HO_741001 := n2_; have HO744 := n3_; have HO747 := n4_; have BK728 := n5_; have BK740 := n6_; have HB := n7_; clear n0_ n1_ n2_ n3_ n4_ n5_ n6_ n7_; (try clear hb); (try clear hb2); (try clear hk); (try clear hi); have hcz58_0 : w57.cell? ⟨gb740, 0, none⟩ = some (.int .i64 t735) := (blk_cell BK740.out 0).trans rfl; have hcz58_1 : w57.cell? ⟨gb740, 1, none⟩ = some (.slice Ao32 t736.length co32) := (blk_cell BK740.out 1).trans rfl; have hfz58_0 := blk_frozen BK740.out 0; have hfz58_1 := blk_frozen BK740.out 1; have hcz59_0 : w57.cell? ⟨gb728, 0, none⟩ = some (.int .i64 t723) := (blk_cell BK728.out 0).trans rfl; have hcz59_1 : w57.cell? ⟨gb728, 1, none⟩ = some (.slice Ao23 t724.length co23) := (blk_cell BK728.out 1).trans rfl; have hfz59_0 := blk_frozen BK728.out 0; have hfz59_1 := blk_frozen BK728.out 1; obtain ⟨Ao60, co60, eo60⟩ := Kd.R_slice HO747.out; subst eo60; obtain ⟨Ao61, co61, eo61⟩ := Kd.R_slice HO744.out; subst eo61))
                                    go_ret
                                    exact ⟨by first | rfl | (simp [errW_none, errW_some] <;> rfl) | (simp [*, errW_none, errW_some] <;> rfl), by repeat (first | (with_reducible first | exact HB.out | apply below_alloc | apply pw_below_drewN | apply below_drew1 | refine below_set ?_ GE728.out | refine below_set ?_ GE740.out) | exact HB.out)⟩
                                  · rw [if_neg c49] at H
                                    exact absurd (H.trans (congrArg some RT_.out)) (by simp)
                                · rw [if_neg c48] at H
                                  exact absurd (H.trans (congrArg some RT_.out)) (by simp)
                              · rw [if_neg c47] at H
                                exact absurd (H.trans (congrArg some RT_.out)) (by simp)
                            · rw [if_neg c46] at H
                              exact absurd (H.trans (congrArg some RT_.out)) (by simp)
                          · rw [if_neg c45] at H
                            exact absurd (H.trans (congrArg some RT_.out)) (by simp)
                        · rw [if_neg c44] at H
                          exact absurd (H.trans (congrArg some RT_.out)) (by simp)
                      · rw [if_neg c43] at H
                        exact absurd (H.trans (congrArg some RT_.out)) (by simp)
        · rw [if_neg c11] at H
          exact absurd H (by simp)
      · rw [if_neg c10] at H
        exact absurd H (by simp)
    · replace c5 := Bool.eq_false_iff.mpr c5
      subst c5
      have H1 : (some true) = some r := by rw [if_neg (show ¬ (false = true) by decide)] at H; exact H
      clear H
      have H := H1
      clear H1
      obtain rfl := Option.some.inj H
      go_enter Try.func11, Try.ntmps11
      go_wp2_with (first | ((with_reducible refine gate_callee (f := 13) rfl ?_); refine goesL_ (some 20) rfl rfl Try.func13 (by kernel_rfl) rfl #[] rfl (by (try simp only [List.map_toArray, List.map_cons, List.map_nil]); first | done | rfl | (simp only [List.length_drop, List.length_take]; rfl)) ?_; (with_reducible refine (storagebarterlaw08_sane.calls k  true _ A2.out).mono ?_); rintro e w62 ⟨rfl, hb⟩; refine ⟨_, rfl, ?_⟩; have n0_ := Aside0.mk (below_step (by repeat (first | (with_reducible first | exact HB.out | apply below_alloc | apply pw_below_drewN | apply below_drew1) | exact HB.out)) hb); clear HB; have HB := n0_; clear n0_; (try clear hb); (try clear hb2); (try clear hk); (try clear hi)) | ((with_reducible refine gate_callee (f := 14) rfl ?_); refine goesL_ (some 23) rfl rfl Try.func14 (by kernel_rfl) rfl #[.slice A0 l0.length c0] rfl (by (try simp only [List.map_toArray, List.map_cons, List.map_nil]); first | done | rfl | (simp only [List.length_drop, List.length_take]; rfl)) ?_; (with_reducible refine (storagebartermake_Few.calls _ _ l0 false _ ?side1 ?side2 A4.out).mono ?_); (case side1 => repeat (first | exact (Kd.C_below HR0.out HB.out) | (with_reducible refine Kd.C_alloc ?_ _) | (with_reducible refine Kd.C_drewN ?_ _) | (with_reducible refine Kd.C_drew ?_))); (case side2 => exact HC0.out); rintro e w' ⟨rfl, ⟨nd, rfl⟩⟩; refine ⟨_, rfl, ?_⟩))
      go_ret
      exact ⟨by first | rfl | (simp [errW_none, errW_some] <;> rfl) | (simp [*, errW_none, errW_some] <;> rfl), by repeat (first | (with_reducible first | exact HB.out | apply below_alloc | apply pw_below_drewN | apply below_drew1) | exact HB.out)⟩
  · replace c3 := Bool.eq_false_iff.mpr c3
    subst c3
    have H1 : (some false) = some r := by rw [if_neg (show ¬ (false = true) by decide)] at H; exact H
    clear H
    have H := H1
    clear H1
    exact absurd (H.trans (congrArg some RT_.out)) (by simp)
/-- THE ONE PURE STATEMENT of storagebarterlaw08_ManifestAppends: yours. -/
noncomputable def storagebarterlaw08_ManifestAppends.Pure : Prop := ∀ (l0 : List Int), l0.length ≤ maxLen → l0.length * 8 ≤ 140737488351232 → (∀ x ∈ l0, (Lit.int .i64 x).wf = true) → ∃ k, storagebarterlaw08_ManifestAppends.f k l0 = some true
end Go.Proofs.Ytodhkbahjomfhaa.Q

namespace Go.Proofs.Ytodhkbahjomfhaa.Gdm
open Go Go.RowKit Go.Proofs.Ytodhkbahjomfhaa.Gm Go.Proofs.Ytodhkbahjomfhaa.Q Go.Proofs.Ytodhkbahjomfhaa.Gput Go.Proofs.YtodhkbahjomfhaaW.PrintWords Go.Proofs.YtodhkbahjomfhaaW.PrintLast Go.Proofs.YtodhkbahjomfhaaW.PrintMore
set_option linter.unusedVariables false
theorem w64 {x : Int} (h : -9223372036854775808 ≤ x ∧ x ≤ 9223372036854775807) : wrap64 x = x := by unfold wrap64; omega
theorem bt_at (s : ByteArray) (a : Nat) (h : a < s.size) : bt s (a : Int) = ((s.data.toList.drop a).headD 0).toNat := by
  have h' : a < s.data.size := h
  unfold bt
  rw [dif_pos (by simpa using h)]
  simp only [Int.toNat_natCast]
  rw [List.drop_eq_getElem_cons (by simpa using h')]
  rfl
theorem bt_lt (s : ByteArray) (i : Int) : 0 ≤ bt s i ∧ bt s i < 256 := by
  unfold bt
  split
  · have := (s[i.toNat]).toNat_lt; omega
  · omega
theorem wf64 {n : Int} (h : -9223372036854775808 ≤ n ∧ n ≤ 9223372036854775807) : (Lit.int .i64 n).wf = true := Go.WalkArith.wf_i64 h
theorem wire_PutInt_eq (l : List UInt8) (n : Int) (hl : l.length + 10 ≤ 140737488355328) (hn : -9223372036854775808 ≤ n ∧ n ≤ 9223372036854775807) : wire_PutInt.f (B l) n = some (B (l ++ putI n)) := by
  unfold wire_PutInt.f
  rw [if_pos ⟨by rw [B_size]; exact hl, wf64 hn⟩]
  rfl
theorem tmod_mod (a m : Int) (hm : 0 < m) : (Int.tmod a m + m) % m = a % m := by
  have h := Int.mul_tdiv_add_tmod a m
  have e : Int.tmod a m + m = a + m * (1 - Int.tdiv a m) := by rw [Int.mul_sub]; omega
  rw [e, Int.add_mul_emod_self_left]
theorem tmod_range (a m : Int) (hm : 0 < m) : -m < Int.tmod a m ∧ Int.tmod a m < m := by
  refine ⟨?_, Int.tmod_lt_of_pos a hm⟩
  rcases Int.le_total 0 a with h | h
  · have := Int.tmod_nonneg m h; omega
  · have h1 := Int.tmod_nonneg m (show 0 ≤ -a by omega)
    have h2 := Int.tmod_lt_of_pos (-a) hm
    rw [Int.neg_tmod] at h1 h2
    omega
theorem mod_eq (a m : Int) (hm : 0 < m) (hb : m ≤ 4294967296) : storagebartermake_Mod.f a m = some (a % m) := by
  unfold storagebartermake_Mod.f
  have hr := tmod_range a m hm
  rw [if_neg (by omega), w64 (by omega), Int.tmod_eq_emod_of_nonneg (by omega), tmod_mod a m hm]
/-- The digest of bytes, from a value on. -/
def dg : Int → List UInt8 → Int
  | d, [] => d
  | d, b :: l => dg ((d * 1000003 + b.toNat + 1) % 2147483647) l
theorem dg_range : ∀ (l : List UInt8) (d : Int), 0 ≤ d ∧ d < 2147483647 → 0 ≤ dg d l ∧ dg d l < 2147483647
  | [], d, h => h
  | b :: l, d, h => dg_range l _ (by omega)
theorem sum_step (s : ByteArray) (d : Int) (i : Nat) (hd : 0 ≤ d ∧ d < 2147483647) (hi : i < s.size) : Int.tmod (wrap64 ((wrap64 ((wrap64 (d * 1000003)) + (wrap64 (bt s i)))) + 1)) 2147483647 = (d * 1000003 + (s.data.toList[i]'(by simpa using hi)).toNat + 1) % 2147483647 := by
  have hb := bt_lt s i
  have hbt : bt s i = (s.data.toList[i]'(by simpa using hi)).toNat := by
    have h := bt_at s i hi
    rw [List.drop_eq_getElem_cons (by simpa using hi)] at h
    exact h
  rw [w64 (x := d * 1000003) (by omega), w64 (x := bt s i) (by omega), w64 (x := d * 1000003 + bt s i) (by omega), w64 (by omega), Int.tmod_eq_emod_of_nonneg (by omega), hbt]
theorem Sum_l0 (s : ByteArray) (hs : s.size ≤ 9223372036854775807) : ∀ (n i k : Nat) (d : Int), s.size - i = n → i ≤ s.size → 0 ≤ d ∧ d < 2147483647 → n < k → digest_Sum.l0 k s d s.size i = some (dg d (s.data.toList.drop i)) := by
  intro n
  induction n with
  | zero =>
    intro i k d hn hi hd hk
    obtain ⟨k, rfl⟩ : ∃ m, k = m + 1 := ⟨k - 1, by omega⟩
    simp only [digest_Sum.l0]
    rw [if_neg (by omega), List.drop_of_length_le (by rw [Array.length_toList]; show s.size ≤ i; omega)]
    rfl
  | succ n ih =>
    intro i k d hn hi hd hk
    obtain ⟨k, rfl⟩ : ∃ m, k = m + 1 := ⟨k - 1, by omega⟩
    have hlt : i < s.size := by omega
    simp only [digest_Sum.l0]
    rw [if_pos (by omega), if_pos (by omega), if_pos (by omega), sum_step s d i hd hlt, w64 (by omega), show ((i : Int) + 1) = ((i + 1 : Nat) : Int) by omega, ih (i + 1) k _ (by omega) (by omega) (by omega) (by omega), List.drop_eq_getElem_cons (show i < s.data.toList.length by simpa using hlt)]
    rfl
theorem Sum_eq (l : List UInt8) (k : Nat) (hl : l.length ≤ 9223372036854775807) (hk : l.length < k) : digest_Sum.f k (B l) = some (dg 1 l) := by
  unfold digest_Sum.f
  exact Sum_l0 (B l) (by rw [B_size]; exact hl) l.length 0 k 1 (by rw [B_size]; omega) (by omega) (by omega) hk
/-- A choice out of a deck is in its range; the deck's place stays within its list. -/
theorem next_ok (L : List Int) (at_ n : Int) (hn : 1 ≤ n) (hb : n ≤ 4294967296) (h0 : 0 ≤ at_) (hl : L.length ≤ 1000000) : ∃ t at', storagebartermake_Deck_Next.f L at_ n = some (t, at') ∧ 0 ≤ t ∧ t < n ∧ 0 ≤ at' := by
  unfold storagebartermake_Deck_Next.f
  rw [if_neg (by omega)]
  by_cases h : at_ ≥ (L.length : Int)
  · rw [if_pos h]
    exact ⟨0, at_, rfl, by omega, by omega, h0⟩
  · rw [if_neg h, if_pos h0, if_pos (by omega), mod_eq _ _ (by omega) hb, Option.bind_some]
    exact ⟨_, _, rfl, Int.emod_nonneg _ (by omega), Int.emod_lt_of_pos _ (by omega), by rw [w64 (by omega)]; omega⟩
end Go.Proofs.Ytodhkbahjomfhaa.Gdm

namespace Go.Proofs.Ytodhkbahjomfhaa.Gch
open Go Go.RowKit Go.Proofs.Ytodhkbahjomfhaa.Gm Go.Proofs.Ytodhkbahjomfhaa.Gdm Go.Proofs.Ytodhkbahjomfhaa.Q Go.Proofs.Ytodhkbahjomfhaa.Gput Go.Proofs.YtodhkbahjomfhaaW.PrintWords Go.Proofs.YtodhkbahjomfhaaW.PrintLast Go.Proofs.YtodhkbahjomfhaaW.PrintMore
set_option linter.unusedVariables false
theorem nat_pred {k n : Nat} (h : n < k) : ∃ m, k = m + 1 := ⟨k - 1, by omega⟩
theorem dg_r (l : List UInt8) : 0 ≤ dg 1 l ∧ dg 1 l < 2147483647 := dg_range l 1 (by omega)
theorem nameOf_eq (s : ByteArray) (hs : s.size ≤ 9223372036854775807) (k : Nat) (hk : s.size < k) : manifest_nameOf.f k s = some (dg 1 s.data.toList, (s.size : Int)) := by
  have h := Sum_eq s.data.toList k (by rw [data_length]; exact hs) (by rw [data_length]; exact hk)
  have e : B s.data.toList = s := by cases s; rfl
  rw [e] at h
  unfold manifest_nameOf.f
  rw [h]
  rfl
theorem nm_eq (s : ByteArray) (hs : s.size ≤ 9223372036854775807) : nm s = (dg 1 s.data.toList, (s.size : Int)) := nm_of (nameOf_eq s hs _ (Nat.lt_succ_self _))
theorem named (s : ByteArray) (hs : s.size ≤ 9223372036854775807) : Named s := by
  have h := dg_r s.data.toList
  refine ⟨⟨s.size + 1, ?_⟩, ?_, ?_, by unfold maxLen; omega⟩
  · rw [nm_eq s hs]; exact nameOf_eq s hs _ (Nat.lt_succ_self _)
  · rw [nm_eq s hs]; exact wf64 (by simp only; omega)
  · rw [nm_eq s hs]; exact wf64 (by simp only; omega)
theorem strOf_size (l : List Int) : (strOfNums l).size = l.length := by
  unfold strOfNums
  simp [ByteArray.size]
theorem Text_l0 (L : List Int) (hL : L.length ≤ 1000000) : ∀ (n : Nat) (xs : List Int) (at_ : Int) (k : Nat), 0 ≤ at_ → n < k → xs.length + n ≤ 1000 → ∃ t at', storagebartermake_Text.l0 k xs (n : Int) L at_ = some (t, at') ∧ t.size = xs.length + n ∧ 0 ≤ at' := by
  intro n
  induction n with
  | zero =>
    intro xs at_ k h0 hk hl
    obtain ⟨k, rfl⟩ := nat_pred hk
    rw [storagebartermake_Text.l0, if_neg (by omega)]
    exact ⟨_, _, rfl, by rw [strOf_size]; omega, h0⟩
  | succ n ih =>
    intro xs at_ k h0 hk hl
    obtain ⟨k, rfl⟩ := nat_pred hk
    obtain ⟨t, a, e, -, -, h1⟩ := next_ok L at_ 5 (by omega) (by omega) h0 hL
    rw [storagebartermake_Text.l0, if_pos (by omega), e, Option.bind_some, if_pos (by omega), w64 (x := ((n + 1 : Nat) : Int) - 1) (by omega), show (((n + 1 : Nat) : Int) - 1) = (n : Int) by omega]
    obtain ⟨t', a', e', h2, h3⟩ := ih (xs ++ [(wrap64 (t * 51)) % 256]) a k h1 (by omega) (by rw [List.length_append, List.length_singleton]; omega)
    exact ⟨t', a', e', by rw [h2, List.length_append, List.length_singleton]; omega, h3⟩
theorem Text_ok (L : List Int) (hL : L.length ≤ 1000000) (at_ : Int) (h0 : 0 ≤ at_) (most : Nat) (hm : most ≤ 900) (k : Nat) (hk : most < k) : ∃ t at', storagebartermake_Text.f k L at_ (most : Int) = some (t, at') ∧ t.size ≤ most ∧ 0 ≤ at' := by
  unfold storagebartermake_Text.f
  obtain ⟨t, a, e, p, q, h1⟩ := next_ok L at_ ((most : Int) + 1) (by omega) (by omega) h0 hL
  rw [w64 (x := (most : Int) + 1) (by omega), e, Option.bind_some]
  obtain ⟨n, rfl⟩ : ∃ n : Nat, t = n := ⟨t.toNat, by omega⟩
  obtain ⟨t', a', e', h2, h3⟩ := Text_l0 L hL n [] a k h1 (by omega) (by rw [List.length_nil]; omega)
  exact ⟨t', a', e', by rw [h2, List.length_nil]; omega, h3⟩
theorem Cutting_ok (L : List Int) (hL : L.length ≤ 1000000) (at_ : Int) (h0 : 0 ≤ at_) : ∃ c1 c2 c3 c4 at', storagebartermake_Cutting.f L at_ = some (c1, c2, c3, c4, at') ∧ 0 ≤ at' ∧ 4 ≤ c1 ∧ c1 ≤ c2 ∧ c2 ≤ 30 ∧ 1 ≤ c3 ∧ c3 ≤ c1 ∧ 1 ≤ c4 ∧ c4 ≤ 9 := by
  unfold storagebartermake_Cutting.f
  obtain ⟨t1, a1, e1, p1, q1, h1⟩ := next_ok L at_ 6 (by omega) (by omega) h0 hL
  rw [e1, Option.bind_some]
  obtain ⟨t2, a2, e2, p2, q2, h2⟩ := next_ok L a1 20 (by omega) (by omega) h1 hL
  rw [e2, Option.bind_some]
  dsimp only
  rw [w64 (x := 4 + t1) (by omega)]
  obtain ⟨t3, a3, e3, p3, q3, h3⟩ := next_ok L a2 (4 + t1) (by omega) (by omega) h2 hL
  rw [e3, Option.bind_some]
  obtain ⟨t4, a4, e4, p4, q4, h4⟩ := next_ok L a3 9 (by omega) (by omega) h3 hL
  rw [e4, Option.bind_some]
  dsimp only
  rw [w64 (x := 4 + t1 + t2) (by omega), w64 (x := 1 + t3) (by omega), w64 (x := 1 + t4) (by omega)]
  exact ⟨_, _, _, _, _, rfl, h4, by omega, by omega, by omega, by omega, by omega, by omega, by omega⟩
theorem Weight_l0 (s : ByteArray) (hs : s.size ≤ 1000) (x5 : Int) : ∀ (d : Nat) (i : Int) (x6 : Int) (k : Nat), (s.size : Int) - i = d → 0 ≤ i → d < k → ∃ r, storagebarterref04_Weight.l0 k s x5 x6 i = some r := by
  intro d
  induction d with
  | zero =>
    intro i x6 k hd h0 hk
    obtain ⟨k, rfl⟩ := nat_pred hk
    rw [storagebarterref04_Weight.l0, if_neg (by omega)]
    exact ⟨_, rfl⟩
  | succ d ih =>
    intro i x6 k hd h0 hk
    obtain ⟨k, rfl⟩ := nat_pred hk
    rw [storagebarterref04_Weight.l0, if_pos (by omega), if_pos h0, w64 (x := i + 1) (by omega)]
    exact ih (i + 1) _ k (by omega) (by omega) (by omega)
theorem Weight_ok (s : ByteArray) (hs : s.size ≤ 1000) (w : Int) (hw : 1 ≤ w ∧ w ≤ 1000) (k : Nat) (hk : s.size < k) : ∃ r, storagebarterref04_Weight.f k s w = some r := by
  unfold storagebarterref04_Weight.f
  rw [if_neg (by omega), w64 (x := (s.size : Int) - w) (by omega)]
  have h1 : 0 ≤ mx 0 ((s.size : Int) - w) ∧ mx 0 ((s.size : Int) - w) ≤ s.size := by unfold mx; split <;> omega
  exact Weight_l0 s hs _ ((s.size : Int) - mx 0 ((s.size : Int) - w)).toNat _ _ k (by omega) h1.1 (by omega)
/-- Ends that rise, from a place on, up to a size. -/
def Rise (a : Int) (m : Int) : List Int → Prop
  | [] => True
  | e :: r => a < e ∧ e ≤ m ∧ Rise e m r
theorem Rise_snoc {m : Int} : ∀ {l : List Int} {a e : Int}, Rise a m l → (l.getLast?.getD a) < e → e ≤ m → Rise a m (l ++ [e])
  | [], a, e, _, h1, h2 => ⟨by simpa using h1, h2, trivial⟩
  | b :: r, a, e, ⟨p, q, h⟩, h1, h2 => ⟨p, q, Rise_snoc h (by rw [List.getLast?_cons, Option.getD_some] at h1; exact h1) h2⟩
theorem Ends_l0 (s : ByteArray) (hs : s.size ≤ 60) (c1 c2 c3 c4 : Int) (h3 : 1 ≤ c3 ∧ c3 ≤ 1000) (h4 : 1 ≤ c4) :
    ∀ (d : Nat) (xs : List Int) (st i : Int) (k : Nat), (s.size : Int) + 1 - i = d → 1 ≤ i → Rise 0 s.size xs → st = xs.getLast?.getD 0 → 0 ≤ st → st < i → (xs.length : Int) < i → 100 + d < k →
      ∃ xs', storagebarterref04_Ends.l0 k s xs st i c1 c2 c3 c4 = some (xs', 0) ∧ Rise 0 s.size xs' ∧ xs'.length ≤ 60 := by
  intro d
  induction d with
  | zero =>
    intro xs st i k hd hi hr hst h0 hlt hl hk
    obtain ⟨k, rfl⟩ := nat_pred hk
    rw [storagebarterref04_Ends.l0, if_neg (by omega), if_neg (by omega)]
    exact ⟨_, rfl, hr, by omega⟩
  | succ d ih =>
    intro xs st i k hd hi hr hst h0 hlt hl hk
    obtain ⟨k, rfl⟩ := nat_pred hk
    have hp : ∃ xs', storagebarterref04_Ends.l0 k s (xs ++ [i]) i (i + 1) c1 c2 c3 c4 = some (xs', 0) ∧ Rise 0 s.size xs' ∧ xs'.length ≤ 60 :=
      ih (xs ++ [i]) i (i + 1) k (by omega) (by omega) (Rise_snoc hr (by rw [← hst]; exact hlt) (by omega)) (by simp) (by omega) (by omega) (by rw [List.length_append, List.length_singleton]; omega) (by omega)
    have hq : ∃ xs', storagebarterref04_Ends.l0 k s xs st (i + 1) c1 c2 c3 c4 = some (xs', 0) ∧ Rise 0 s.size xs' ∧ xs'.length ≤ 60 :=
      ih xs st (i + 1) k (by omega) (by omega) hr hst h0 (by omega) (by omega) (by omega)
    have hlen : xs.length < 17592186044416 := by omega
    have hex : ((s.extract st.toNat i.toNat).size) ≤ 60 := by rw [ByteArray.size_extract]; omega
    obtain ⟨wv, hw⟩ := Weight_ok (s.extract st.toNat i.toNat) (by omega) c3 h3 k (by omega)
    rw [storagebarterref04_Ends.l0, if_pos (by omega), w64 (x := i - st) (by omega), w64 (x := i + 1) (by omega)]
    simp only [if_pos hlen]
    split
    · exact hp
    · split
      · try rw [if_pos h0]
        rw [if_pos (by omega), hw, Option.bind_some, if_neg (by omega)]
        split
        · exact hp
        · split
          · exact hp
          · exact hq
      · split
        · exact hp
        · exact hq
theorem Cut_l0 (s : ByteArray) (xs : List Int) (hx : xs.length ≤ 60) (hs : s.size ≤ 60) : ∀ (d i : Nat) (cs : List ByteArray) (st : Int) (k : Nat), xs.length - i = d → i ≤ xs.length → 0 ≤ st → Rise st s.size (xs.drop i) → d < k → cs.length ≤ i → (∀ c ∈ cs, 1 ≤ c.size ∧ c.size ≤ 60) →
    ∃ cs', storagebarterref04_Cut.l0 k s cs st xs (xs.length : Int) (i : Int) = some (cs', 0) ∧ cs'.length ≤ 60 ∧ ∀ c ∈ cs', 1 ≤ c.size ∧ c.size ≤ 60 := by
  intro d
  induction d with
  | zero =>
    intro i cs st k hd hi h0 hr hk hc hcs
    obtain ⟨k, rfl⟩ := nat_pred hk
    rw [storagebarterref04_Cut.l0, if_neg (by omega)]
    exact ⟨_, rfl, by omega, hcs⟩
  | succ d ih =>
    intro i cs st k hd hi h0 hr hk hc hcs
    obtain ⟨k, rfl⟩ := nat_pred hk
    have hil : i < xs.length := by omega
    have e : rd xs (i : Int) = xs[i] := by simp [rd, List.getD, hil]
    rw [List.drop_eq_getElem_cons hil] at hr
    obtain ⟨p, q, hr2⟩ := hr
    rw [storagebarterref04_Cut.l0, if_pos (by omega), if_pos (by omega), if_pos (by omega), if_pos h0, e, if_pos (by omega), if_pos (by omega), if_pos (by omega), w64 (x := (i : Int) + 1) (by omega), show ((i : Int) + 1) = ((i + 1 : Nat) : Int) by omega]
    refine ih (i + 1) _ xs[i] k (by omega) (by omega) (by omega) hr2 (by omega) (by rw [List.length_append, List.length_singleton]; omega) (fun c hcm => ?_)
    rcases List.mem_append.1 hcm with h | h
    · exact hcs c h
    · rw [List.mem_singleton.1 h, ByteArray.size_extract]
      omega
theorem Chunks_ok (L : List Int) (hL : L.length ≤ 1000000) (at_ : Int) (h0 : 0 ≤ at_) (k : Nat) (hk : 300 < k) : ∃ cs at', storagebartermake_Chunks.f k L at_ = some (cs, at') ∧ 0 ≤ at' ∧ cs.length ≤ 60 ∧ ∀ c ∈ cs, 1 ≤ c.size ∧ c.size ≤ 60 := by
  unfold storagebartermake_Chunks.f
  obtain ⟨t, a1, e1, ht, h1⟩ := Text_ok L hL at_ h0 60 (by omega) k (by omega)
  rw [show ((60 : Nat) : Int) = 60 from rfl] at e1
  rw [e1, Option.bind_some]
  obtain ⟨c1, c2, c3, c4, a2, e2, h2, b1, b2, b3, b4, b5, b6, b7⟩ := Cutting_ok L hL a1 h1
  rw [e2, Option.bind_some]
  dsimp only
  have hch : storagebarterref04_Check.f c1 c2 c3 c4 = some 0 := by
    unfold storagebarterref04_Check.f
    rw [if_neg (by omega), if_neg (by omega), if_neg (by omega), if_neg (by omega), if_neg (by omega), if_neg (by omega), if_neg (by omega)]
  obtain ⟨xs, e3, hr, hxl⟩ := Ends_l0 t ht c1 c2 c3 c4 (by omega) (by omega) t.size [] 0 1 k (by omega) (by omega) trivial rfl (by omega) (by omega) (by simp) (by omega)
  have hen : storagebarterref04_Ends.f k t c1 c2 c3 c4 = some (xs, 0) := by
    unfold storagebarterref04_Ends.f
    rw [hch, Option.bind_some, if_pos rfl, if_neg (by omega)]
    exact e3
  obtain ⟨cs, e4, hc1, hc2⟩ := Cut_l0 t xs hxl ht xs.length 0 [] 0 k (by omega) (by omega) (by omega) (by rw [List.drop_zero]; exact hr) (by omega) (by simp) (fun c hc => by cases hc)
  refine ⟨cs, a2, ?_, h2, hc1, hc2⟩
  have hcu : storagebarterref04_Cut.f k t c1 c2 c3 c4 = some (cs, 0) := by
    unfold storagebarterref04_Cut.f
    rw [hen, Option.bind_some, if_pos rfl]
    exact e4
  rw [hcu]
  rfl
def Proper (n : S78) : Prop := 0 ≤ n.f0 ∧ n.f0 < 2147483647 ∧ 1 ≤ n.f1 ∧ n.f1 ≤ 256
theorem proper_ok {n : S78} (h : Proper n) : manifest_proper.f n.f0 n.f1 = some true := by
  obtain ⟨h1, h2, h3, h4⟩ := h
  unfold manifest_proper.f
  rw [if_pos (by omega), if_pos (by omega), if_pos (by omega), decide_eq_true h4]
theorem rdN (l : List S78) (i : Nat) (h : i < l.length) : rd_T78 l (i : Int) = l[i] := by simp [rd_T78, List.getD, h]
theorem Check_l0 (l : List S78) (hl : l.length ≤ 256) (hp : ∀ n ∈ l, Proper n) : ∀ (d i k : Nat), l.length - i = d → i ≤ l.length → d < k → manifest_Check.l0 k l (l.length : Int) (i : Int) = some 0 := by
  intro d
  induction d with
  | zero =>
    intro i k hd hi hk
    obtain ⟨k, rfl⟩ := nat_pred hk
    rw [manifest_Check.l0, if_neg (by omega)]
  | succ d ih =>
    intro i k hd hi hk
    obtain ⟨k, rfl⟩ := nat_pred hk
    have hil : i < l.length := by omega
    rw [manifest_Check.l0, if_pos (by omega), if_pos (by omega), if_pos (by omega), rdN l i hil, proper_ok (hp _ (List.getElem_mem hil)), Option.bind_some, if_pos rfl, w64 (x := (i : Int) + 1) (by omega), show ((i : Int) + 1) = ((i + 1 : Nat) : Int) by omega]
    exact ih (i + 1) k (by omega) (by omega) (by omega)
theorem Check_ok (a : Int) (ha : 1 ≤ a ∧ a < 2147483647) (l : List S78) (hl : l.length ≤ 256) (hp : ∀ n ∈ l, Proper n) (k : Nat) (hk : 256 < k) : manifest_Check.f k a l = some 0 := by
  unfold manifest_Check.f
  rw [numbered_eq, Option.bind_some, decide_eq_true ha, if_pos rfl, if_neg (by omega)]
  exact Check_l0 l hl hp l.length 0 k (by omega) (by omega) (by omega)
def sumN (l : List S78) : Int := (l.map (·.f1)).sum
theorem sumN_bound (l : List S78) (hp : ∀ n ∈ l, Proper n) : 0 ≤ sumN l ∧ sumN l ≤ 256 * (l.length : Int) := by
  induction l with
  | nil => simp [sumN]
  | cons x l ih =>
    obtain ⟨h1, h2⟩ := ih (fun n hn => hp n (List.mem_cons_of_mem _ hn))
    obtain ⟨-, -, h3, h4⟩ := hp x List.mem_cons_self
    unfold sumN at h1 h2 ⊢
    rw [List.map_cons, List.sum_cons, List.length_cons]
    omega
theorem Size_l0 (l : List S78) (hl : l.length ≤ 256) (hp : ∀ n ∈ l, Proper n) : ∀ (d i k : Nat), l.length - i = d → i ≤ l.length → d < k → manifest_Size.l0 k (sumN (l.take i)) l (l.length : Int) (i : Int) = some (sumN l, 0) := by
  intro d
  induction d with
  | zero =>
    intro i k hd hi hk
    obtain ⟨k, rfl⟩ := nat_pred hk
    rw [manifest_Size.l0, if_neg (by omega), List.take_of_length_le (by omega)]
  | succ d ih =>
    intro i k hd hi hk
    obtain ⟨k, rfl⟩ := nat_pred hk
    have hil : i < l.length := by omega
    obtain ⟨b1, b2⟩ := sumN_bound (l.take i) (fun n hn => hp n (List.mem_of_mem_take hn))
    rw [List.length_take] at b2
    obtain ⟨-, -, h3, h4⟩ := hp _ (List.getElem_mem hil)
    have e : sumN (l.take (i + 1)) = sumN (l.take i) + l[i].f1 := by
      unfold sumN
      rw [List.take_succ_eq_append_getElem hil, List.map_append, List.sum_append]
      simp
    have h1 := ih (i + 1) k (by omega) (by omega) (by omega)
    rw [manifest_Size.l0, if_pos (by omega), if_pos (by omega), if_pos (by omega), rdN l i hil, w64 (x := sumN (l.take i) + l[i].f1) (by omega), w64 (x := (i : Int) + 1) (by omega), show ((i : Int) + 1) = ((i + 1 : Nat) : Int) by omega, ← e]
    exact h1
theorem Size_ok (a : Int) (ha : 1 ≤ a ∧ a < 2147483647) (l : List S78) (hl : l.length ≤ 256) (hp : ∀ n ∈ l, Proper n) (k : Nat) (hk : 256 < k) : manifest_Size.f k a l = some (sumN l, 0) := by
  unfold manifest_Size.f
  rw [Check_ok a ha l hl hp k hk, Option.bind_some, if_pos rfl]
  exact Size_l0 l hl hp l.length 0 k (by omega) (by omega) (by omega)
theorem nameS_eq (s : ByteArray) (hs : s.size ≤ 9223372036854775807) : nameS s = ⟨dg 1 s.data.toList, (s.size : Int)⟩ := by
  unfold nameS
  rw [nm_eq s hs]
theorem names_proper (l : List ByteArray) (h : ∀ c ∈ l, 1 ≤ c.size ∧ c.size ≤ 256) : ∀ n ∈ l.map nameS, Proper n := by
  intro n hn
  obtain ⟨s, hs, rfl⟩ := List.mem_map.1 hn
  have h1 := h s hs
  have h2 := dg_r s.data.toList
  rw [nameS_eq s (by omega)]
  exact ⟨h2.1, h2.2, by simp only; omega, by simp only; omega⟩
/-- 'Of' some chunks: a version, or a clash. -/
theorem Of_ok (a : Int) (ha : 1 ≤ a ∧ a < 2147483647) (l : List ByteArray) (hl : l.length ≤ 256) (h : ∀ c ∈ l, 1 ≤ c.size ∧ c.size ≤ 256) :
    manifest_Of.f a l = if ofGo [] l = true then some (0, [], 8) else some (a, l.map nameS, 0) := by
  unfold manifest_Of.f
  rw [if_pos ha, if_neg (by omega), if_neg]
  · unfold ofEnd
    rw [if_pos (fun s hs => named s (by have := h s hs; omega))]
  · rintro ⟨s, hs, hb⟩
    have := h s hs
    unfold badS at hb
    omega
theorem Few_eq (L : List Int) : storagebartermake_Few.f L = some (decide ((L.length : Int) ≤ 500)) := rfl
theorem Restore_ok (a : Int) (ha : 1 ≤ a ∧ a < 2147483647) (l : List S78) (hl : l.length ≤ 256) (hp : ∀ n ∈ l, Proper n) (cs : List ByteArray) (hcl : cs.length < 9223372036854775807) (hcs : ∀ s ∈ cs, s.size ≤ 9223372036854775807) :
    manifest_Restore.f a l cs = some (reGo cs (reC [] cs []) [] l) := by
  unfold manifest_Restore.f
  rw [Check_ok a ha l hl hp 1000 (by omega), Option.bind_some, if_pos rfl, if_pos]
  refine ⟨by omega, fun n hn => ?_, by unfold maxLen; omega, fun s hs => ⟨named s (hcs s hs), by rw [nm_eq s (hcs s hs)]⟩⟩
  obtain ⟨h1, h2, h3, h4⟩ := hp n hn
  exact ⟨wf64 (by omega), wf64 (by omega), by omega⟩
end Go.Proofs.Ytodhkbahjomfhaa.Gch

namespace Go.Proofs.Ytodhkbahjomfhaa.Gcr
open Go Go.RowKit Go.Proofs.Ytodhkbahjomfhaa.Gm Go.Proofs.Ytodhkbahjomfhaa.Gdm Go.Proofs.Ytodhkbahjomfhaa.Gch Go.Proofs.Ytodhkbahjomfhaa.Q Go.Proofs.Ytodhkbahjomfhaa.Gput Go.Proofs.Ytodhkbahjomfhaa.Gputl Go.Proofs.YtodhkbahjomfhaaW.PrintWords Go.Proofs.YtodhkbahjomfhaaW.PrintLast Go.Proofs.YtodhkbahjomfhaaW.PrintMore
set_option linter.unusedVariables false
theorem toL_inj {s t : ByteArray} (h : s.toList = t.toList) : s = t := by
  rw [ByteArray.toList_eq, ByteArray.toList_eq] at h
  exact ByteArray.ext (Array.toList_inj.1 h)
theorem lookS_some {s : ByteArray} {d z : Int} (hn : nm s = (d, z)) : ∀ (q p : List ByteArray), ∃ t, lookS (p ++ s :: q) d z = some t := by
  intro q p
  unfold lookS
  cases h : (p ++ s :: q).reverse.find? (fun s => decide (nm s = (d, z))) with
  | some t => exact ⟨t, rfl⟩
  | none =>
    rw [List.find?_eq_none] at h
    exact absurd (decide_eq_true hn) (h s (by simp))
theorem lookS_mem {s : ByteArray} {d z : Int} {l : List ByteArray} (hn : nm s = (d, z)) (hs : s ∈ l) : ∃ t, lookS l d z = some t := by
  obtain ⟨p, q, rfl⟩ := List.append_of_mem hs
  exact lookS_some hn q p
def sA : ByteArray := ⟨#[97, 98]⟩
def sC : ByteArray := ⟨#[99]⟩
theorem sA_size : sA.size = 2 := rfl
theorem sC_size : sC.size = 1 := rfl
theorem nA : nm sA = (dg 1 [97, 98], 2) := nm_eq sA (by rw [sA_size]; omega)
theorem nC : nm sC = (dg 1 [99], 1) := nm_eq sC (by rw [sC_size]; omega)
theorem nAC : nm sA ≠ nm sC := by rw [nA, nC]; intro h; exact absurd (Prod.mk.inj h).2 (by omega)
theorem putI_1 : putI 1 = [2] := by
  unfold putI
  rw [show zig 1 = 2 by decide, grp_last (by omega)]
  rfl
theorem putI_0 : putI 0 = [0] := by
  unfold putI
  rw [show zig 0 = 0 by decide, grp_last (by omega)]
  rfl
theorem encode_one (k : Nat) (hk : 300 < k) : manifest_Encode.f k 1 [] = some (B [2, 0], 0) := by
  unfold manifest_Encode.f
  rw [Check_ok 1 (by omega) [] (by simp) (by simp) k (by omega), Option.bind_some, if_pos rfl]
  obtain ⟨k, rfl⟩ := nat_pred hk
  rw [manifest_Encode.l0, if_neg (by simp), show (⟨#[]⟩ : ByteArray) = B [] from rfl, wire_PutInt_eq [] 1 (by simp) (by omega), Option.bind_some]
  unfold wire_PutList.f
  rw [if_pos ⟨by rw [B_size, putI_1]; simp, by simp⟩, Option.bind_some, putI_1]
  unfold putL
  simp only [List.length_nil, Int.natCast_zero, putI_0]
  rfl
theorem sane_ok (k : Nat) (hk : 300 < k) : storagebarterlaw08_sane.f k = some true := by
  have hb : ∀ c ∈ [sA, sC, sA], 1 ≤ c.size ∧ c.size ≤ 256 := by
    intro c hc
    simp only [List.mem_cons, List.not_mem_nil, or_false] at hc
    rcases hc with rfl | rfl | rfl
    · rw [sA_size]; omega
    · rw [sC_size]; omega
    · rw [sA_size]; omega
  have hg : ofGo [] [sA, sC, sA] = false := by
    rw [ofGo, lookS_nil]
    simp only
    rw [ofGo, lookS_snoc, if_neg (by exact nAC), lookS_nil]
    simp only
    rw [ofGo, lookS_snoc, if_neg (fun h => nAC h.symm), lookS_snoc, if_pos rfl]
    simp only [if_true]
    rw [ofGo]
  have h1 := Of_ok 1 (by omega) [] (by simp) (by simp)
  rw [ofGo, if_neg (by simp)] at h1
  have h2 := Of_ok 2 (by omega) [sA, sC, sA] (by simp) hb
  rw [hg, if_neg (by simp)] at h2
  have hp : ∀ n ∈ ([sA, sC, sA] : List ByteArray).map nameS, Proper n := names_proper _ hb
  have hc : reC [] [sC, sA] [] = [] := by
    rw [reC, lookS_nil]
    simp only
    rw [reC, lookS_snoc, if_neg (fun h => nAC h.symm), lookS_nil]
    simp only
    rw [reC]
  have lA : lookS [sC, sA] (nm sA).1 (nm sA).2 = some sA := by
    rw [show [sC, sA] = [sC] ++ [sA] from rfl, lookS_snoc, if_pos rfl]
  have lC : lookS [sC, sA] (nm sC).1 (nm sC).2 = some sC := by
    rw [show [sC, sA] = [sC] ++ [sA] from rfl, lookS_snoc, if_neg (by exact nAC), show [sC] = [] ++ [sC] from rfl, lookS_snoc, if_pos rfl]
  have h3 := Restore_ok 2 (by omega) (([sA, sC, sA] : List ByteArray).map nameS) (by simp) hp [sC, sA] (by simp) (by
    intro s hs
    simp only [List.mem_cons, List.not_mem_nil, or_false] at hs
    rcases hs with rfl | rfl
    · rw [sC_size]; omega
    · rw [sA_size]; omega)
  have h4 : reGo [sC, sA] [] [] (([sA, sC, sA] : List ByteArray).map nameS) = (B [97, 98, 99, 97, 98], 0) := by
    simp only [List.map_cons, List.map_nil, nameS]
    rw [reGo]
    simp only [lA, List.not_mem_nil, if_false]
    rw [reGo]
    simp only [lC, List.not_mem_nil, if_false]
    rw [reGo]
    simp only [lA, List.not_mem_nil, if_false]
    rw [reGo]
    rfl
  rw [hc, h4] at h3
  have h5 := Size_ok 2 (by omega) (([sA, sC, sA] : List ByteArray).map nameS) (by simp) hp k (by omega)
  have h6 : sumN (([sA, sC, sA] : List ByteArray).map nameS) = 5 := by
    unfold sumN
    simp only [List.map_cons, List.map_nil, nameS, nA, nC, List.sum_cons, List.sum_nil]
    omega
  rw [h6] at h5
  unfold storagebarterlaw08_sane.f
  rw [h1, Option.bind_some]
  dsimp only
  rw [List.map_nil, encode_one k hk, Option.bind_some]
  show (manifest_Of.f 2 [sA, sC, sA]).bind _ = _
  rw [h2, Option.bind_some]
  dsimp only
  show (manifest_Restore.f 2 _ [sC, sA]).bind _ = _
  rw [h3, Option.bind_some, h5, Option.bind_some]
  dsimp only
  rw [if_pos rfl, if_pos rfl, if_pos rfl, if_pos rfl, if_pos rfl, if_pos (by rw [B_toList]), if_pos (by rw [B_toList])]
  rfl
end Go.Proofs.Ytodhkbahjomfhaa.Gcr

namespace Go.Proofs.Ytodhkbahjomfhaa.Gwn
open Go Go.RowKit Go.Sort Go.Lib Go.Proofs.Ytodhkbahjomfhaa.Gm Go.Proofs.Ytodhkbahjomfhaa.Gdm Go.Proofs.Ytodhkbahjomfhaa.Gch Go.Proofs.Ytodhkbahjomfhaa.Gcr Go.Proofs.Ytodhkbahjomfhaa.Q Go.Proofs.YtodhkbahjomfhaaW.PrintWords Go.Proofs.YtodhkbahjomfhaaW.PrintLast Go.Proofs.YtodhkbahjomfhaaW.PrintMore
set_option linter.unusedVariables false
theorem woN_nil {l m : List S78} (h : notIn l m = []) : woN l m = [] := by
  unfold woN srtN
  rw [h]
  simp [Lib.compact, Lib.compactUpTo]
theorem woN_one {l m : List S78} {x : S78} (h : notIn l m = [x]) : (woN l m).length = 1 := by
  unfold woN srtN
  rw [h]
  simp [Lib.compact, Lib.compactUpTo, keeps]
theorem Change_ok (a b : Int) (ha : 1 ≤ a ∧ a < 2147483647) (hb : 1 ≤ b ∧ b < 2147483647) (l m : List S78) (hl : l.length ≤ 256) (hm : m.length ≤ 256) (hpl : ∀ n ∈ l, Proper n) (hpm : ∀ n ∈ m, Proper n) (k : Nat) (hk : 256 < k) :
    manifest_Change.f k a l b m = some (woN m l, woN l m, 0) := by
  unfold manifest_Change.f
  rw [Check_ok a ha l hl hpl k hk, Option.bind_some, if_pos rfl, Check_ok b hb m hm hpm k hk, Option.bind_some, if_pos rfl]
  unfold manifest_without.f
  rw [if_pos ⟨by omega, by omega⟩, Option.bind_some, if_pos ⟨by omega, by omega⟩, Option.bind_some]
theorem ofGo_last (s : ByteArray) : ∀ (r seen : List ByteArray), ofGo seen (r ++ [s]) = false → ∀ t, lookS (seen ++ r) (nm s).1 (nm s).2 = some t → t = s
  | [], seen, h, t, ht => by
    rw [List.append_nil] at ht
    rw [List.nil_append, ofGo] at h
    simp only [ht] at h
    by_cases e : t.toList = s.toList
    · exact toL_inj e
    · rw [if_neg e] at h
      cases h
  | x :: r, seen, h, t, ht => by
    have e : seen ++ x :: r = (seen ++ [x]) ++ r := by simp
    rw [e] at ht
    rw [List.cons_append, ofGo] at h
    split at h
    · exact ofGo_last s r _ h t ht
    · split at h
      · exact ofGo_last s r _ h t ht
      · cases h
theorem new_iff (cs : List ByteArray) (s : ByteArray) (h : ofGo [] (cs ++ [s]) = false) : nameS s ∈ cs.map nameS ↔ s ∈ cs := by
  constructor
  · intro hm
    obtain ⟨c, hc, e⟩ := List.mem_map.1 hm
    have hn : nm c = ((nm s).1, (nm s).2) := by
      unfold nameS at e
      injection e with e1 e2
      exact Prod.ext e1 e2
    obtain ⟨t, ht⟩ := lookS_mem hn hc
    have h1 := ofGo_last s cs [] h t (by rw [List.nil_append]; exact ht)
    subst h1
    unfold lookS at ht
    exact List.mem_reverse.1 (List.mem_of_find?_eq_some ht)
  · intro hm
    exact List.mem_map.2 ⟨s, hm, rfl⟩
end Go.Proofs.Ytodhkbahjomfhaa.Gwn

namespace Go.Proofs.Ytodhkbahjomfhaa.Pure
open Go Go.RowKit Go.Proofs.Ytodhkbahjomfhaa.Gm Go.Proofs.Ytodhkbahjomfhaa.Gdm Go.Proofs.Ytodhkbahjomfhaa.Gch Go.Proofs.Ytodhkbahjomfhaa.Gcr Go.Proofs.Ytodhkbahjomfhaa.Gwn Go.Proofs.Ytodhkbahjomfhaa.Q Go.Proofs.YtodhkbahjomfhaaW.PrintWords Go.Proofs.YtodhkbahjomfhaaW.PrintLast Go.Proofs.YtodhkbahjomfhaaW.PrintMore
set_option linter.unusedVariables false
theorem rdS (l : List ByteArray) (i : Nat) (h : i < l.length) : rdOf ByteArray.empty l (i : Int) = l[i] := by simp [rdOf, List.getD, h]
theorem Bytes_l0 (L : List Int) (hL : L.length ≤ 1000000) : ∀ (n : Nat) (xs : List Int) (at_ : Int) (k : Nat), 0 ≤ at_ → n < k → xs.length + n ≤ 1000 → ∃ t at', storagebartermake_Bytes.l0 k xs ((n : Int) - 1) L at_ = some (t, at') ∧ t.size = xs.length + n ∧ 0 ≤ at' := by
  intro n
  induction n with
  | zero =>
    intro xs at_ k h0 hk hl
    obtain ⟨k, rfl⟩ := nat_pred hk
    rw [storagebartermake_Bytes.l0, if_neg (by omega)]
    exact ⟨_, _, rfl, by rw [strOf_size]; omega, h0⟩
  | succ n ih =>
    intro xs at_ k h0 hk hl
    obtain ⟨k, rfl⟩ := nat_pred hk
    obtain ⟨t, a, e, -, -, h1⟩ := next_ok L at_ 256 (by omega) (by omega) h0 hL
    rw [storagebartermake_Bytes.l0, if_pos (by omega), e, Option.bind_some, if_pos (by omega), w64 (x := (((n + 1 : Nat) : Int) - 1) - 1) (by omega), show ((((n + 1 : Nat) : Int) - 1) - 1) = (n : Int) - 1 by omega]
    obtain ⟨t', a', e', h2, h3⟩ := ih (xs ++ [t % 256]) a k h1 (by omega) (by rw [List.length_append, List.length_singleton]; omega)
    exact ⟨t', a', e', by rw [h2, List.length_append, List.length_singleton]; omega, h3⟩
theorem Bytes_ok (L : List Int) (hL : L.length ≤ 1000000) (at_ : Int) (h0 : 0 ≤ at_) (k : Nat) (hk : 100 < k) : ∃ t at', storagebartermake_Bytes.f k L at_ 20 = some (t, at') ∧ 1 ≤ t.size ∧ t.size ≤ 20 ∧ 0 ≤ at' := by
  unfold storagebartermake_Bytes.f
  obtain ⟨t, a, e, p, q, h1⟩ := next_ok L at_ 20 (by omega) (by omega) h0 hL
  rw [e, Option.bind_some]
  obtain ⟨n, rfl⟩ : ∃ n : Nat, t = n := ⟨t.toNat, by omega⟩
  obtain ⟨t', a', e', h2, h3⟩ := Bytes_l0 L hL (n + 1) [] a k h1 (by omega) (by rw [List.length_nil]; omega)
  rw [show (((n + 1 : Nat) : Int) - 1) = (n : Int) by omega] at e'
  exact ⟨t', a', e', by rw [h2, List.length_nil]; omega, by rw [h2, List.length_nil]; omega, h3⟩
open Classical in
theorem ManifestAppends (l0 : List Int) (h0 : l0.length * 8 ≤ 140737488351232) : ∃ k, storagebarterlaw08_ManifestAppends.f k l0 = some true := by
  refine ⟨2000, ?_⟩
  obtain ⟨k, hk⟩ : ∃ k, k = 2000 := ⟨_, rfl⟩
  rw [← hk]
  unfold storagebarterlaw08_ManifestAppends.f
  rw [sane_ok k (by omega), Option.bind_some, if_pos rfl, Few_eq, Option.bind_some]
  by_cases hf : (l0.length : Int) ≤ 500
  case neg => rw [decide_eq_false hf, if_neg (by simp)]
  case pos =>
  rw [decide_eq_true hf, if_pos rfl, show storagebartermake_New.f l0 = some (l0, 0) from rfl, Option.bind_some]
  dsimp only
  obtain ⟨cs, at1, e1, p1, hcl, hcs⟩ := Chunks_ok l0 (by omega) 0 (by omega) k (by omega)
  rw [e1, Option.bind_some]
  dsimp only
  obtain ⟨s, at2, e2, hs1, hs2, p2⟩ := Bytes_ok l0 (by omega) at1 p1 k (by omega)
  rw [e2, Option.bind_some]
  dsimp only
  have hcs' : ∀ c ∈ cs, 1 ≤ c.size ∧ c.size ≤ 256 := fun c hc => by have := hcs c hc; omega
  have hds' : ∀ c ∈ cs ++ [s], 1 ≤ c.size ∧ c.size ≤ 256 := fun c hc => by
    rcases List.mem_append.1 hc with h | h
    · exact hcs' c h
    · rw [List.mem_singleton.1 h]; omega
  have hdl : (cs ++ [s]).length ≤ 256 := by rw [List.length_append, List.length_singleton]; omega
  have hof1 := Of_ok 1 (by omega) cs (by omega) hcs'
  have hof2 := Of_ok 2 (by omega) (cs ++ [s]) hdl hds'
  have hq : ∀ {β : Type} (F : List ByteArray → Option β), (if ([] : List ByteArray).length + cs.length < 8796093022208 then ((some (([] : List ByteArray) ++ cs : List ByteArray)).bind F) else none) = F cs := by
    intro β F
    rw [if_pos (by rw [List.length_nil]; omega), Option.bind_some, List.nil_append]
  have hr : ∀ {β : Type} (x : Option β), (if cs.length < 8796093022208 then x else none) = x := by
    intro β x
    rw [if_pos (by omega)]
  obtain ⟨k, rfl⟩ : ∃ m, k = m + 1 := ⟨k - 1, by omega⟩
  by_cases g1 : ofGo [] cs = true
  case pos =>
    rw [if_pos g1] at hof1
    rw [hof1, Option.bind_some, hq]
    dsimp only
    rw [hr, hof2]
    by_cases g2 : ofGo [] (cs ++ [s]) = true
    · rw [if_pos g2, Option.bind_some, if_neg (by omega), storagebarterlaw08_ManifestAppends.j0, if_pos rfl, if_pos rfl]
    · rw [if_neg g2, Option.bind_some, if_neg (by omega), storagebarterlaw08_ManifestAppends.j0, if_pos rfl, if_pos rfl]
  case neg =>
  rw [if_neg g1] at hof1
  rw [hof1, Option.bind_some, hq]
  dsimp only
  rw [hr, hof2]
  by_cases g2 : ofGo [] (cs ++ [s]) = true
  case pos =>
    rw [if_pos g2, Option.bind_some, if_pos rfl]
    dsimp only
    rw [storagebarterlaw08_ManifestAppends.j0, if_pos (by decide), if_neg (by omega)]
    rfl
  case neg =>
  rw [if_neg g2, Option.bind_some, if_pos rfl]
  dsimp only
  rw [storagebarterlaw08_ManifestAppends.j0, if_neg (by decide)]
  have g2' : ofGo [] (cs ++ [s]) = false := by simpa using g2
  have hiff := new_iff cs s g2'
  have hp1 : ∀ n ∈ cs.map nameS, Proper n := names_proper cs hcs'
  have hp2 : ∀ n ∈ (cs ++ [s]).map nameS, Proper n := names_proper (cs ++ [s]) hds'
  have hn1 : notIn (cs.map nameS) ((cs ++ [s]).map nameS) = [] := by
    unfold notIn
    rw [List.filter_eq_nil_iff]
    intro x hx
    have : x ∈ (cs ++ [s]).map nameS := by rw [List.map_append]; exact List.mem_append_left _ hx
    simp only [decide_eq_true this, Bool.not_true, Bool.false_eq_true, not_false_eq_true]
  have hn2 : notIn ((cs ++ [s]).map nameS) (cs.map nameS) = if s ∈ cs then [] else [nameS s] := by
    unfold notIn
    rw [List.map_append, List.filter_append, List.filter_eq_nil_iff.2 (fun x hx => by simp only [decide_eq_true hx, Bool.not_true, Bool.false_eq_true, not_false_eq_true]), List.nil_append, List.map_singleton]
    by_cases hm : s ∈ cs
    · rw [if_pos hm]
      rw [List.filter_cons, decide_eq_true (hiff.2 hm)]
      rfl
    · rw [if_neg hm]
      rw [List.filter_cons, decide_eq_false (fun z => hm (hiff.1 z))]
      rfl
  -- the end
  have fin : ∀ (k : Nat) (x : Bool), 300 < k → x = decide (s ∈ cs) → storagebarterlaw08_ManifestAppends.l0 k s x cs (cs.length : Int) (cs.length : Int) 1 (cs.map nameS) 2 ((cs ++ [s]).map nameS) = some true := by
    intro k x hk hx
    obtain ⟨k, rfl⟩ : ∃ m, k = m + 1 := ⟨k - 1, by omega⟩
    have z1 := Size_ok 1 (by omega) (cs.map nameS) (by rw [List.length_map]; omega) hp1 k (by omega)
    have z2 := Size_ok 2 (by omega) ((cs ++ [s]).map nameS) (by rw [List.length_map]; omega) hp2 k (by omega)
    obtain ⟨b1, b2⟩ := sumN_bound (cs.map nameS) hp1
    rw [List.length_map] at b2
    have hsum : sumN ((cs ++ [s]).map nameS) = sumN (cs.map nameS) + (s.size : Int) := by
      unfold sumN
      rw [List.map_append, List.map_append, List.sum_append, List.map_singleton, List.map_singleton, nameS_eq s (by omega)]
      simp
    rw [hsum] at z2
    rw [storagebarterlaw08_ManifestAppends.l0, if_neg (by omega), Change_ok 1 2 (by omega) (by omega) _ _ (by rw [List.length_map]; omega) (by rw [List.length_map]; omega) hp1 hp2 k (by omega), Option.bind_some, z1, Option.bind_some, z2, Option.bind_some]
    dsimp only
    rw [if_pos rfl, if_pos rfl, if_pos rfl, List.length_map, List.length_map, w64 (x := (cs.length : Int) + 1) (by omega), if_pos (by rw [List.length_append, List.length_singleton]; omega), woN_nil hn1, if_pos (show (([] : List S78).length : Int) = 0 by rfl), w64 (x := sumN (cs.map nameS) + (s.size : Int)) (by omega)]
    by_cases hm : s ∈ cs
    · rw [if_pos hm] at hn2
      rw [woN_nil hn2, hx, decide_eq_true hm, if_pos (by decide), if_pos (by decide), beq_self_eq_true]
    · rw [if_neg hm] at hn2
      rw [woN_one hn2, hx, decide_eq_false hm, if_pos (by decide), if_pos (by decide), beq_self_eq_true]
  have go : ∀ (d i : Nat) (x : Bool) (k : Nat), cs.length - i = d → i ≤ cs.length → 400 + d ≤ k → x = decide (s ∈ cs.take i) → storagebarterlaw08_ManifestAppends.l0 k s x cs (cs.length : Int) (i : Int) 1 (cs.map nameS) 2 ((cs ++ [s]).map nameS) = some true := by
    intro d
    induction d with
    | zero =>
      intro i x k hd hi hk hx
      have : i = cs.length := by omega
      subst this
      rw [List.take_length] at hx
      exact fin k x (by omega) hx
    | succ d ih =>
      intro i x k hd hi hk hx
      obtain ⟨k, rfl⟩ : ∃ m, k = m + 1 := ⟨k - 1, by omega⟩
      have hil : i < cs.length := by omega
      have htk : cs.take (i + 1) = cs.take i ++ [cs[i]] := List.take_succ_eq_append_getElem hil
      rw [storagebarterlaw08_ManifestAppends.l0, if_pos (by omega), if_pos (by omega), if_pos (by omega), rdS cs i hil, w64 (x := (i : Int) + 1) (by omega), show ((i : Int) + 1) = ((i + 1 : Nat) : Int) by omega]
      split
      · rename_i hxt
        refine ih (i + 1) true k (by omega) (by omega) (by omega) ?_
        rw [hx] at hxt
        rw [htk]
        exact (decide_eq_true (List.mem_append_left _ (of_decide_eq_true hxt))).symm
      · rename_i hxt
        refine ih (i + 1) _ k (by omega) (by omega) (by omega) ?_
        rw [htk]
        have hnm : s ∉ cs.take i := fun z => hxt (by rw [hx]; exact decide_eq_true z)
        by_cases he : cs[i].toList = s.toList
        · rw [beq_iff_eq.2 he, toL_inj he]
          exact (decide_eq_true (List.mem_append_right _ (List.mem_singleton.2 rfl))).symm
        · rw [beq_eq_false_iff_ne.2 he]
          refine (decide_eq_false (fun z => ?_)).symm
          rcases List.mem_append.1 z with h | h
          · exact hnm h
          · rw [List.mem_singleton.1 h] at he
            exact he rfl
  exact go cs.length 0 false k (by omega) (by omega) (by omega) (by simp)
end Go.Proofs.Ytodhkbahjomfhaa.Pure

namespace Go.Proofs.Ytodhkbahjomfhaa.manifestAppends
open Go.ChangeShapes Go.WideShapes Go.ChangeAt Go.RowKit
open Go.ChangeMaps (open_string shut_string)
set_option linter.unusedVariables false
theorem own : ownKnob Try.prog.godebug = none := by kernel_rfl
theorem laidOut : laidOutB Try.prog = true := by kernel_rfl
def IsRow (k : IntKind) (w : World) (a : Option Addr) (len cap : Nat) (zs : List Int) : Prop :=
  (a = none ∧ len = 0 ∧ cap = 0 ∧ zs = []) ∨
  ∃ x, a = some x ∧ len ≤ cap ∧ cap ≤ maxLen ∧ zs.length = cap ∧ (∀ i, i < zs.length → w.cell? (x.add i) = some (.int k (zs.getD i 0))) ∧ ∀ n ∈ zs, (Lit.int k n).wf = true
set_option maxRecDepth 100000 in
theorem lifted (os : Os) (started : os.Started) (H : Type) (enc : TypeId × Value → H) :
    ReturnsInHanded {} Try.checked os 11 .any (Rows.manifestAppendsSpec.pre6 enc Try.prog Try.f11 Rows.manifestAppendsRow.domain false) (Rows.manifestAppendsSpec.post enc Try.prog Try.f11 false true false false) := by
  refine returnsInHanded_of_change_sized (C := Try.checked) own started (by kernel_rfl) Try.func11
    (ChangeSpec.witness6 (enc := enc) (C := Try.checked) false ⟨#[], #[.slice none 0 0], []⟩ 8 (by kernel_rfl) (by kernel_rfl) (by kernel_rfl) (by kernel_rfl)) ?_
  intro W base args ds gs before hval0 hW hcnd hsz0 _
  have hsz : (DataW.weightsEach Try.prog (Try.f11.params.toList ++ Rows.manifestAppendsSpec.plain.varTypes Try.prog) (ds ++ gs)).all (· ≤ reachBytes) = true := hsz0
  have hval : ∀ (j : Nat) t v, Try.f11.params[j]? = some t → args[j]? = some v → Value.okWide Try.prog W .any base t v := hval0
  have hW' := hW
  obtain ⟨p, q, hA0, hV, rfl, hfz, hnd⟩ := hW
  have hA : DataW.TrodAll enc Try.prog W 0 (fun _ => true) true Try.f11.params.toList args.toList ds p := hA0
  rw [Try.params11] at hA hval hsz
  obtain ⟨v0, vs0, d0, ds0, p0, q0, hargs, rfl, rfl, h0, r0⟩ := trodAll_cons hA
  obtain ⟨rfl, rfl, rfl⟩ := trodAll_nil r0
  obtain rfl : args = #[v0] := by cases args; simp_all
  obtain ⟨rfl, rfl⟩ := trodVars_none hV
  obtain ⟨A0, len0, cap0, rfl⟩ := okWide_slice Try.underlying22 (hval 0 22 v0 rfl rfl)
  have k0 := h0
  have lt0 : ∀ x ∈ p0, x.block < W.heap.size := by obtain ⟨m, hm⟩ := k0; exact DataW.trod_lt m _ _ _ hm
  have y0 : len0 * 8 ≤ 140737488351232 := Go.Proofs.YtodhkbahjomfhaaW.PrintWords.sized_ints hsz (j := 0) (t := 22) rfl rfl Try.underlying22 Try.underlying3 (by kernel_rfl) (by kernel_rfl) h0
  obtain ⟨z0, w0⟩ : ∃ zs, IsRow .i64 W A0 len0 cap0 zs := by
    obtain ⟨fuel, hf⟩ := h0
    rcases open_ints Try.underlying22 Try.underlying3 (by kernel_rfl) hf with ⟨hcs, _⟩ | ⟨x, l, c, zs, hcs, _, hl, hm, hz, _, hcell, hwz⟩
    · simp [Value.cells] at hcs
      obtain ⟨rfl, rfl, rfl⟩ := hcs
      exact ⟨[], .inl ⟨rfl, rfl, rfl, rfl⟩⟩
    · simp [Value.cells] at hcs
      obtain ⟨rfl, rfl, rfl⟩ := hcs
      exact ⟨zs, .inr ⟨_, rfl, hl, hm, by simpa using hz, hcell, hwz⟩⟩
  clear hA0 hval0 hsz0 hsz
  obtain ⟨l0, rfl, hr0, hm0, hw0, hc0⟩ := Go.Proofs.YtodhkbahjomfhaaW.PrintWords.ReadsInt.ofRowC w0
  obtain ⟨k, hk⟩ := Pure.ManifestAppends l0 y0
  refine (Q.storagebarterlaw08_ManifestAppends.calls k A0 cap0 l0 true W (Go.Proofs.YtodhkbahjomfhaaW.PrintWords.Kd.C_of_reads (d := (0 : Int)) (h1 := fun _ => rfl) hr0) hc0 hk rfl).mono fun e W' ⟨he, bel⟩ => ?_
  subst he
  exact ⟨_, rfl, _, _, _, [], _, [], hW', trodAll_mk1 (shut_bool Try.underlying4 _), (trodAll_cons_mk (Below.trod laidOut (by kernel_rfl) (of_decide_eq_true (by kernel_rfl)) k0 bel lt0) trodAll_mk0), rfl, bel.frame _, fun h => by cases h⟩
theorem over : Rows.manifestAppendsRow.holds Try.pinned (OpenSpec.ofChange Rows.manifestAppendsSpec) :=
  OpenClaim.holds_of_wide 11 Try.f11 rfl rfl rfl rfl rfl rfl rfl ⟨rfl, rfl, rfl, rfl, rfl⟩ rfl rfl rfl rfl rfl (by kernel_rfl) Try.func11 (by kernel_rfl)
    (of_decide_eq_true (by kernel_rfl)) (by unfold Func.isWrapper; first | (rw [if_pos (by decide +kernel)]; kernel_rfl) | (rw [if_neg (by decide +kernel)]; exact ⟨rfl, rfl⟩))
    (fun os started H enc _ => lifted os started H enc)
theorem proved : Rows.ManifestAppendsSaid := over
#print axioms proved
end Go.Proofs.Ytodhkbahjomfhaa.manifestAppends
namespace Go.Proofs.Ytodhkbahjomfhaa
/-- The row, under a short name, for the claim. -/
theorem manifestAppends_holds : Rows.ManifestAppendsSaid := manifestAppends.proved
end Go.Proofs.Ytodhkbahjomfhaa
