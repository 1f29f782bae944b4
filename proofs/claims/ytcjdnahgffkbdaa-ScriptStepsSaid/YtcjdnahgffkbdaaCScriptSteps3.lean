/- ScriptStepsSaid -/
import Derived.RangeFuncBox
import Derived.RangeFuncLeaves
import Derived.RangeFuncFrom
import Derived.Shelf.Abstract
import Derived.WalkKit
import Derived.OwnWalkIn
import Derived.TacticsInMore
import Derived.LoopNIn
import Derived.LoopIn
import Derived.Maps.AppendAt
import Derived.Lib.ConvBytes
import Derived.Laws.BytesArg
namespace Go.Proofs.Ytcjdnahgffkbdaa.Gb
open Go Go.RowKit
def enc8 (b : UInt8) : Value := .int .u8 b.toNat
def Own8 (w : World) (base : Nat) (e : TypeId) (v : Value) (xs : List UInt8) : Prop :=
  ∃ g cap cur fz, v = .slice (some ⟨g, 0, none⟩) xs.length cap ∧ base ≤ g ∧ w.heap[g]? = some (.cells cur e fz) ∧ (fz = (0, 0) ∨ cur.size ≤ fz.1) ∧
    xs.length ≤ cap ∧ cap ≤ maxLen ∧ cur.size = cap ∧ cur.toList.take xs.length = xs.map enc8
theorem Own8.kept {w w' : World} {base : Nat} {e : TypeId} {v : Value} {xs : List UInt8} {row : Option Nat} (h : Own8 w base e v xs) (hg : w.grownBy w' row) (hne : v.ownBlock ≠ row) : Own8 w' base e v xs := by
  obtain ⟨g, cap, cur, fz, rfl, hb, hgg, rest⟩ := h
  refine ⟨g, cap, cur, fz, rfl, hb, ?_, rest⟩
  rw [hg.block g (Array.getElem?_eq_some_iff.1 hgg).1 (by simpa [Value.ownBlock] using hne)]
  exact hgg
theorem Own8.alloc {w : World} {base : Nat} {e : TypeId} {v : Value} {xs : List UInt8} (h : Own8 w base e v xs) (o : Obj) : Own8 (w.alloc o) base e v xs :=
  h.kept (World.grownBy_alloc w o none) (by obtain ⟨g, cap, cur, fz, rfl, _⟩ := h; simp [Value.ownBlock])
theorem Own8.cells {w : World} {base : Nat} {e : TypeId} {xs : List UInt8} {g c : Nat} (h : Own8 w base e (.slice (some ⟨g, 0, none⟩) xs.length c) xs) : ∀ j u, (xs.map enc8)[j]? = some u → w.cell? ((⟨g, 0, none⟩ : Addr).add j) = some u := by
  intro j u hu
  obtain ⟨g', cap, cur, fz, hv, hb, hgg, hfz, hl, hm, hs, ht⟩ := h
  simp at hv
  obtain ⟨rfl, rfl⟩ := hv
  have hadd : (⟨g, 0, none⟩ : Addr).add j = ⟨g, j, none⟩ := by unfold Addr.add; split <;> simp_all
  rw [hadd, cell_of_row w g j cur e fz hgg]
  rw [← ht, List.getElem?_take] at hu
  split at hu
  · simpa using hu
  · cases hu
theorem run_store1 (P : Program) (g o : Nat) (t : TypeId) (fz : Nat × Nat) (v : Value) (cur : Array Value) (w : World) (hg : w.heap[g]? = some (.cells cur t fz)) (hfz : fz = (0, 0) ∨ cur.size ≤ fz.1) (hl : o < cur.size) (h1 : v.oneCell' = true) :
    (storeCells ⟨g, o, none⟩ [v] 0).run P w = .ok () (w.setRow g (cur.setIfInBounds o v)) := by
  have hadd : (⟨g, o, none⟩ : Addr).add 0 = ⟨g, o, none⟩ := by unfold Addr.add; split <;> simp_all
  have hcell : w.cell? ⟨g, o, none⟩ = some cur[o] := by simp [World.cell?, hg, hl]
  have hfro : w.frozen? ⟨g, o, none⟩ = false := by
    obtain ⟨lo, hi'⟩ := fz
    simp only [World.frozen?, hg, Bool.and_eq_false_iff, decide_eq_false_iff_not]
    rcases hfz with h | h
    · right; cases h; omega
    · left; simp at h; omega
  have hst : (store ((⟨g, o, none⟩ : Addr).add 0) v).run P w = .ok () (w.setRow g (cur.setIfInBounds o v)) := by
    rw [hadd, run_store P w _ v _ h1, hcell]
    simp [hfro, setCell_eq_setRow w g o cur t fz v hg]
  simp only [storeCells, Sem.run_bind, hst, Result.andThen_ok]
  rfl
theorem enc8_one (x : UInt8) : (enc8 x).oneCell' = true := rfl
theorem run_append8 {P : Program} (w : World) (base : Nat) (t ty e : TypeId) (i : TypeInfo) (ht : P.underlying t = some (.slice e)) (hi : P.info? e = some i) (hz : i.zero = some (.int .u8 0)) (hsize : i.size = 1) (hby : i.bytes = 1)
    (v : Value) (xs : List UInt8) (hown : Own8 w base e v xs) (a : Addr) (c : Nat) (x : UInt8) (hx : w.cell? (a.add 0) = some (enc8 x)) (hbytes : xs.length + 1 ≤ 140737488355328) (hbase : base ≤ w.heap.size) :
    ∃ v' w', (Builtin.append_ #[t, t] ty #[v, .slice (some a) 1 c]).run P w = .ok v' w' ∧ Own8 w' base e v' (xs ++ [x]) ∧ w.grownBy w' v.ownBlock := by
  have hown0 := hown
  obtain ⟨g, cap, cur, fz, rfl, hbg, hg, hfz, hnc, hcm, hcs, htake⟩ := hown
  have hnews : ∀ j u, [enc8 x][j]? = some u → w.cell? (a.add j) = some u := by
    intro j u hj
    match j, hj with
    | 0, hj => simp at hj; subst hj; exact hx
  have hm63 : xs.length + 1 ≤ 9223372036854775807 := by omega
  have hmm : xs.length + 1 ≤ maxLen := by unfold maxLen; omega
  by_cases hroom : xs.length + 1 ≤ cap
  · have hlt : xs.length < cur.size := by omega
    have hf := run_firstCells_some (P := P) w i.size 1 a 1 c [enc8 x] (by simp [hsize]) hnews
    rw [hsize] at hf
    have hst := run_store1 P g xs.length e fz (enc8 x) cur w hg hfz hlt (enc8_one x)
    have hr : (Builtin.append_ #[t, t] ty #[.slice (some ⟨g, 0, none⟩) xs.length cap, .slice (some a) 1 c]).run P w =
        .ok (.slice (some ⟨g, 0, none⟩) (xs.length + 1) cap) (w.setRow g (cur.setIfInBounds xs.length (enc8 x))) := by
      simp [Builtin.append_, run_underlying ht, sizeOf, typeInfo, hi, Builtin.lenOf, hroom, hf, Addr.add_lit, hsize, hst]
    refine ⟨_, _, hr, ⟨g, cap, cur.setIfInBounds xs.length (enc8 x), fz, by simp, hbg, setRow_heap w g cur _ e _ hg, by simpa using hfz, by simpa using hroom, hcm, by simpa using hcs, ?_⟩,
      ⟨rfl, rfl, rfl, by simp, fun k _ hk => setRow_other w g k _ (fun e => hk (by simp [Value.ownBlock, e]))⟩⟩
    rw [Array.toList_setIfInBounds, List.length_append, List.length_singleton, List.take_succ_eq_append_getElem (by simpa using hlt), List.take_set_of_le (Nat.le_refl _), htake]
    simp
  · have hr := run_append_grow (P := P) w t ty e i (.int .u8 0) ht hi hz ⟨g, 0, none⟩ xs.length cap (xs.map enc8) (by simp [hsize]) hown0.cells a 1 c [enc8 x] (by simp [hsize]) hnews (by omega) (by omega) (by rw [hby]; exact growslice_fits (by omega) (by omega))
    have hge := grownCap_ge w (xs.length + 1) cap e
    have hcm2 : grownCap w (xs.length + 1) cap e ≤ maxLen := grownCap_le_maxLen w (xs.length + 1) cap e hmm
    refine ⟨_, _, hr, ⟨w.heap.size, _, _, (0, 0), by simp, hbase, heap_alloc_new w.drew _, .inl rfl, by simpa using hge, hcm2, ?_, ?_⟩, ⟨rfl, rfl, rfl, by simp, fun k hk _ => heap_alloc_old w.drew _ k hk⟩⟩
    · have hz1 : (Value.int IntKind.u8 0).cells.size = 1 := rfl
      simp only [Array.size_append, List.size_toArray, size_zeroCells, hz1, List.length_map, List.length_singleton]
      omega
    · have hl : (xs ++ [x]).length = ((xs.map enc8).toArray ++ [enc8 x].toArray).size := by simp
      simp only [Array.toList_append, hl]
      rw [Array.size_append]
      simp only [List.size_toArray, List.length_map, List.length_singleton, List.map_append, List.map_cons, List.map_nil]
      exact List.take_left' (by simp)
theorem own8_bytes (w : World) (base : Nat) (e : TypeId) (s : ByteArray) (hb : base ≤ w.heap.size) (hs : s.size ≤ maxLen) :
    Own8 (Lib.bytesWorld w e s) base e (.slice (some ⟨w.heap.size, 0, none⟩) s.size (grownCap w s.size 0 e)) s.data.toList := by
  have hge := grownCap_ge w s.size 0 e
  have hcm := grownCap_le_maxLen w s.size 0 e hs
  have hsz : s.data.toList.length = s.size := by rw [Array.length_toList]; rfl
  have hcs : (Lib.bytesCells w e s).size = grownCap w s.size 0 e := by
    have : s.data.size = s.size := rfl
    simp only [Lib.bytesCells, Array.size_append, Array.size_map, Array.size_replicate, this]; omega
  refine ⟨w.heap.size, grownCap w s.size 0 e, _, _, by rw [hsz], hb, Lib.bytesWorld_at_new w e s, .inr (by simp), by rw [hsz]; exact hge, hcm, hcs, ?_⟩
  simp only [Lib.bytesCells, Array.toList_append, Array.toList_map]
  rw [List.take_append_of_le_length (by simp), List.take_of_length_le (by simp)]
  rfl
theorem bytesWorld_grown (w : World) (e : TypeId) (s : ByteArray) : w.grownBy (Lib.bytesWorld w e s) none :=
  ⟨by simp [Lib.bytesWorld, World.freeze, World.alloc, World.drew, -World.alloc_eq, -World.drew_eq], by simp [Lib.bytesWorld, World.freeze, World.alloc, World.drew, -World.alloc_eq, -World.drew_eq], by simp [Lib.bytesWorld, World.freeze, World.alloc, World.drew, -World.alloc_eq, -World.drew_eq], by rw [Lib.bytesWorld_size]; omega, fun k hk _ => Lib.bytesWorld_at_old w e s k hk⟩
theorem strOfNums_map (xs : List UInt8) : strOfNums (xs.map fun b => (b.toNat : Int)) = ⟨xs.toArray⟩ := by
  unfold strOfNums
  congr 1
  simp [Function.comp_def]
theorem run_string8 {P : Program} (w : World) (base : Nat) (src dst e : TypeId) (hs : P.underlying src = some (.slice e)) (he : P.underlying e = some (.int .u8)) (hd : P.underlying dst = some .string) (v : Value) (xs : List UInt8) (hown : Own8 w base e v xs) :
    (convert src dst v).run P w = .ok (.string ⟨xs.toArray⟩) w := by
  have h0 := hown
  obtain ⟨g, cap, cur, fz, rfl, hbg, hg, hfz, hnc, hcm, hcs, htake⟩ := hown
  have h := run_convert_bytes_arg (P := P) w src e hs he g 0 xs.length cap (xs.map fun b => (b.toNat : Int)) (by simp) (fun i hi => by
    have hc := h0.cells i (enc8 (xs[i]'hi)) (by simp [hi])
    have hadd : (⟨g, 0, none⟩ : Addr).add i = ⟨g, i, none⟩ := by unfold Addr.add; split <;> simp_all
    rw [hadd] at hc
    rw [Nat.zero_add, hc]
    simp [enc8, List.getD, hi]) dst hd
  rw [strOfNums_map] at h
  exact h
theorem wpListIn_append8 {F : Fence} {n : Nat} {P : Program} (w : World) {ops : Array Oper} {rest : List Oper} {o : Oper} {a : Act} {Q : Exit → Act → World → Prop}
    (hg : o.guard = none) (s x : Operand) (t : TypeId) (hop : o.op = Op.call { callee := Callee.builtin Builtin.append, args := #[s, x], argTypes := #[t, t] })
    (base : Nat) (e : TypeId) (i : TypeInfo) (h1 : P.underlying t = some (.slice e)) (h2 : P.info? e = some i) (h3 : i.zero = some (.int .u8 0)) (h4 : i.size = 1) (h5 : i.bytes = 1)
    (v : Value) (xs : List UInt8) (hs : a.eval s = v) (hown : Own8 w base e v xs) (ad : Addr) (c : Nat) (y : UInt8) (hx : a.eval x = .slice (some ad) 1 c)
    (hc : w.cell? (ad.add 0) = some (enc8 y)) (b2 : xs.length + 1 ≤ 140737488355328) (b3 : base ≤ w.heap.size)
    (hK : ∀ v' w', Own8 w' base e v' (xs ++ [y]) → w.grownBy w' v.ownBlock → wpListIn F n P ops Q rest (a.put o.dst v') w') :
    wpListIn F n P ops Q (o :: rest) a w := by
  refine wpListIn_plain hg fun K hK' => ?_
  obtain ⟨v', w', hrun, r1, r2⟩ := run_append8 (P := P) w base t o.type e i h1 h2 h3 h4 h5 v xs hown ad c y hc b2 b3
  unfold Oper.wpIn
  refine ⟨?_, ?_⟩
  · simp [Oper.about, hop, resolve, Target.leads, Sem.run_pure]
  · rw [Oper.semAt_plain F _ _ (by rw [hop]; intro c hc'; cases hc')]
    simp [execOp, hop, resolve, invoke, builtin, hs, hx, hrun, Result.andThen]
    exact hK' _ _ (hK v' w' r1 r2)
theorem Own8.not_box {W : World} {B : Nat} {t e : TypeId} {u : Value} (h : Boxed W B t u) (hte : t ≠ e) {base : Nat} {v : Value} {xs : List UInt8} (hr : Own8 W base e v xs) : some B ≠ v.ownBlock := by
  obtain ⟨g, cap, cur, fz, rfl, _, hgb, _⟩ := hr
  intro e'
  obtain rfl : B = g := by simpa [Value.ownBlock] using e'
  have := (show W.heap[B]? = _ from h).symm.trans hgb
  simp at this
  exact hte this.2.1
theorem Own8.setCell {W : World} {B : Nat} {t e : TypeId} {u : Value} (h : Boxed W B t u) (hte : t ≠ e) {base : Nat} {v : Value} {xs : List UInt8} (hr : Own8 W base e v xs) (v' : Value) : Own8 (W.setCell ⟨B, 0, none⟩ v') base e v xs :=
  hr.kept (grownBy_setCell' W B v') (hr.not_box h hte).symm
theorem Boxed.appended8 {W w1 : World} {n₀ B : Nat} {t e : TypeId} {v v' : Value} {xs ys : List UInt8} {tmp : Obj}
    (hv : Boxed W B t v) (hte : t ≠ e) (hrow : Own8 W n₀ e v xs) (hn₀ : n₀ ≤ W.heap.size) (hB : n₀ ≤ B)
    (hown' : Own8 w1 n₀ e v' ys) (hgrow : (W.alloc tmp).grownBy w1 v.ownBlock) :
    Boxed w1 B t v ∧ Boxed (w1.setCell ⟨B, 0, none⟩ v') B t v' ∧ Own8 (w1.setCell ⟨B, 0, none⟩ v') n₀ e v' ys ∧ KeepsOthers W (w1.setCell ⟨B, 0, none⟩ v') ∧ Below n₀ W (w1.setCell ⟨B, 0, none⟩ v') := by
  have hv1 : Boxed w1 B t v := (hv.alloc tmp).kept hgrow (hrow.not_box hv hte)
  refine ⟨hv1, hv1.set v', hown'.setCell hv1 hte v', ?_, ?_⟩
  · refine ((KeepsOthers.alloc W tmp).trans (KeepsOthers.of_grownBy hgrow fun j o ej hj => ?_)).trans (KeepsOthers.setCell _ _ _)
    obtain ⟨g, cap, cur, fz, rfl, _, hgb, _⟩ := hrow.alloc tmp
    obtain rfl : g = j := by simpa [Value.ownBlock] using ej
    rw [hgb] at hj; cases hj; rfl
  · refine (((Below.refl n₀ W).alloc hn₀ tmp).grown hgrow (by simp; omega) fun j ej => ?_).setCell (p := ⟨B, 0, none⟩) hB v'
    obtain ⟨g, cap, cur, fz, rfl, hb, _⟩ := hrow
    obtain rfl : g = j := by simpa [Value.ownBlock] using ej
    exact hb
theorem Boxed.beside8 {W w1 : World} {n₀ B B2 : Nat} {t t2 e : TypeId} {v v' u : Value} {xs : List UInt8} {tmp : Obj}
    (hu : Boxed W B2 t2 u) (hte : t2 ≠ e) (hne : B2 ≠ B) (hrow : Own8 W n₀ e v xs) (hgrow : (W.alloc tmp).grownBy w1 v.ownBlock) (hv1 : Boxed w1 B t v) :
    Boxed (w1.setCell ⟨B, 0, none⟩ v') B2 t2 u :=
  ((hu.alloc tmp).kept hgrow (hrow.not_box hu hte)).kept (grownBy_setCell' w1 B v') (by simpa using hne)
theorem holds8_own {β : Type} (n₀ B : Nat) (t e : TypeId) (f : β → List UInt8) : Own (fun (s : β) W => ∃ v, Boxed W B t v ∧ Own8 W n₀ e v (f s)) := by
  rintro s X Y row ⟨v, hv, hr⟩ hg hrow
  refine ⟨v, hv.kept hg (fun e' => ?_), hr.kept hg ?_⟩
  · obtain ⟨o, ho, hc⟩ := hrow B e'.symm
    rw [show X.heap[B]? = _ from hv] at ho; cases ho; cases hc
  · obtain ⟨g, cap, cur, fz, rfl, _, hgb, _⟩ := hr
    intro e'
    obtain ⟨o, ho, hc⟩ := hrow g (by simpa [Value.ownBlock] using e'.symm)
    rw [hgb] at ho; cases ho; cases hc
theorem Own8.putObj {W : World} {base : Nat} {e : TypeId} {v : Value} {xs : List UInt8} (h : Own8 W base e v xs) {l : Nat} {o : Obj} (o' : Obj) (hl : W.heap[l]? = some o) (ho : o.isCells = false) : Own8 (W.putObj l o') base e v xs := by
  refine h.kept (grownBy_putObj' W l o') ?_
  obtain ⟨g, cap, cur, fz, rfl, _, hgb, _⟩ := h
  intro e'
  obtain rfl : g = l := by simpa [Value.ownBlock] using e'
  rw [hgb] at hl; cases hl; cases ho
def SeqCell {α : Type} (F : Fence) (n : Nat) (P : Program) (g : Nat) (lb : Array Value) (encs : α → Array Value) (Bu : Nat) (tu : TypeId) (v0 : Value) (xs : List α) : Prop :=
  ∀ (l : Nat) (J : List α → World → Prop) (W : World), Boxed W Bu tu v0 → AbidesFrom W.heap.size J → (∀ s W v v', Boxed W Bu tu v → J s W → J s (W.setCell ⟨Bu, 0, none⟩ v')) →
    (∀ pre x W1, J pre W1 → pre.length < xs.length → YieldAt F (n - 1) P l (encs x) W1 fun e W' => e = .returned (.bool true) ∧ J (pre ++ [x]) W' ∧ (∀ v, Boxed W1 Bu tu v → Boxed W' Bu tu v)) →
    J [] W →
    CallsIn F n P g (#[.func (.yield l) #[] #[]] ++ lb) W fun e W' => (∃ v, e = .returned v) ∧ J xs W'
def bodyPost8 {α : Type} (Bu : Nat) (tu : TypeId) (I : List α → World → Prop) (xs : List α) (W : World) : Exit → Act → World → Prop
  | .normal, _, W' => KeepsOthers W W' ∧ (∀ v, Boxed W Bu tu v → Boxed W' Bu tu v) ∧ I xs W'
  | _, _, _ => False
theorem boxed_putObj {W : World} {Bu : Nat} {tu : TypeId} {v : Value} (h : Boxed W Bu tu v) {l : Nat} {o : Obj} (o' : Obj) (hl : W.heap[l]? = some o) (ho : o.isCells = false) : Boxed (W.putObj l o') Bu tu v := by
  refine h.kept (grownBy_putObj' W l o') ?_
  intro e
  obtain rfl : Bu = l := by simpa using e
  rw [show W.heap[Bu]? = _ from h] at hl
  cases hl
  cases ho
variable {F : Fence} {n : Nat} {P : Program}
theorem rangeFunc_cell {α : Type} {g : Operand} {ps : Array Tmp} {assign body : Code} {Q : Exit → Act → World → Prop} {a : Act} {w : World}
    (hro : F.round = none) (h1 : 1 ≤ n) {gf : Nat} {lb : Array Value} (hg : a.eval g = .func (.func gf) #[] lb) (hFg : F.fn gf) (eg : ∀ args w, (callFunc gf args).run P w = .ok (.enter gf args) w)
    {encs : α → Array Value} {Bu : Nat} {tu : TypeId} {v0 : Value} {xs : List α} (hseq : SeqCell F (n - 1) P gf lb encs Bu tu v0 xs) (hu : Boxed w Bu tu v0) (hps : ∀ x, (encs x).size = ps.size)
    (I : List α → World → Prop) (hI : OwnFrom w.heap.size I) (hIc : ∀ s W v v', Boxed W Bu tu v → I s W → I s (W.setCell ⟨Bu, 0, none⟩ v')) (h0 : I [] w) (a₁ : α → Act)
    (hassign : ∀ (l : Nat) (x : α) (W : World) (K : Act → World → Prop), K (a₁ x) W →
      assign.wpIn (F.inRound l) (n - 1 - 1) P (Exit.then K (fun _ _ _ => False)) { tmps := (ps.zip (encs x)).foldl (fun t (p, v) => t.setIfInBounds p v) a.tmps, defers := [] } W)
    (hbody : ∀ (l : Nat) (pre : List α) (x : α) (W : World), I pre W → pre.length < xs.length → body.wpIn (F.inRound l) (n - 1 - 1) P (bodyPost8 Bu tu I (pre ++ [x]) W) (a₁ x) W)
    (hdone : ∀ (D : Nat) (W : World), w.heap.size ≤ D → I xs W → W.heap[D]? = some (.deferred (some [])) → Q .normal { a with defers := { target := .collected D, args := #[] } :: a.defers } W) :
    (Code.rangeFunc g ps assign body).wpIn F n P Q a w := by
  refine wpIn_rangeFunc ?_
  intro fn hfn
  rw [hro]
  obtain ⟨rec, hrec⟩ : ∃ rec : LoopState → Option Code → Loop, rec = fun st pe => { state := st, pending := pe, fn, tmps := a.tmps, params := ps, assign, body, defers := w.heap.size } := ⟨_, rfl⟩
  obtain ⟨W1, hW1⟩ : ∃ W1, (w.alloc (.deferred (some []))).alloc (.loop (rec .ready none)) = W1 := ⟨_, rfl⟩
  have hL1 : W1.heap[w.heap.size + 1]? = some (.loop (rec .ready none)) := by
    rw [← hW1]; have := World.alloc_heap_new (w.alloc (.deferred (some []))) (.loop (rec .ready none)); rwa [World.size_alloc] at this
  have hK1 : W1.heap[w.heap.size]? = some (.deferred (some [])) := by
    rw [← hW1]; exact (Below.heap_alloc _ _ _ (by simp)).trans (World.alloc_heap_new w _)
  have hI1 : I [] W1 := by rw [← hW1]; exact hI.alloc _ (hI.alloc _ h0)
  have hU1 : Boxed W1 Bu tu v0 := by rw [← hW1]; exact (hu.alloc _).alloc _
  refine ⟨w.heap.size + 1, [{ target := .collected w.heap.size, args := #[] }], W1, { target := .fn (.func gf) lb, args := #[.func (.yield (w.heap.size + 1)) #[] #[]] }, W1, gf,
    #[.func (.yield (w.heap.size + 1)) #[] #[]] ++ lb, W1, ?_, ?_, ?_, ?_, fun _ => h1, ?_⟩
  · rw [← hW1, hrec]; exact run_enterLoop_outer _ _ _ _ _
  · simp only [resolve, hg]
    simp [go_sem]
  · intro f' hf'; simp [Target.leads] at hf'; subst hf'; exact hFg
  · simp [invoke, go_sem, eg]
  · have hnw : ∀ {A B : World} {row : Option Nat}, (∀ r, row = some r → W1.heap.size ≤ r ∧ ∃ o : Obj, A.heap[r]? = some o ∧ o.isWalk = true) → (∀ r, row = some r → w.heap.size ≤ r ∧ ∃ o : Obj, A.heap[r]? = some o ∧ o.isCells = false) :=
      fun hr r e => by obtain ⟨hB, o, ho, hw⟩ := hr r e; exact ⟨by rw [← hW1] at hB; simp at hB; omega, o, ho, Obj.not_cells_of_walk hw⟩
    have hset : ∀ (A : World) (v v' : Value) (r : Nat) (o : Obj), Boxed A Bu tu v → A.heap[r]? = some o → o.isCells = false → (A.setCell ⟨Bu, 0, none⟩ v').heap[r]? = some o := fun A v v' r o hb hr hc =>
      ((grownBy_setCell' A Bu v').block r (Array.getElem?_eq_some_iff.1 hr).1 (fun e => by
        obtain rfl : r = Bu := by simpa using e
        rw [show A.heap[r]? = _ from hb] at hr; cases hr; cases hc)).trans hr
    refine (hseq (w.heap.size + 1)
      (fun pre W => I pre W ∧ W.heap[w.heap.size + 1]? = some (.loop (rec .ready none)) ∧ W.heap[w.heap.size]? = some (.deferred (some [])))
      W1 hU1
      (fun s A B row hs hg' hr => ⟨hI s A B row hs.1 hg' (hnw (B := B) hr), (grownBy_keeps hg' (fun r e => (hr r e).2) hs.2.1 rfl).trans hs.2.1, (grownBy_keeps hg' (fun r e => (hr r e).2) hs.2.2 rfl).trans hs.2.2⟩)
      (fun s A v v' hb hs => ⟨hIc s A v v' hb hs.1, hset A v v' _ _ hb hs.2.1 rfl, hset A v v' _ _ hb hs.2.2 rfl⟩)
      ?_ ⟨hI1, hL1, hK1⟩).mono ?_
    · rintro pre x W ⟨hi, hl, hk⟩ hlen
      have hlt : w.heap.size + 1 < W.heap.size := (Array.getElem?_eq_some_iff.1 hl).1
      have hy := run_yield (P := P) (args := encs x) hl (by rw [hrec]; exact hps x)
      rw [hrec] at hy
      refine ⟨fn, _, assign, body, hy, roundIn_of_wpIn hfn (hassign _ x W _ ⟨_, run_beginRound hl (by rw [hrec]), ?_⟩)⟩
      have hl2 : (W.putObj (w.heap.size + 1) (.loop { rec .ready none with state := .busy })).heap[w.heap.size + 1]? = some (.loop { rec .ready none with state := .busy }) := World.putObj_heap_same hlt
      have hk2 : (W.putObj (w.heap.size + 1) (.loop { rec .ready none with state := .busy })).heap[w.heap.size]? = some (.deferred (some [])) := (World.putObj_heap_other (by omega)).trans hk
      refine wpIn_mono (hbody _ pre x _ (hI.putObj _ hi (by omega) hl rfl) hlen) ?_
      rintro e a3 W3 hp
      cases e with
      | normal =>
        obtain ⟨hk3, hkp3, hi3⟩ := hp
        have hl3 := hk3.same _ _ hl2 rfl
        have hr := run_endRound (P := P) none hl3
        rw [hrec] at hr
        refine ⟨_, _, hr, rfl, ⟨hI.putObj _ hi3 (by omega) hl3 rfl, ?_, (World.putObj_heap_other (by omega)).trans (hk3.same _ _ hk2 rfl)⟩, fun v hv => boxed_putObj (hkp3 v (boxed_putObj hv _ hl rfl)) _ hl3 rfl⟩
        rw [hrec]
        exact World.putObj_heap_same (Array.getElem?_eq_some_iff.1 hl3).1
      | ret => exact hp.elim
      | exit id => exact hp.elim
      | goto t => exact hp.elim
      | panic ch => exact hp.elim
      | outgrown => exact hp.elim
    · rintro e W2 ⟨⟨v, rfl⟩, hi, hl, hk⟩
      exact ⟨none, _, by have := run_endLoop (P := P) hl (by rw [hrec]; simp); rw [hrec] at this; exact this, hdone _ _ (Nat.le_refl _) (hI.putObj _ hi (by omega) hl rfl) ((World.putObj_heap_other (by omega)).trans hk)⟩
end Go.Proofs.Ytcjdnahgffkbdaa.Gb
