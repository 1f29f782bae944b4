/- Which directories are valid, who is in them, all marks, and what verifies, or the error, for any arguments; and the row, whose second argument is a slice of structs. -/
import Derived.Test.YtcalkhlchjjalaaWWords
import Derived.Test.YtcalkhlchjjalaaWLast
import Derived.Test.YtcalkhlchjjalaaWMore
/- A literal of rows that are only read from then on: its elements may be rows of any origin. -/
namespace Go.Proofs.Ytcalkhlchjjalaa.Grl
open Go Go.RowKit Go.Proofs.YtcalkhlchjjalaaW.PrintWords Go.Proofs.YtcalkhlchjjalaaW.PrintLast Go.Proofs.YtcalkhlchjjalaaW.PrintMore
set_option linter.unusedVariables false

section
variable {α : Type} {d : Kd α}

theorem K_of_R {e : Nat} {w : World} {base : Nat} {ok : Nat → Prop} {v : Value} {xs : List α} (h : d.R e w base ok v xs) : (Kd.slice e d).K w xs [v] :=
  (Kd.slice e d).K_of_M (w := w) (base := base) (ok := ok) ⟨v, rfl, h⟩

theorem K_of_C {e : Nat} {w : World} {A : Option Addr} {c : Nat} {xs : List α} (hl : xs.length ≤ c) (h : d.C w A xs.length xs) : (Kd.slice e d).K w xs [.slice A xs.length c] :=
  ⟨A, c, rfl, hl, h⟩

theorem C_of_lit (d : Kd α) (W : World) (e : Nat) {xs : List α} {inner : List Value} (hrep : Reps (d.K W) d.sz xs inner) (hm : xs.length ≤ 9223372036854775807) :
    d.C (W.alloc (.cells inner.toArray e)) (some ⟨W.heap.size, 0, none⟩) xs.length xs := by
  obtain ⟨A, c, he, hl, hr⟩ := OwnRow.reads (OwnRow.lit (e := e) W W.heap.size hrep (Nat.le_refl _) hm)
  injection he with h1 h2 h3
  subst h1
  exact hr.imp_ (Below.refl _ _) (fun _ _ hp => d.K_below (below_alloc (Below.refl _ _) _) hp)

variable {P : Program} {ops : Array Oper} {rest : List Oper} {o : Oper} {a : Act} {Q : Exit → Act → World → Prop} {Kc : Act → World → Prop}

theorem C_lit (d : Kd α) {w0 W : World} (base e : Nat) (hgd : o.guard = none) {N : Tmp} (_hd : o.dst = some N) {xs : List α} {inner : List Value}
    (hrun : (execOp a.eval o).run P W = .ok (.value (.slice (some ⟨W.heap.size, 0, none⟩) xs.length xs.length)) (W.alloc (.cells inner.toArray e)))
    (hrep : Reps (d.K W) d.sz xs inner) (HB : Below base w0 W) (hbase : base ≤ W.heap.size) (hm : xs.length ≤ 9223372036854775807) {ys : List α} (hy : ys = xs)
    (h : ∀ g w1, d.C w1 (some ⟨g, 0, none⟩) ys.length ys → Below base w0 w1 → wpList P ops Q rest (a.put o.dst (.slice (some ⟨g, 0, none⟩) ys.length ys.length)) w1) : wpList P ops Q (o :: rest) a W :=
  Kd.event_run hgd hrun (by subst hy; exact h _ _ (C_of_lit d W e hrep hm) (HB.alloc hbase _))

theorem C_lit_step (d : Kd α) {w0 W : World} (base e : Nat) (hw : Region.wanted o (yielded ops a.tmps) = true) {N : Tmp} (_hd : o.dst = some N) {xs : List α} {inner : List Value}
    (hrun : (execOp a.eval o).run P W = .ok (.value (.slice (some ⟨W.heap.size, 0, none⟩) xs.length xs.length)) (W.alloc (.cells inner.toArray e)))
    (hrep : Reps (d.K W) d.sz xs inner) (HB : Below base w0 W) (hbase : base ≤ W.heap.size) (hm : xs.length ≤ 9223372036854775807) {ys : List α} (hy : ys = xs)
    (h : ∀ g w1, d.C w1 (some ⟨g, 0, none⟩) ys.length ys → Below base w0 w1 → Kc (a.put o.dst (.slice (some ⟨g, 0, none⟩) ys.length ys.length)) w1) : if Region.wanted o (yielded ops a.tmps) = true then Oper.wp P o a W Kc Q else Kc (a.put o.dst undef) W :=
  event_step hw hrun (by subst hy; exact h _ _ (C_of_lit d W e hrep hm) (HB.alloc hbase _))
end
end Go.Proofs.Ytcalkhlchjjalaa.Grl
