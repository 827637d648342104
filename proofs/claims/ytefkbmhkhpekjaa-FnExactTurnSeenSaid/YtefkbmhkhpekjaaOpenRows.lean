/- What comes in as rows of rows of structs of whole numbers, as the words read it (no program in sight). No condition. -/
import Derived.Test.YtefkbmhkhpekjaaWWords
import Derived.Deep.Slices
namespace Go.Proofs.YtefkbmhkhpekjaaMine
open Go.RowKit Go.Deep Go.ChangeShapes Go.WideShapes Go.Proofs.YtefkbmhkhpekjaaW.PrintWords
set_option linter.unusedVariables false
variable {H : Type} {enc : TypeId × Value → H} {P : Program} {w : World} {base : Nat} {spare : Nat → Bool} {held : Bool}

/-- A slice whose elements can be read is a row. -/
theorem open_rowK {α : Type} [Inhabited α] (d : Kd α) {t e : TypeId} {fuel : Nat} {cs : List Value} {x : DataW H × List MemPlace} (ht : P.underlying t = some (.slice e)) (ce : P.cellsOf e = d.sz)
    (elem : ∀ n cs' y, DataW.trod enc P w base spare held n e cs' = some y → ∃ p : α, d.K w p cs') (h : DataW.trod enc P w base spare held fuel t cs = some x) : ∃ l : List α, (Kd.slice e d).K w l cs := by
  rcases open_slice ht h with ⟨rfl, _⟩ | ⟨a, len, cap, m, n, D, Pl, rfl, hb, hl, hm, hmm, _, hx⟩
  · exact ⟨[], none, 0, rfl, Nat.le_refl _, rfl, by simp, fun h => absurd h (by simp)⟩
  have hlm : len ≤ m := by rw [hmm]; split <;> omega
  obtain ⟨q, hq⟩ := choose_lt (n := len) (p := fun i (q : α × List Value) => w.cells? base (a.add (i * d.sz)) d.sz = some q.2 ∧ d.K w q.1 q.2) (fun i hi => by
    obtain ⟨cs', h1, h2⟩ := hx i (by omega)
    obtain ⟨p, hp⟩ := elem _ _ _ h2
    rw [ce] at h1
    exact ⟨(p, cs'), h1, hp⟩)
  have hll : ((List.range len).map fun i => (q i).1).length = len := by simp
  refine ⟨(List.range len).map fun i => (q i).1, some a, cap, by rw [hll], by rw [hll]; exact hl, rfl, ?_, fun _ => ⟨a, rfl, fun j p hj => ?_⟩⟩
  · rw [hll]; have : maxLen ≤ 9223372036854775807 := by decide
    omega
  · have hjl : j < len := by have := (List.getElem?_eq_some_iff.1 hj).1; simpa using this
    rw [List.getElem?_map, List.getElem?_range hjl] at hj
    injection hj with hj
    subst hj
    obtain ⟨h1, h2⟩ := hq j hjl
    obtain ⟨_, hlen, hcell⟩ := World.cells?_some h1
    refine ⟨(q j).2, d.K_len h2, h2, fun i u hu => ?_⟩
    have hi : i < d.sz := by have := (List.getElem?_eq_some_iff.1 hu).1; omega
    have := hcell i hi
    rw [Go.Deep.add_add] at this
    exact this.trans hu
/-- A struct of three whole numbers, each a cell. -/
theorem open_three {e : TypeId} {f0 f1 f2 : Field} {k0 k1 k2 : IntKind} {fuel : Nat} {cs : List Value} {x : DataW H × List MemPlace} (he : P.underlying e = some (.struct #[f0, f1, f2])) (ce : P.cellsOf e = 3)
    (o0 : f0.offset = 0) (o1 : f1.offset = 1) (o2 : f2.offset = 2) (c0 : P.cellsOf f0.type = 1) (c1 : P.cellsOf f1.type = 1) (c2 : P.cellsOf f2.type = 1)
    (u0 : P.underlying f0.type = some (.int k0)) (u1 : P.underlying f1.type = some (.int k1)) (u2 : P.underlying f2.type = some (.int k2))
    (h : DataW.trod enc P w base spare held fuel e cs = some x) : ∃ a b c : Int, cs = [.int k0 a, .int k1 b, .int k2 c] ∧ (Lit.int k0 a).wf = true ∧ (Lit.int k1 b).wf = true ∧ (Lit.int k2 c).wf = true := by
  obtain ⟨xs, k, _, _, hlen, hxl, hf⟩ := DataW.trod_struct he h
  rw [ce] at hlen
  match xs, hxl, cs, hlen with
  | [y0, y1, y2], _, [v0, v1, v2], _ =>
    have g0 := hf 0 f0 rfl
    have g1 := hf 1 f1 rfl
    have g2 := hf 2 f2 rfl
    simp [o0, o1, o2, c0, c1, c2] at g0 g1 g2
    obtain ⟨a, ea, _, wa⟩ := DataW.trod_int u0 g0
    obtain ⟨b, eb, _, wb⟩ := DataW.trod_int u1 g1
    obtain ⟨c, ec, _, wc⟩ := DataW.trod_int u2 g2
    injection ea with ea; injection eb with eb; injection ec with ec
    subst ea; subst eb; subst ec
    exact ⟨a, b, c, rfl, wa, wb, wc⟩
theorem arr_two {α : Type} {a : Array α} (h : a.size = 2) : ∃ u v, a = #[u, v] := by
  obtain ⟨l⟩ := a
  match l, h with
  | [u, v], _ => exact ⟨u, v, rfl⟩
end Go.Proofs.YtefkbmhkhpekjaaMine
