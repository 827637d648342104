/- Small general lemmas beside the printed words (no program in sight). -/
import Derived.Test.YtefkbmhkhpekjaaWNEv
import Derived.Test.YtefkbmhkhpekjaaWMore
import Derived.Test.YtefkbmhkhpekjaaWAt
import Derived.Lib.SliceRun
namespace Go.Proofs.YtefkbmhkhpekjaaMine
open Go.RowKit Go.Proofs.YtefkbmhkhpekjaaW.PrintWords Go.Proofs.YtefkbmhkhpekjaaW.PrintLast Go.Proofs.YtefkbmhkhpekjaaW.PrintMore
set_option linter.unusedVariables false

/-- An empty literal is an own row. -/
theorem R_empty {α : Type} (d : Kd α) (e : Nat) (W : World) (base : Nat) (ok : Nat → Prop) (hb : base ≤ W.heap.size) (hok : ok W.heap.size) :
    d.R e (W.alloc (.cells #[] e)) base ok (.slice (some ⟨W.heap.size, 0, none⟩) 0 0) [] := by
  refine ⟨fun k hk => ?_, [], ?_, Reps.none _ _⟩
  · have : W.heap.size = k := by simpa [Value.ownBlock] using hk
    subst this; exact hok
  · have h2 := World.ownsRow_lit (base := base) (e := e) (size := d.sz) W #[] 0 hb (by simp [maxLen]) (by simp)
    simpa using h2

/-- A row that is read, with the bound that the appending law asks. -/
theorem C_rows {α : Type} {d : Kd α} {w : World} {A : Option Addr} {n : Nat} {xs : List α} (h : d.C w A n xs) : ReadsRow (d.K w) d.sz w A n xs := h

/-- The walk stops where this is refined: 'go_wp2_with (at_builtin; refine park ?_)', then 'refine ⟨?_⟩'. -/
structure Parked (p : Prop) : Prop where out : p
theorem park {p : Prop} (h : Parked p) : p := h.out

theorem nil_of_none {α : Type} {d : Kd α} {w : World} {n : Nat} {xs : List α} (h : d.C w none n xs) : xs = [] := by
  rcases Nat.eq_zero_or_pos n with h0 | h0
  · exact List.eq_nil_of_length_eq_zero (by rw [h.1, h0])
  · obtain ⟨_, hh, _⟩ := h.2.2 h0; cases hh

/- Over what only makes: a row, a block as they were. The script is run where the lemma is named. -/
theorem am_ {p : Prop} (h : p) : Aside0 p := ⟨h⟩
section
variable {α : Type} {d : Kd α} {e base : Nat} {ok : Nat → Prop} {w w1 : World} {v : Value} {xs : List α}
theorem vu (h : Kd.V d e w base ok v xs) (hb : Below w.heap.size w w1 := by with_reducible repeat (first | exact Below.refl _ _ | apply below_alloc | apply pw_below_drewN | apply below_drew1)) : Kd.V d e w1 base ok v xs := Kd.V_below h hb
theorem ru (h : Kd.R d e w base ok v xs) (hb : Below w.heap.size w w1 := by with_reducible repeat (first | exact Below.refl _ _ | apply below_alloc | apply pw_below_drewN | apply below_drew1)) : Kd.R d e w1 base ok v xs := Kd.R_below h hb
theorem nu (h : Kd.N d e w base ok v xs) (hb : Below w.heap.size w w1 := by with_reducible repeat (first | exact Below.refl _ _ | apply below_alloc | apply pw_below_drewN | apply below_drew1)) : Kd.N d e w1 base ok v xs := Kd.N_below h hb
theorem su (h : Kd.S d e w base ok v xs) (hb : Below w.heap.size w w1 := by with_reducible repeat (first | exact Below.refl _ _ | apply below_alloc | apply pw_below_drewN | apply below_drew1)) : Kd.S d e w1 base ok v xs := Kd.S_below h hb
theorem cu {A : Option Addr} {n : Nat} (h : Kd.C d w A n xs) (hb : Below w.heap.size w w1 := by with_reducible repeat (first | exact Below.refl _ _ | apply below_alloc | apply pw_below_drewN | apply below_drew1)) : Kd.C d w1 A n xs := Kd.C_below h hb
theorem hu {i : Int} {oki : Nat → Prop} {c : List Value} (h : Kd.H d e w base ok v xs i oki c) (hb : Below w.heap.size w w1 := by with_reducible repeat (first | exact Below.refl _ _ | apply below_alloc | apply pw_below_drewN | apply below_drew1)) : Kd.H d e w1 base ok v xs i oki c := Kd.H_below h hb
theorem bu {g : Nat} {o : Obj} (h : w.heap[g]? = some o) (hb : Below w.heap.size w w1 := by with_reducible repeat (first | exact Below.refl _ _ | apply below_alloc | apply pw_below_drewN | apply below_drew1)) : w1.heap[g]? = some o := blk_below h hb
end
/-- The cells of a block that is told whole. -/
theorem cf0 {w : World} {g : Nat} {t : TypeId} {a : Value} {l : List Value} (h : w.heap[g]? = some (.cells (a :: l).toArray t (0, 0))) : w.cell? ⟨g, 0, none⟩ = some a := (blk_cell h 0).trans (by simp)
theorem cf1 {w : World} {g : Nat} {t : TypeId} {a b : Value} {l : List Value} (h : w.heap[g]? = some (.cells (a :: b :: l).toArray t (0, 0))) : w.cell? ⟨g, 1, none⟩ = some b := (blk_cell h 1).trans (by simp)
theorem cf2 {w : World} {g : Nat} {t : TypeId} {a b c : Value} {l : List Value} (h : w.heap[g]? = some (.cells (a :: b :: c :: l).toArray t (0, 0))) : w.cell? ⟨g, 2, none⟩ = some c := (blk_cell h 2).trans (by simp)
end Go.Proofs.YtefkbmhkhpekjaaMine
