/- Small general lemmas beside the printed words (no program in sight). -/
import Derived.Test.YtmkchdlkpbnldaaWNEv
import Derived.Test.YtmkchdlkpbnldaaWMore
import Derived.Test.YtmkchdlkpbnldaaWAt
import Derived.Lib.SliceRun
namespace Go.Proofs.YtmkchdlkpbnldaaMine
open Go.RowKit Go.Proofs.YtmkchdlkpbnldaaW.PrintWords Go.Proofs.YtmkchdlkpbnldaaW.PrintLast Go.Proofs.YtmkchdlkpbnldaaW.PrintMore
set_option linter.unusedVariables false

/-- An empty literal is an own row. -/
theorem R_empty {α : Type} (d : Kd α) (e : Nat) (W : World) (base : Nat) (ok : Nat → Prop) (hb : base ≤ W.heap.size) (hok : ok W.heap.size) :
    d.R e (W.alloc (.cells #[] e)) base ok (.slice (some ⟨W.heap.size, 0, none⟩) 0 0) [] := by
  refine ⟨fun k hk => ?_, [], ?_, Reps.none _ _⟩
  · have : W.heap.size = k := by simpa [Value.ownBlock] using hk
    subst this; exact hok
  · have h2 := World.ownsRow_lit (base := base) (e := e) (size := d.sz) W #[] 0 hb (by simp [maxLen]) (by simp)
    simpa using h2

/-- A row that is read, with the bound that the appending law asks. -/
theorem C_rows {α : Type} {d : Kd α} {w : World} {A : Option Addr} {n : Nat} {xs : List α} (h : d.C w A n xs) : ReadsRow (d.K w) d.sz w A n xs := h

/-- The walk stops where this is refined: 'go_wp2_with (at_builtin; refine park ?_)', then 'refine ⟨?_⟩'. -/
structure Parked (p : Prop) : Prop where out : p
theorem park {p : Prop} (h : Parked p) : p := h.out

theorem nil_of_none {α : Type} {d : Kd α} {w : World} {n : Nat} {xs : List α} (h : d.C w none n xs) : xs = [] := by
  rcases Nat.eq_zero_or_pos n with h0 | h0
  · exact List.eq_nil_of_length_eq_zero (by rw [h.1, h0])
  · obtain ⟨_, hh, _⟩ := h.2.2 h0; cases hh

/-- Blocks made one behind the other. -/
def allocs (w : World) (os : List Obj) : World := os.foldl World.alloc w
theorem allocs_heap (w : World) (os : List Obj) : (allocs w os).heap = w.heap ++ os.toArray := by
  unfold allocs
  induction os generalizing w with
  | nil => simp
  | cons o os ih =>
    rw [List.foldl_cons, ih]
    show w.heap.push o ++ os.toArray = w.heap ++ (o :: os).toArray
    apply Array.ext'
    simp
theorem allocs_at (w : World) (os : List Obj) (i : Nat) (o : Obj) (h : os[i]? = some o) : (allocs w os).heap[w.heap.size + i]? = some o := by
  rw [allocs_heap, Array.getElem?_append_right (Nat.le_add_right _ _)]
  simpa using h
theorem allocs_below (w : World) (os : List Obj) : Below w.heap.size w (allocs w os) := by
  unfold allocs
  suffices ∀ W, Below w.heap.size w W → Below w.heap.size w (os.foldl World.alloc W) from this w (Below.refl _ _)
  induction os with
  | nil => exact fun W h => h
  | cons o os ih => exact fun W h => by rw [List.foldl_cons]; exact ih _ (below_alloc h o)
theorem cell_allocs (w : World) (os : List Obj) (i : Nat) {cs : Array Value} {t : TypeId} (h : os[i]? = some (.cells cs t (0, 0))) (j : Nat) (v : Value) (hv : cs[j]? = some v) :
    (allocs w os).cell? ⟨w.heap.size + i, j, none⟩ = some v := (blk_cell (allocs_at w os i _ h) j).trans hv

theorem Reps.cons_ {α : Type} {R : α → List Value → Prop} {size : Nat} {p : α} {ps : List α} {c cs : List Value} (hp : R p c) (hc : c.length = size) (h : Reps R size ps cs) : Reps R size (p :: ps) (c ++ cs) := by
  refine ⟨by simp [h.1, hc, Nat.add_mul, Nat.add_comm], fun j q hq => ?_⟩
  cases j with
  | zero =>
    simp at hq; subst hq
    simpa [← hc] using hp
  | succ j =>
    have := h.2 j q (by simpa using hq)
    rw [show (j + 1) * size = c.length + j * size by rw [hc, Nat.add_mul]; omega, ← List.drop_drop, List.drop_left]
    exact this
/-- A block whose cells are the elements. -/
theorem C_of_blk {α : Type} (d : Kd α) {W : World} {b e : Nat} {cs : Array Value} {xs : List α} (hb : W.heap[b]? = some (.cells cs e (0, 0))) (hr : Reps (d.K W) d.sz xs cs.toList) (hn : xs.length ≤ 1000) :
    Kd.C d W (some ⟨b, 0, none⟩) xs.length xs := by
  refine ⟨rfl, by omega, fun _ => ⟨_, rfl, fun j p hj => ⟨_, d.K_len (hr.2 j p hj), hr.2 j p hj, fun i u hu => ?_⟩⟩⟩
  rw [add_plain]
  refine (blk_cell hb _).trans ?_
  have h1 : ((cs.toList.drop (j * d.sz)).take d.sz)[i]? = some u := hu
  rw [List.getElem?_take] at h1
  split at h1
  · rw [List.getElem?_drop] at h1
    simpa using h1
  · cases h1
theorem int_reps (W : World) (xs : List Int) : Reps ((Kd.int .i64).K W) 1 xs (xs.map fun x => .int .i64 x) := by
  induction xs with
  | nil => exact Reps.none _ _
  | cons x xs ih => exact Reps.cons_ (c := [.int .i64 x]) rfl rfl ih
theorem int_C {W : World} {b e : Nat} (xs : List Int) {cs : Array Value} (hb : W.heap[b]? = some (.cells cs e (0, 0))) (he : cs.toList = xs.map fun x => .int .i64 x) (hn : xs.length ≤ 1000) : Kd.C (Kd.int .i64) W (some ⟨b, 0, none⟩) xs.length xs :=
  C_of_blk (Kd.int .i64) hb (by rw [he]; exact int_reps W xs) hn
/- Over what only makes: a row, a block as they were. The script is run where the lemma is named. -/
theorem am_ {p : Prop} (h : p) : Aside0 p := ⟨h⟩
section
variable {α : Type} {d : Kd α} {e base : Nat} {ok : Nat → Prop} {w w1 : World} {v : Value} {xs : List α}
theorem vu (h : Kd.V d e w base ok v xs) (hb : Below w.heap.size w w1 := by with_reducible repeat (first | exact Below.refl _ _ | apply below_alloc | apply pw_below_drewN | apply below_drew1)) : Kd.V d e w1 base ok v xs := Kd.V_below h hb
theorem ru (h : Kd.R d e w base ok v xs) (hb : Below w.heap.size w w1 := by with_reducible repeat (first | exact Below.refl _ _ | apply below_alloc | apply pw_below_drewN | apply below_drew1)) : Kd.R d e w1 base ok v xs := Kd.R_below h hb
theorem nu (h : Kd.N d e w base ok v xs) (hb : Below w.heap.size w w1 := by with_reducible repeat (first | exact Below.refl _ _ | apply below_alloc | apply pw_below_drewN | apply below_drew1)) : Kd.N d e w1 base ok v xs := Kd.N_below h hb
theorem su (h : Kd.S d e w base ok v xs) (hb : Below w.heap.size w w1 := by with_reducible repeat (first | exact Below.refl _ _ | apply below_alloc | apply pw_below_drewN | apply below_drew1)) : Kd.S d e w1 base ok v xs := Kd.S_below h hb
theorem hu {i : Int} {oki : Nat → Prop} {c : List Value} (h : Kd.H d e w base ok v xs i oki c) (hb : Below w.heap.size w w1 := by with_reducible repeat (first | exact Below.refl _ _ | apply below_alloc | apply pw_below_drewN | apply below_drew1)) : Kd.H d e w1 base ok v xs i oki c := Kd.H_below h hb
theorem bu {g : Nat} {o : Obj} (h : w.heap[g]? = some o) (hb : Below w.heap.size w w1 := by with_reducible repeat (first | exact Below.refl _ _ | apply below_alloc | apply pw_below_drewN | apply below_drew1)) : w1.heap[g]? = some o := blk_below h hb
end
/-- The cells of a block that is told whole. -/
theorem cf0 {w : World} {g : Nat} {t : TypeId} {a : Value} {l : List Value} (h : w.heap[g]? = some (.cells (a :: l).toArray t (0, 0))) : w.cell? ⟨g, 0, none⟩ = some a := (blk_cell h 0).trans (by simp)
theorem cf1 {w : World} {g : Nat} {t : TypeId} {a b : Value} {l : List Value} (h : w.heap[g]? = some (.cells (a :: b :: l).toArray t (0, 0))) : w.cell? ⟨g, 1, none⟩ = some b := (blk_cell h 1).trans (by simp)
theorem cf2 {w : World} {g : Nat} {t : TypeId} {a b c : Value} {l : List Value} (h : w.heap[g]? = some (.cells (a :: b :: c :: l).toArray t (0, 0))) : w.cell? ⟨g, 2, none⟩ = some c := (blk_cell h 2).trans (by simp)
end Go.Proofs.YtmkchdlkpbnldaaMine
