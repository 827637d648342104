/- What the laws share, part SeenOrd: SeenOrd. -/
import Derived.Test.YtmkchdlkpbnldaaGreatDoorG32
import Derived.Test.YtmkchdlkpbnldaaGreatDoorG23
import Derived.Test.YtmkchdlkpbnldaaGreatDoorGSortLay
import Derived.Shelf.SlSortCmp.NoneTotal
namespace Go.Proofs.YtmkchdlkpbnldaaGreatDoor.PB
open Go.RowKit Go.Proofs.YtmkchdlkpbnldaaGreatDoorW.PrintWords Go.Proofs.YtmkchdlkpbnldaaGreatDoorW.PrintLast Go.Proofs.YtmkchdlkpbnldaaGreatDoorW.PrintMore
open Go.Proofs.YtmkchdlkpbnldaaGreatDoorMine Go.Sort Go.Lib
set_option linter.unusedVariables false
set_option linter.unusedSimpArgs false
theorem cmpL_self : ∀ a : List Int, cmpL a a = 0
  | [] => rfl
  | a :: xs => by simp only [cmpL]; rw [if_neg (by omega), if_neg (by omega)]; exact cmpL_self xs
theorem cmpL_eq : ∀ {a b : List Int}, cmpL a b = 0 → a = b
  | [], [], _ => rfl
  | [], _ :: _, h => by simp [cmpL] at h
  | _ :: _, [], h => by simp [cmpL] at h
  | a :: xs, b :: ys, h => by
    simp only [cmpL] at h
    split at h
    · omega
    · split at h
      · omega
      · rw [cmpL_eq h, show a = b by omega]
theorem cmpL_neg : ∀ a b : List Int, cmpL b a = - cmpL a b
  | [], [] => rfl
  | [], _ :: _ => rfl
  | _ :: _, [] => rfl
  | a :: xs, b :: ys => by
    simp only [cmpL]
    by_cases h1 : a < b
    · rw [if_pos h1, if_neg (by omega), if_pos h1]; rfl
    · by_cases h2 : b < a
      · simp [h1, h2]
      · rw [if_neg h1, if_neg h2, if_neg h1, if_neg h2]; exact cmpL_neg xs ys
theorem cmpL_trans : ∀ {a b c : List Int}, cmpL a b < 0 → cmpL b c < 0 → cmpL a c < 0
  | [], _, _ :: _, _, _ => by simp [cmpL]
  | [], [], [], h, _ => by simp [cmpL] at h
  | [], _ :: _, [], _, h => by simp [cmpL] at h
  | _ :: _, [], _, h, _ => by simp [cmpL] at h
  | _ :: _, _ :: _, [], _, h => by simp [cmpL] at h
  | a :: xs, b :: ys, c :: zs, h1, h2 => by
    simp only [cmpL] at h1 h2 ⊢
    by_cases p1 : a < b
    · by_cases p2 : b < c
      · rw [if_pos (by omega)]; omega
      · rw [if_neg p2] at h2
        by_cases p3 : c < b
        · rw [if_pos p3] at h2; omega
        · rw [if_pos (by omega)]; omega
    · rw [if_neg p1] at h1
      by_cases p4 : b < a
      · rw [if_pos p4] at h1; omega
      · rw [if_neg p4] at h1
        by_cases p2 : b < c
        · rw [if_pos (by omega)]; omega
        · rw [if_neg p2] at h2
          by_cases p3 : c < b
          · rw [if_pos p3] at h2; omega
          · rw [if_neg p3] at h2
            rw [if_neg (by omega), if_neg (by omega)]
            exact cmpL_trans h1 h2
def cmpX (x y : S35) : Int := cmpS x.f0 x.f1 y.f0 y.f1
theorem cmpX_self (x : S35) : cmpX x x = 0 := by unfold cmpX cmpS; rw [if_pos (cmpL_self _), cmpL_self]
theorem cmpX_eq {x y : S35} (h : cmpX x y = 0) : x = y := by
  unfold cmpX cmpS at h
  split at h
  · rename_i h1
    have := cmpL_eq h1; have := cmpL_eq h
    cases x; cases y; simp_all
  · omega
theorem cmpX_neg (x y : S35) : cmpX y x = - cmpX x y := by
  unfold cmpX cmpS
  rw [cmpL_neg x.f0 y.f0, cmpL_neg x.f1 y.f1]
  by_cases h : cmpL x.f0 y.f0 = 0
  · rw [if_pos (by omega), if_pos h]
  · rw [if_neg (by omega), if_neg h]
theorem cmpX_trans {x y z : S35} (h1 : cmpX x y < 0) (h2 : cmpX y z < 0) : cmpX x z < 0 := by
  unfold cmpX cmpS at *
  by_cases p : cmpL x.f0 y.f0 = 0
  · rw [if_pos p] at h1
    have e := cmpL_eq p
    rw [e]
    by_cases q : cmpL y.f0 z.f0 = 0
    · rw [if_pos q] at h2 ⊢; exact cmpL_trans h1 h2
    · rw [if_neg q] at h2 ⊢; exact h2
  · rw [if_neg p] at h1
    by_cases q : cmpL y.f0 z.f0 = 0
    · have e := cmpL_eq q
      rw [← e, if_neg p]; exact h1
    · rw [if_neg q] at h2
      have := cmpL_trans h1 h2
      rw [if_neg (by omega)]; exact this
theorem hcells_get : ∀ (zs : List Hd) (t : Nat), (hcells zs)[t]? = (zs[t / 2]?).bind fun x => x.cells[t % 2]?
  | [], t => by simp [hcells]
  | x :: xs, 0 => rfl
  | x :: xs, 1 => rfl
  | x :: xs, t + 2 => by
    rw [show (t + 2) / 2 = t / 2 + 1 by omega, show (t + 2) % 2 = t % 2 by omega, List.getElem?_cons_succ, ← hcells_get xs t]
    rfl
theorem flat_hcells {α : Type} [Inhabited α] (f : α → Hd) (d : Array α) : flatK (fun x => (f x).cells) 2 d = (hcells (d.toList.map f)).toArray := by
  apply Array.ext'
  apply List.ext_getElem?
  intro t
  rw [List.toList_toArray, hcells_get]
  by_cases h : t < d.size * 2
  · have h2 : t / 2 < d.size := by omega
    have e := get_flatK (fun x => (f x).cells) 2 d t h
    rw [Array.getElem?_toList, Array.getElem?_eq_getElem (by simpa using h)]
    rw [getElem!_pos _ t (by simpa using h)] at e
    rw [e, getElem!_pos d (t / 2) h2]
    simp only [List.getElem?_map, Array.getElem?_toList, Array.getElem?_eq_getElem h2, Option.map_some, Option.bind_some]
    have h3 : t % 2 < ((f d[t / 2]).cells).length := by simp [Hd.cells]; omega
    rw [getElem!_pos (f d[t / 2]).cells (t % 2) h3, List.getElem?_eq_getElem h3]
  · rw [List.getElem?_eq_none (by simp; omega), List.getElem?_eq_none (by simp; omega)]; rfl
theorem holds_of_blockV {w : World} {g : Nat} {cur : Array Value} {e : TypeId} {ss : List Value} (hb : w.heap[g]? = some (.cells cur e (0, 0))) (ht : cur.toList.take ss.length = ss) : Holds id w g 0 ss.toArray := by
  intro j hj
  have hj' : j < ss.length := by simpa using hj
  refine ⟨?_, by simp [World.frozen?, hb]⟩
  have h1 : (cur.toList.take ss.length)[j]? = ss[j]? := by rw [ht]
  rw [List.getElem?_take_of_lt hj'] at h1
  simp only [World.cell?, hb, Nat.zero_add]
  simp only [Option.isSome_none, Bool.false_eq_true, if_false]
  rw [← Array.getElem?_toList, h1]
  simp [hj']
theorem heap_sortedV {w : World} {g n : Nat} {os : Array Obj} {cur : Array Value} {e : TypeId} {fr : Nat × Nat} (d : Array Value) (hb : w.heap[g]? = some (.cells cur e fr)) :
    (grow (putRow id (Sort.ahead w n) g 0 d) os).heap[g]? = some (.cells (putCells id 0 d cur) e fr) := by
  have hg : g < w.heap.size := (Array.getElem?_eq_some_iff.1 hb).1
  rw [heap_grow_old _ _ (by simpa using hg)]
  simp [putRow, mapBlock, Sort.ahead, Array.getElem?_modify, hb, onCells]
theorem grownBy_sortedV {w : World} {g n : Nat} {os : Array Obj} (d : Array Value) : w.grownBy (grow (putRow id (Sort.ahead w n) g 0 d) os) (some g) := by
  refine ⟨rfl, rfl, rfl, by simp, fun k hk hne => ?_⟩
  rw [heap_grow_old _ _ (by simpa using hk)]
  have : g ≠ k := fun e => hne (by rw [e])
  simp [putRow, mapBlock, Sort.ahead, Array.getElem?_modify, this]
theorem take_putCellsV (cur : Array Value) (ts : List Value) (h : ts.length ≤ cur.size) : (putCells id 0 ts.toArray cur).toList.take ts.length = ts := by
  apply List.ext_getElem?
  intro j
  by_cases hj : j < ts.length
  · rw [List.getElem?_take_of_lt hj, Array.getElem?_toList]
    simp [putCells, hj, show j < cur.size by omega]
  · rw [List.getElem?_take_eq_none (by omega), List.getElem?_eq_none (by omega)]
end Go.Proofs.YtmkchdlkpbnldaaGreatDoor.PB
