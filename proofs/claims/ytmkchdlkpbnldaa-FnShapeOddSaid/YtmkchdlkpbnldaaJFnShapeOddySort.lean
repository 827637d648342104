/- slices.Sort of a short row (insertion), slices.Sorted(slices.Values(row)). -/
import Derived.Test.YtmkchdlkpbnldaaSorted
import Derived.Test.YtmkchdlkpbnldaaJFnShapeOddx1
import Derived.Test.YtmkchdlkpbnldaaLen
import Derived.CallsIn
namespace Go.Proofs.Ytmkchdlkpbnldaa.PB
open Go.RowKit Go.Proofs.YtmkchdlkpbnldaaW.PrintWords Go.Proofs.YtmkchdlkpbnldaaW.PrintLast Go.Proofs.YtmkchdlkpbnldaaW.PrintMore Go.Proofs.YtmkchdlkpbnldaaMine Go.Shelf
set_option linter.unusedVariables false
set_option linter.unusedSimpArgs false
set_option maxRecDepth 100000 in
set_option maxHeartbeats 2000000 in
theorem pdq_small (k : Nat) (P0 : Nat → Prop) (u : Value) (l r : List Int) (lim : Int) (w0 w : World) (hB : Below w0.heap.size w0 w) (ho : Kd.R (Kd.int .i64) 3 w w0.heap.size P0 u l) (hl : l.length ≤ 12) (h : slices_insertionSortOrdered_int.f k l 0 l.length = some r) :
    Calls Try.prog 61 #[u, .int .i64 0, .int .i64 l.length, .int .i64 lim] w fun e w' => e = .returned (.tuple #[]) ∧ Kd.R (Kd.int .i64) 3 w' w0.heap.size (fun k => P0 k ∨ w.heap.size ≤ k) u r ∧ Below w0.heap.size w0 w' ∧ Kept w w' P0 := by
  have HB := am_ hB
  have HO := am_ ho
  have HH := am_ h
  have hd : decide ((l.length : Int) ≤ 12) = true := decide_eq_true (by omega)
  clear hB ho h
  go_enter Try.func61, Try.ntmps61
  go_wp2_with fail
  refine wp_loop_rounds 1 ?_
  rw [rounds_succ]
  go_wp2_with (go_at_call 63; refine park ?_)
  refine ⟨?_⟩
  refine (slices_insertionSortOrdered_int.calls k P0 u l 0 l.length r w0 w HB.out HO.out HH.out).mono ?_
  rintro e w' ⟨rfl, ho, hb, hk⟩
  go_wp2_with fail
  refine bodyPost_ret (results_none rfl _ _ _) rfl ?_
  exact ⟨rfl, ho, hb, hk⟩
set_option maxRecDepth 100000 in
set_option maxHeartbeats 2000000 in
theorem sort_small (k : Nat) (P0 : Nat → Prop) (u : Value) (l r : List Int) (w0 w : World) (hB : Below w0.heap.size w0 w) (ho : Kd.R (Kd.int .i64) 3 w w0.heap.size P0 u l) (hl : l.length ≤ 12) (h : slices_insertionSortOrdered_int.f k l 0 l.length = some r) :
    Calls Try.prog 58 #[u] w fun e w' => e = .returned (.tuple #[]) ∧ Kd.R (Kd.int .i64) 3 w' w0.heap.size (fun k => P0 k ∨ w.heap.size ≤ k) u r ∧ Below w0.heap.size w0 w' ∧ Kept w w' P0 := by
  obtain ⟨A, c, rfl⟩ := Kd.R_slice ho
  have HB := am_ hB
  have HO := am_ ho
  have HH := am_ h
  clear hB ho h
  go_enter Try.func58, Try.ntmps58
  go_wp2_with (go_at_call 62; refine park ?_)
  refine ⟨?_⟩
  refine (len_small l.length (by omega) (by omega) w).mono ?_
  rintro e w' ⟨lim, rfl, hv0, hv1, rfl⟩
  go_wp2_with (go_at_call 61; refine park ?_)
  refine ⟨?_⟩
  refine (pdq_small k P0 _ l r lim w0 w' HB.out HO.out hl HH.out).mono ?_
  rintro e w2 ⟨rfl, ho, hb, hk⟩
  go_wp2_with fail
  first | go_end0 | refine bodyPost_ret (results_none rfl _ _ _) rfl ?_
  exact ⟨rfl, ho, hb, hk⟩
/-- slices.Sorted(slices.Values(row)): a sorted row of one's own. -/
theorem row_own {w : World} {base : Nat} {v : Value} {zs : List Int} (h : w.ownsRow base 3 1 v zs.length (zs.map (Value.int .i64))) : Kd.R (Kd.int .i64) 3 w base (fun _ => True) v zs := by
  exact Kd.R_of_own h (fun _ _ => trivial)
set_option maxRecDepth 100000 in
set_option maxHeartbeats 2000000 in
theorem collect_holds (zs : List Int) (hlen : zs.length ≤ 1000000) (w : World) (Bs : Nat) (sv : Value) (hBs : Bs < w.heap.size) (hsv : w.cell? ⟨Bs, 0, none⟩ = some sv) (hI : IntsAt w.heap.size w sv zs) :
    Calls Try.prog 57 #[.func (.func 59) #[] #[.pointer (some ⟨Bs, 0, none⟩)]] w fun e W' => ∃ v, e = .returned v ∧ Kd.R (Kd.int .i64) 3 W' w.heap.size (fun _ => True) v zs ∧ Below w.heap.size w W' := by
  have hA := callsIn_wide.1 (append_in Fence.wide 3 trivial trivial rfl (by omega) zs hlen w Bs sv hBs hsv hI)
  go_enter Try.func57, Try.ntmps57
  go_wp2_with (go_at_call 60; refine park ?_)
  refine ⟨?_⟩
  refine hA.mono ?_
  rintro e w' ⟨v, rfl, ho, hb⟩
  go_wp2_with fail
  go_ret
  exact ⟨v, rfl, row_own ho, hb⟩
set_option maxRecDepth 100000 in
set_option maxHeartbeats 2000000 in
theorem sorted_holds (k : Nat) (zs r : List Int) (hlen : zs.length ≤ 12) (h : slices_insertionSortOrdered_int.f k zs 0 zs.length = some r) (w : World) (Bs : Nat) (sv : Value) (hBs : Bs < w.heap.size) (hsv : w.cell? ⟨Bs, 0, none⟩ = some sv) (hI : IntsAt w.heap.size w sv zs) :
    Calls Try.prog 54 #[.func (.func 59) #[] #[.pointer (some ⟨Bs, 0, none⟩)]] w fun e W' => ∃ v, e = .returned v ∧ Kd.R (Kd.int .i64) 3 W' w.heap.size (fun _ => True) v r ∧ Below w.heap.size w W' := by
  go_enter Try.func54, Try.ntmps54
  go_wp2_with (go_at_call 57; refine park ?_)
  refine ⟨?_⟩
  refine (collect_holds zs (by omega) w Bs sv hBs hsv hI).mono ?_
  rintro e w' ⟨v, rfl, ho, hb⟩
  go_wp2_with (go_at_call 58; refine park ?_)
  refine ⟨?_⟩
  refine (sort_small k (fun _ => True) v zs r w w' hb ho hlen h).mono ?_
  rintro e w2 ⟨rfl, ho2, hb2, hk2⟩
  go_wp2_with fail
  go_ret
  exact ⟨v, rfl, Kd.R_mono ho2 (fun _ _ => trivial), hb2⟩
/-- The pure side of Sorted(Values(row)): the printed insertion sort, of a short row. -/
def sorted_int.f (k : Nat) (zs : List Int) : Option (List Int) := if zs.length ≤ 12 then slices_insertionSortOrdered_int.f k zs 0 zs.length else none
theorem sorted_int.mono (zs : List Int) (k : Nat) : LeO (sorted_int.f k zs) (sorted_int.f (k + 1) zs) := by
  unfold sorted_int.f
  split
  · exact slices_insertionSortOrdered_int.mono _ _ _ _
  · exact LeO.none _
theorem sorted_int.calls (k : Nat) (zs r : List Int) (w : World) (Bs : Nat) (sv : Value) (hBs : Bs < w.heap.size) (hsv : w.cell? ⟨Bs, 0, none⟩ = some sv) (hI : IntsAt w.heap.size w sv zs) (h : sorted_int.f k zs = some r) :
    Calls Try.prog 54 #[.func (.func 59) #[] #[.pointer (some ⟨Bs, 0, none⟩)]] w fun e W' => ∃ v, e = .returned v ∧ Kd.R (Kd.int .i64) 3 W' w.heap.size (fun _ => True) v r ∧ Below w.heap.size w W' := by
  unfold sorted_int.f at h
  split at h
  · rename_i hl
    exact sorted_holds k zs r hl h w Bs sv hBs hsv hI
  · cases h
theorem ints_of_C {w : World} {A : Option Addr} {zs : List Int} {c : Nat} (h : Kd.C (Kd.int .i64) w A zs.length zs) : IntsAt w.heap.size w (.slice A zs.length c) zs := by
  refine ⟨A, c, rfl, fun hz => ?_⟩
  obtain ⟨ad, e, hc⟩ := h.2.2 hz
  have hcell : ∀ j, j < zs.length → w.cell? (ad.add j) = some (.int .i64 (zs[j]?.getD 0)) := by
    intro j hj
    obtain ⟨cs, hs, hr, hcc⟩ := hc j _ (List.getElem?_eq_getElem hj)
    have hr' : cs = [Value.int .i64 zs[j]] := hr
    subst hr'
    have := hcc 0 _ rfl
    rw [show j * (Kd.int .i64).sz + 0 = j by show j * 1 + 0 = j; omega] at this
    rw [this, List.getElem?_eq_getElem hj]; rfl
  exact ⟨ad, e, by have := World.block_lt_of_cell? w _ (hcell 0 hz); rwa [Go.Proofs.YtmkchdlkpbnldaaW.PrintWords.add_block] at this, hcell⟩
set_option maxRecDepth 100000 in
set_option maxHeartbeats 2000000 in
theorem values_holds (A : Option Addr) (c : Nat) (zs : List Int) (w : World) (h : Kd.C (Kd.int .i64) w A zs.length zs) :
    Calls Try.prog 55 #[.slice A zs.length c] w fun e w' => ∃ B, e = .returned (.func (.func 59) #[] #[.pointer (some ⟨B, 0, none⟩)]) ∧ B < w'.heap.size ∧ w'.cell? ⟨B, 0, none⟩ = some (.slice A zs.length c) ∧ IntsAt w'.heap.size w' (.slice A zs.length c) zs ∧ Below w.heap.size w w' := by
  have hI := am_ (ints_of_C (c := c) h)
  have hI2 := am_ (ints_of_C (c := c) (Kd.C_alloc h (.cells #[.slice A zs.length c] 24)))
  clear h
  go_enter Try.func55, Try.ntmps55
  go_wp2_with fail
  go_ret
  refine ⟨w.heap.size, rfl, by simp, ?_, hI2.out, below_alloc (Below.refl _ _) _⟩
  exact (Boxed.new w 24 (.slice A zs.length c)).cell
end Go.Proofs.Ytmkchdlkpbnldaa.PB
