-- Written by this session's wip/myprint.py (the kit's print.py, with hand-written chunks). Lean checks it.
import Derived.Test.YtefkbmhkhpekjaaPAx0
import Derived.Test.YtefkbmhkhpekjaaPAx28
import Derived.Test.YtefkbmhkhpekjaaPAx29
import Derived.Test.YtefkbmhkhpekjaaPAx32
import Derived.Test.YtefkbmhkhpekjaaPAx33
import Derived.Test.YtefkbmhkhpekjaaPAx34
import Derived.Test.YtefkbmhkhpekjaaPAx80
namespace Go.Proofs.Ytefkbmhkhpekjaa.PA
open Go.RowKit Go.Proofs.YtefkbmhkhpekjaaW.PrintWords Go.Proofs.YtefkbmhkhpekjaaW.PrintLast Go.Proofs.YtefkbmhkhpekjaaW.PrintMore
attribute [local go_sem] max2_int min2_int max_two min_two max_three min_three max_four min_four   -- for this text's walks alone
open Go.Proofs.YtefkbmhkhpekjaaMine
set_option linter.unusedVariables false
set_option linter.unusedSimpArgs false

/-! ### laws_FnExactShapeOf: function 5 -/
set_option maxRecDepth 100000 in
set_option maxHeartbeats 8000000 in
theorem laws_FnExactShapeOf.calls (k : Nat) (s h : Int) (x x' x2 : List (List S85)) (b : Bool) (m : Int) (w : World) (H1 : spec_ShapeOf.f k s h = some (x, b)) (H2 : impl_ShapeOf.f s h = some (x', b)) (H3 : laws_eqProg.f k x' x = some true) (H4 : laws_markDoSS.f k x' 1 = some (m, x2)) (H5 : laws_heldProg.f k x2 1 = some m) (hm : 0 ≤ m) :
    Calls Try.prog 5 #[.int .i64 s, .int .i64 h] w fun e w' => e = .returned (.bool true) ∧ Below w.heap.size w w' := by
  have A1 := Aside0.mk H1
  have A2 := Aside0.mk H2
  have A3 := Aside0.mk H3
  have A4 := Aside0.mk H4
  have A5 := Aside0.mk H5
  clear H1 H2 H3 H4 H5
  go_enter Try.func5, Try.ntmps5
  go_wp2_with (go_at_call 28; refine park ?_)
  refine ⟨?_⟩
  refine (spec_ShapeOf.calls k s h x b _ A1.out).mono ?_
  rintro e w1 ⟨v1, rfl, hN, hb⟩
  obtain ⟨Aw, cw, rfl⟩ := Kd.N_slice hN
  have HN1 := Aside0.mk hN
  have HB1 := Aside0.mk hb
  clear hN hb
  go_wp2_with (go_at_call 29; refine park ?_)
  refine ⟨?_⟩
  have BK1 := Aside0.mk (heap_alloc_new w1 (Obj.cells #[Value.slice Aw x.length cw] 35))
  have HBa := Aside0.mk (below_alloc HB1.out (Obj.cells #[Value.slice Aw x.length cw] 35))
  have HNa := Aside0.mk (Kd.N_alloc (Kd.N_bound HN1.out) (Obj.cells #[Value.slice Aw x.length cw] 35))
  have SZ1 := Aside0.mk (World.size_alloc w1 (Obj.cells #[Value.slice Aw x.length cw] 35))
  clear HB1 HN1
  refine (impl_ShapeOf.callsS s h x' b _ A2.out).mono ?_
  rintro e w2 ⟨v2, rfl, hS, hb⟩
  obtain ⟨Ag, cg, rfl⟩ := Kd.S_slice hS
  have HB2 := Aside0.mk (below_then HBa.out HBa.out.size hb)
  have HN2 := Aside0.mk (Kd.N_below HNa.out hb)
  have BK2 := Aside0.mk (blk_below BK1.out hb)
  have HS2 := Aside0.mk (Kd.S_lower (Kd.S_mono (ok' := fun k => w1.heap.size < k ∧ k < w2.heap.size) (Kd.S_bound hS) (fun k hk => by have := hk.2.1; have := hk.2.2.1; have := SZ1.out; omega)) HBa.out.size)
  have LT2 := Aside0.mk (show w1.heap.size < w2.heap.size by have := hb.size; have := SZ1.out; omega)
  clear hS hb HBa HNa BK1 SZ1
  have hc1 : (w2.alloc (Obj.cells #[Value.slice Ag x'.length cg] 35)).cell? ⟨w1.heap.size, 0, none⟩ = some (.slice Aw x.length cw) := (blk_cell (blk_alloc BK2.out _) 0).trans rfl
  go_wp2_with (go_at_call 32; refine park ?_)
  clear hc1
  refine ⟨?_⟩
  have BG2 := Aside0.mk (heap_alloc_new w2 (Obj.cells #[Value.slice Ag x'.length cg] 35))
  have BK2a := Aside0.mk (blk_alloc BK2.out (Obj.cells #[Value.slice Ag x'.length cg] 35))
  have HB2a := Aside0.mk (below_alloc HB2.out (Obj.cells #[Value.slice Ag x'.length cg] 35))
  have HN2a := Aside0.mk (Kd.N_alloc HN2.out (Obj.cells #[Value.slice Ag x'.length cg] 35))
  have HS2a := Aside0.mk (Kd.S_alloc HS2.out (Obj.cells #[Value.slice Ag x'.length cg] 35))
  clear BK2 HB2 HN2 HS2
  refine (laws_eqProg.calls k Ag cg x' Aw cw x true _ (Kd.R_reads' (Kd.S_R HS2a.out)).2.2 (Kd.R_reads' (Kd.S_R HS2a.out)).2.1 (Kd.N_reads' HN2a.out).2.2 (Kd.N_reads' HN2a.out).2.1 A3.out).mono ?_
  rintro e w3 ⟨rfl, hb⟩
  have HB3 := Aside0.mk (below_then HB2a.out HB2a.out.size hb)
  have HN3 := Aside0.mk (Kd.N_below HN2a.out hb)
  have HS3 := Aside0.mk (Kd.S_below HS2a.out hb)
  have BK3 := Aside0.mk (blk_below BK2a.out hb)
  have BG3 := Aside0.mk (blk_below BG2.out hb)
  clear hb HB2a HN2a HS2a BK2a BG2
  have hc2 : w3.cell? ⟨w2.heap.size, 0, none⟩ = some (.slice Ag x'.length cg) := (blk_cell BG3.out 0).trans rfl
  go_wp2_with (go_at_call 33; refine park ?_)
  clear hc2
  refine ⟨?_⟩
  refine (laws_markProg.calls k (fun k => w1.heap.size < k ∧ k < w2.heap.size) _ x' 1 m x2 w _ HB3.out HS3.out A4.out).mono ?_
  rintro e w4 ⟨rfl, hS, hb, hk⟩
  have HB4 := Aside0.mk hb
  have HS4 := Aside0.mk hS
  have HN4 := Aside0.mk (Kd.N_kept HN3.out hk (fun k h h2 => by have := h.2; have := h2.1; omega))
  have BK4 := Aside0.mk (blk_kept BK3.out hk (fun h => by have := h.1; omega))
  have BG4 := Aside0.mk (blk_kept BG3.out hk (fun h => by have := h.2; omega))
  have LT4 := Aside0.mk (show w2.heap.size < w4.heap.size from blk_lt BG4.out)
  clear hS hb hk HB3 HS3 HN3 BK3 BG3
  have hc3 : w4.cell? ⟨w2.heap.size, 0, none⟩ = some (.slice Ag x'.length cg) := (blk_cell BG4.out 0).trans rfl
  go_wp2_with (go_at_call 34; refine park ?_)
  clear hc3
  refine ⟨?_⟩
  have hcall := laws_heldProg.calls k Ag cg x2 1 m _ (Kd.R_reads' (Kd.S_R HS4.out)).2.2 (by have h1 := (Kd.R_reads' (Kd.S_R HS4.out)).1; have h2 := (Kd.R_reads' (Kd.S_R HS4.out)).2.1; omega) A5.out
  rw [← (Kd.R_reads' (Kd.S_R HS4.out)).1] at hcall
  refine hcall.mono ?_
  rintro e w5 ⟨rfl, hb⟩
  clear hcall
  have HB5 := Aside0.mk (below_then HB4.out HB4.out.size hb)
  have HN5 := Aside0.mk (Kd.N_below HN4.out hb)
  have HS5 := Aside0.mk (Kd.S_below HS4.out hb)
  have BK5 := Aside0.mk (blk_below BK4.out hb)
  have BG5 := Aside0.mk (blk_below BG4.out hb)
  have hm0 : ¬ m < 0 := by omega
  clear hb HB4 HN4 HS4 BK4 BG4
  go_wp2_with (go_at_call 29; refine park ?_)
  refine ⟨?_⟩
  refine (impl_ShapeOf.calls s h x' b _ A2.out).mono ?_
  rintro e w6 ⟨v3, rfl, hN, hb⟩
  obtain ⟨Ah, ch, rfl⟩ := Kd.N_slice hN
  have HB6 := Aside0.mk (below_then HB5.out HB5.out.size hb)
  have HN6 := Aside0.mk (Kd.N_below HN5.out hb)
  have HS6 := Aside0.mk (Kd.S_below HS5.out hb)
  have HH6 := Aside0.mk hN
  have BK6 := Aside0.mk (blk_below BK5.out hb)
  have BG6 := Aside0.mk (blk_below BG5.out hb)
  clear hN hb HB5 HN5 HS5 BK5 BG5
  have hc4 : (w6.alloc (Obj.cells #[Value.slice Ah x'.length ch] 35)).cell? ⟨w1.heap.size, 0, none⟩ = some (.slice Aw x.length cw) := (blk_cell (blk_alloc BK6.out _) 0).trans rfl
  go_wp2_with (go_at_call 32; refine park ?_)
  clear hc4
  refine ⟨?_⟩
  have BG7 := Aside0.mk (blk_alloc BG6.out (Obj.cells #[Value.slice Ah x'.length ch] 35))
  have HB7 := Aside0.mk (below_alloc HB6.out (Obj.cells #[Value.slice Ah x'.length ch] 35))
  have HN7 := Aside0.mk (Kd.N_alloc HN6.out (Obj.cells #[Value.slice Ah x'.length ch] 35))
  have HS7 := Aside0.mk (Kd.S_alloc HS6.out (Obj.cells #[Value.slice Ah x'.length ch] 35))
  have HH7 := Aside0.mk (Kd.N_alloc HH6.out (Obj.cells #[Value.slice Ah x'.length ch] 35))
  clear BG6 HB6 HN6 HS6 HH6 BK6
  refine (laws_eqProg.calls k Ah ch x' Aw cw x true _ (Kd.N_reads' HH7.out).2.2 (Kd.N_reads' HH7.out).2.1 (Kd.N_reads' HN7.out).2.2 (Kd.N_reads' HN7.out).2.1 A3.out).mono ?_
  rintro e w8 ⟨rfl, hb⟩
  have HB8 := Aside0.mk (below_then HB7.out HB7.out.size hb)
  have HS8 := Aside0.mk (Kd.S_below HS7.out hb)
  have BG8 := Aside0.mk (blk_below BG7.out hb)
  clear hb HB7 HN7 HS7 HH7 BG7
  have hc5 : w8.cell? ⟨w2.heap.size, 0, none⟩ = some (.slice Ag x'.length cg) := (blk_cell BG8.out 0).trans rfl
  go_wp2_with (go_at_call 34; refine park ?_)
  clear hc5
  refine ⟨?_⟩
  have hcall := laws_heldProg.calls k Ag cg x2 1 m _ (Kd.R_reads' (Kd.S_R HS8.out)).2.2 (by have h1 := (Kd.R_reads' (Kd.S_R HS8.out)).1; have h2 := (Kd.R_reads' (Kd.S_R HS8.out)).2.1; omega) A5.out
  rw [← (Kd.R_reads' (Kd.S_R HS8.out)).1] at hcall
  refine hcall.mono ?_
  rintro e w9 ⟨rfl, hb⟩
  clear hcall
  have HB9 := Aside0.mk (below_then HB8.out HB8.out.size hb)
  clear hb HB8 HS8 BG8
  go_wp2_with fail
  go_ret
  exact ⟨rfl, HB9.out⟩
/-- THE ONE PURE STATEMENT. -/
def laws_FnExactShapeOf.Pure : Prop := ∀ (s h : Int), (Lit.int .i64 s).wf = true → (Lit.int .i64 h).wf = true → ∃ k x x' x2 b m, spec_ShapeOf.f k s h = some (x, b) ∧ impl_ShapeOf.f s h = some (x', b) ∧ laws_eqProg.f k x' x = some true ∧ laws_markDoSS.f k x' 1 = some (m, x2) ∧ laws_heldProg.f k x2 1 = some m ∧ 0 ≤ m
theorem laws_FnExactShapeOf.walk (P : laws_FnExactShapeOf.Pure) (a0 : Int) (a1 : Int) (w : World) (w0 : (Lit.int .i64 a0).wf = true) (w1 : (Lit.int .i64 a1).wf = true) :
    Calls Try.prog 5 #[.int .i64 a0, .int .i64 a1] w fun e w' => e = .returned (.bool true) ∧ Below w.heap.size w w' := by
  obtain ⟨k, x, x', x2, b, m, H1, H2, H3, H4, H5, hm⟩ := P a0 a1 w0 w1
  exact laws_FnExactShapeOf.calls k a0 a1 x x' x2 b m w H1 H2 H3 H4 H5 hm


end Go.Proofs.Ytefkbmhkhpekjaa.PA
