-- Joined by wip/mclaim.py out of YtefkbmhkhpekjaaPBx82, YtefkbmhkhpekjaaPBx35, YtefkbmhkhpekjaaPBx6
import Derived.Test.YtefkbmhkhpekjaaPBx0
import Derived.Test.YtefkbmhkhpekjaaPBx90
import Derived.Test.YtefkbmhkhpekjaaPBx31
import Derived.Maps.OwnSet
import Derived.Test.YtefkbmhkhpekjaaPBx27
import Derived.Test.YtefkbmhkhpekjaaPBx28
import Derived.Test.YtefkbmhkhpekjaaPBx29
import Derived.Test.YtefkbmhkhpekjaaPBx30
namespace Go.Proofs.Ytefkbmhkhpekjaa.PB
open Go.RowKit Go.Proofs.YtefkbmhkhpekjaaW.PrintWords Go.Proofs.YtefkbmhkhpekjaaW.PrintLast Go.Proofs.YtefkbmhkhpekjaaW.PrintMore
attribute [local go_sem] max2_int min2_int max_two min_two max_three min_three max_four min_four   -- for this text's walks alone
open Go.Proofs.YtefkbmhkhpekjaaMine
set_option linter.unusedVariables false
set_option linter.unusedSimpArgs false

/-! ### impl_Prog_each: function 82 -/
def mapO {α β : Type} (F : α → Option β) : List α → Option (List β)
  | [] => some []
  | x :: xs => (F x).bind fun y => (mapO F xs).bind fun ys => some (y :: ys)
set_option maxRecDepth 100000 in
set_option maxHeartbeats 8000000 in
theorem each83 (k : Nat) (F : S85 → Option S85) (cv : Value) (A : Option Addr) (c : Nat) (l cl r : List (List S85)) (w : World) (hC : Kd.C (Kd.slice 85 k85) w A l.length l) (hc : l.length ≤ c)
    (hcl : ∀ (W : World) (d r : S85), Below w.heap.size w W → F d = some r → Calls Try.prog 83 #[.agg #[.int .i64 d.f0, .int .i64 d.f1, .int .i64 d.f2], cv] W fun e W' => e = .returned (.agg #[.int .i64 r.f0, .int .i64 r.f1, .int .i64 r.f2]) ∧ Below W.heap.size W W')
    (h1 : impl_Prog_copied.f k l = some cl) (h2 : mapO (mapO F) cl = some r) :
    Calls Try.prog 82 #[.agg #[.slice A l.length c], .func (.func 83) #[] #[cv]] w fun e w' => ∃ v_ : Value, e = .returned (.agg #[v_]) ∧ Kd.S (Kd.slice 85 k85) 82 w' w.heap.size (fun _ => True) v_ r ∧ Below w.heap.size w w' := by
  have HC := Aside0.mk hC
  have HF := Aside0.mk hcl
  have H1 := Aside0.mk h1
  have H2 := Aside0.mk h2
  clear hC hcl h1 h2
  go_enter Try.func82, Try.ntmps82
  go_wp2_with (go_at_call 90; refine park ?_)
  refine ⟨?_⟩
  have BR0 := Aside0.mk (heap_alloc_new (w.alloc (Obj.cells #[Value.slice A l.length c] 35)) (Obj.cells #[Value.slice none 0 0] 35))
  refine (impl_Prog_copied.calls k A c l cl _ (Kd.C_alloc (Kd.C_alloc HC.out _) _) hc H1.out).mono ?_
  rintro e w1 ⟨v0, rfl, hS, hb⟩
  obtain ⟨Av, cv0, rfl⟩ := Kd.S_slice hS
  have SZ : ((w.alloc (Obj.cells #[Value.slice A l.length c] 35)).alloc (Obj.cells #[Value.slice none 0 0] 35)).heap.size = w.heap.size + 2 := by rw [World.size_alloc, World.size_alloc]
  rw [World.size_alloc] at BR0
  have hcl : cl.length ≤ 9223372036854775807 := (Kd.R_reads' (Kd.S_R hS)).2.2.2.1
  have HB1 := Aside0.mk (below_then (below_alloc (below_alloc (Below.refl w.heap.size w) _) _) (below_alloc (below_alloc (Below.refl w.heap.size w) _) _).size hb)
  have BR1 := Aside0.mk (blk_below BR0.out hb)
  have hS2 := Kd.S_bound hS
  rw [SZ] at hS2
  have HS1 := Aside0.mk (Kd.S_lower (Kd.S_mono (ok' := fun k => w.heap.size + 2 ≤ k ∧ k < w1.heap.size) hS2 (fun k hk => ⟨hk.2.1, hk.2.2.1⟩)) (show w.heap.size ≤ w.heap.size + 2 by omega))
  have LT1 := Aside0.mk (show w.heap.size + 2 ≤ w1.heap.size by have := hb.size; omega)
  clear hS hS2 hb BR0 SZ
  have BP2 := Aside0.mk (heap_alloc_new w1 (Obj.cells #[Value.slice Av cl.length cv0] 35))
  have HB2 := Aside0.mk (below_alloc HB1.out (Obj.cells #[Value.slice Av cl.length cv0] 35))
  have BR2 := Aside0.mk (blk_alloc BR1.out (Obj.cells #[Value.slice Av cl.length cv0] 35))
  have HS2 := Aside0.mk (Kd.S_alloc HS1.out (Obj.cells #[Value.slice Av cl.length cv0] 35))
  clear HB1 BR1 HS1
  go_wp2_with fail
  go_loopg [15] cl.length (fun kq v15 w' => ∃ (done rest rest' : List (List S85)), v15 = .int .i64 done.length ∧ rest.length = kq ∧ Aside0 (done.length + rest.length = cl.length) ∧ Aside0 (mapO (mapO F) rest = some rest') ∧ Aside0 (r = done ++ rest') ∧
    Aside0 (Kd.S (Kd.slice 85 k85) 82 w' w.heap.size (fun k => w.heap.size + 2 ≤ k ∧ k < w1.heap.size) (.slice Av cl.length cv0) (done ++ rest)) ∧ Aside0 (Below w.heap.size w w') ∧ Aside0 (w'.heap[w.heap.size + 1]? = some (Obj.cells #[Value.slice none 0 0] 35)) ∧ Aside0 (w'.heap[w1.heap.size]? = some (Obj.cells #[Value.slice Av cl.length cv0] 35)))
  case atStart => exact ⟨[], cl, r, rfl, rfl, ⟨by simp⟩, H2, ⟨rfl⟩, HS2, HB2, BR2, BP2⟩
  case round =>
    obtain ⟨done, rest, rest', rfl, hkq, HL, HM, HR, HSr, HBr, BRr, BPr⟩ := hrel
    clear HB2 BR2 BP2 HS2 HC H1 H2
    cases rest with
    | nil =>
      have hrs' : rest' = [] := by have := HM.out; simp only [mapO, Option.some.injEq] at this; exact this.symm
      subst hrs'
      have hge : ¬ (done.length : Int) < (cl.length : Int) := by have := HL.out; simp only [List.length_nil] at this; omega
      have hcp : wr.cell? ⟨w1.heap.size, 0, none⟩ = some (.slice Av cl.length cv0) := (blk_cell BPr.out 0).trans rfl
      have hcr : wr.cell? ⟨w.heap.size + 1, 0, none⟩ = some (.slice none 0 0) := (blk_cell BRr.out 0).trans rfl
      have hfr := blk_frozen BRr.out 0
      go_wp2_with fail
      refine bodyPost_ret (results_cell_row rfl _ _ (w.heap.size + 1) 35 #[.slice Av cl.length cv0] (0, 0) _ rfl (blk_set BRr.out 0 _) Try.underlying35 rfl (by kernel_rfl)) rfl ?_
      refine ⟨_, rfl, ?_, below_set HBr.out (by omega)⟩
      have h := HSr.out
      rw [List.append_nil] at h
      have e := HR.out
      rw [List.append_nil] at e
      rw [e]
      exact Kd.S_mono (Kd.S_far (p := ⟨w.heap.size + 1, 0, none⟩) h (fun k hk => by show k ≠ w.heap.size + 1; omega) _) (fun _ _ => trivial)
    | cons row rest1 =>
      have HMM := HM.out
      clear HM
      simp only [mapO] at HMM
      obtain ⟨row', hm1, HMM⟩ := Option.bind_eq_some_iff.mp HMM
      obtain ⟨rest1', hm2, HMM⟩ := Option.bind_eq_some_iff.mp HMM
      simp only [Option.some.injEq] at HMM
      subst HMM
      have M1 := Aside0.mk hm1
      have M2 := Aside0.mk hm2
      clear hm1 hm2
      have hlt : (done.length : Int) < (cl.length : Int) := by have := HL.out; simp only [List.length_cons] at this; omega
      obtain ⟨g, cap, eA, hg0, hgl, cells, hcells⟩ := Kd.S_form HSr.out (by simp only [List.length_append, List.length_cons]; omega)
      have hS := HSr.out
      have eL : (done ++ row :: rest1).length = cl.length := by have := HL.out; simpa using this
      rw [eL] at eA
      rw [eA] at hS
      obtain ⟨oki, cs, hlen, hM, hcc, hoki, hH⟩ := Kd.S_lend hS [] (done.length : Int) (by omega) (by omega)
      rw [show (done ++ row :: rest1).getD (done.length : Int).toNat [] = row by simp] at hM
      obtain ⟨u, rfl, hRu⟩ := hM
      obtain ⟨Au, cu, rfl⟩ := Kd.R_slice hRu
      have hcu : wr.cell? ⟨g, done.length, none⟩ = some (.slice Au row.length cu) := by have h1 := hcc 0 _ rfl; rwa [show (done.length : Int).toNat * (Kd.slice 85 k85).sz + 0 = done.length from by show (done.length : Int).toNat * 1 + 0 = _; omega] at h1
      have hfu := blk_frozen hcells done.length
      have HRu := Aside0.mk hRu
      have HHr := Aside0.mk hH
      have HOK := Aside0.mk hoki
      clear hcells hRu hH hoki hS hcc
      go_wp2_with fail
      clear hcu hfu
      have hrl : row.length ≤ 9223372036854775807 := (Kd.R_reads' HRu.out).2.2.2.1
      go_loopg [21] row.length (fun jq v21 W => ∃ (dn rs rs' : List S85), v21 = .int .i64 dn.length ∧ rs.length = jq ∧ Aside0 (dn.length + rs.length = row.length) ∧ Aside0 (mapO F rs = some rs') ∧ Aside0 (row' = dn ++ rs') ∧
        Aside0 (Kd.R k85 85 W w.heap.size oki (.slice Au row.length cu) (dn ++ rs)) ∧ Aside0 (Kd.H (Kd.slice 85 k85) 82 W w.heap.size (fun k => w.heap.size + 2 ≤ k ∧ k < w1.heap.size) (.slice (some ⟨g, 0, none⟩) cl.length cv0) (done ++ row :: rest1) done.length oki [.slice Au row.length cu]) ∧
        Aside0 (Below w.heap.size w W) ∧ Aside0 (W.heap[w.heap.size + 1]? = some (Obj.cells #[Value.slice none 0 0] 35)) ∧ Aside0 (W.heap[w1.heap.size]? = some (Obj.cells #[Value.slice (some ⟨g, 0, none⟩) cl.length cv0] 35)))
      case atStart => exact ⟨[], row, row', rfl, rfl, ⟨by simp⟩, M1, ⟨rfl⟩, HRu, HHr, HBr, BRr, BPr⟩
      case round =>
        obtain ⟨dn, rs, rs', rfl, hjq, HLi, HMi, HRi, HRw, HHw, HBw, BRw, BPw⟩ := hrel
        clear HRu HHr HBr BRr BPr M1 HSr
        cases rs with
        | nil =>
          have hrs' : rs' = [] := by have := HMi.out; simp only [mapO, Option.some.injEq] at this; exact this.symm
          subst hrs'
          have hge : ¬ (dn.length : Int) < (row.length : Int) := by have := HLi.out; simp only [List.length_nil] at this; omega
          have HSn := Aside0.mk (show Kd.S (Kd.slice 85 k85) 82 wr w.heap.size (fun k => w.heap.size + 2 ≤ k ∧ k < w1.heap.size) (.slice (some ⟨g, 0, none⟩) cl.length cv0) (done ++ [row'] ++ rest1) from by
            have h := Kd.H_back HHw.out (Kd.M_row HRw.out) (fun k hk => hk)
            rw [show (done ++ row :: rest1).set (done.length : Int).toNat (dn ++ []) = done ++ [row'] ++ rest1 from by rw [Int.toNat_natCast, List.set_append_right _ _ (Nat.le_refl _), HRi.out]; simp] at h
            exact h)
          clear HRw HHw
          go_wp2_with fail
          go_roundg rest1.length
          case measure => simp only [List.length_cons] at hkq; omega
          case rel => exact ⟨done ++ [row'], rest1, rest1', by simp, rfl, ⟨by have := HL.out; simp only [List.length_cons] at this; simp only [List.length_append, List.length_singleton]; omega⟩, M2, ⟨by rw [HR.out]; simp⟩, HSn, HBw, BRw, BPw⟩
        | cons d rs1 =>
          have HMM := HMi.out
          clear HMi
          simp only [mapO] at HMM
          obtain ⟨d', hm1, HMM⟩ := Option.bind_eq_some_iff.mp HMM
          obtain ⟨rs1', hm3, HMM⟩ := Option.bind_eq_some_iff.mp HMM
          simp only [Option.some.injEq] at HMM
          subst HMM
          have N1 := Aside0.mk hm1
          have N2 := Aside0.mk hm3
          clear hm1 hm3
          have hlti : (dn.length : Int) < (row.length : Int) := by have := HLi.out; simp only [List.length_cons] at this; omega
          obtain ⟨gi, capi, eAi, hgi0, hgil, cellsi, hcellsi⟩ := Kd.R_form HRw.out (by simp only [List.length_append, List.length_cons]; omega)
          have hR := HRw.out
          have eLi : (dn ++ d :: rs1).length = row.length := by have := HLi.out; simpa using this
          rw [eLi] at eAi
          rw [eAi] at hR
          obtain ⟨ce, hce, hMe, hcce, hfre⟩ := Kd.R_elem hR z85 (dn.length : Int) (by omega) (by omega)
          rw [show (dn ++ d :: rs1).getD (dn.length : Int).toNat z85 = d by simp] at hMe
          obtain rfl := k85_openM hMe
          have hx0 := hcce 0 _ rfl
          have hx1 := hcce 1 _ rfl
          have hx2 := hcce 2 _ rfl
          rw [show (dn.length : Int).toNat * (k85).sz + 0 = dn.length * 3 from by show (dn.length : Int).toNat * 3 + 0 = _; omega] at hx0
          rw [show (dn.length : Int).toNat * (k85).sz + 1 = dn.length * 3 + 1 from by show (dn.length : Int).toNat * 3 + 1 = _; omega] at hx1
          rw [show (dn.length : Int).toNat * (k85).sz + 2 = dn.length * 3 + 2 from by show (dn.length : Int).toNat * 3 + 2 = _; omega] at hx2
          have HRo := Aside0.mk hR
          clear hMe hR hcce hfre
          go_wp2_with (go_at_call 83; refine park ?_)
          clear hx0 hx1 hx2
          refine ⟨?_⟩
          refine (HF.out _ d d' (below_alloc HBw.out _) N1.out).mono ?_
          rintro e w2 ⟨rfl, hb⟩
          have HB3 := Aside0.mk (below_then (below_alloc HBw.out (Obj.cells #[Value.int IntKind.i64 d.f0, Value.int IntKind.i64 d.f1, Value.int IntKind.i64 d.f2] 85)) (below_alloc HBw.out (Obj.cells #[Value.int IntKind.i64 d.f0, Value.int IntKind.i64 d.f1, Value.int IntKind.i64 d.f2] 85)).size hb)
          have hR3 := Kd.R_below (Kd.R_alloc HRo.out (Obj.cells #[Value.int IntKind.i64 d.f0, Value.int IntKind.i64 d.f1, Value.int IntKind.i64 d.f2] 85)) hb
          have HH3 := Aside0.mk (Kd.H_below (Kd.H_alloc HHw.out (Obj.cells #[Value.int IntKind.i64 d.f0, Value.int IntKind.i64 d.f1, Value.int IntKind.i64 d.f2] 85)) hb)
          have BR3 := Aside0.mk (blk_below (blk_alloc BRw.out (Obj.cells #[Value.int IntKind.i64 d.f0, Value.int IntKind.i64 d.f1, Value.int IntKind.i64 d.f2] 85)) hb)
          have BP3 := Aside0.mk (blk_below (blk_alloc BPw.out (Obj.cells #[Value.int IntKind.i64 d.f0, Value.int IntKind.i64 d.f1, Value.int IntKind.i64 d.f2] 85)) hb)
          have HRn := Aside0.mk (HRw.out.1 gi rfl)
          clear HBw HHw BRw BPw HRo HRw hb
          obtain ⟨ce, hce, hMe, hcce, hfre⟩ := Kd.R_elem hR3 z85 (dn.length : Int) (by omega) (by omega)
          rw [show (dn ++ d :: rs1).getD (dn.length : Int).toNat z85 = d by simp] at hMe
          obtain rfl := k85_openM hMe
          have HP := Aside0.mk (Kd.R_seg hR3 (dn.length : Int) (by omega) (by omega) (seg := [.int .i64 d'.f0, .int .i64 d'.f1, .int .i64 d'.f2]) (j := 0) hce hcce (show 3 ≤ 3 from by decide) (x' := d') (k85_mkM _ _ _ d') (fun _ hk => hk))
          have hx0 := hcce 0 _ rfl
          have hx1 := hcce 1 _ rfl
          have hx2 := hcce 2 _ rfl
          have hf0 := hfre 0
          have hf1 := hfre 1
          have hf2 := hfre 2
          have e0 : (dn.length : Int).toNat * (k85).sz + 0 = dn.length * 3 := by show (dn.length : Int).toNat * 3 + 0 = _; omega
          have e1 : (dn.length : Int).toNat * (k85).sz + 1 = dn.length * 3 + 1 := by show (dn.length : Int).toNat * 3 + 1 = _; omega
          have e2 : (dn.length : Int).toNat * (k85).sz + 2 = dn.length * 3 + 2 := by show (dn.length : Int).toNat * 3 + 2 = _; omega
          rw [e0] at hx0 hf0
          rw [e1] at hx1 hf1
          rw [e2] at hx2 hf2
          clear e0 e1 e2 hMe hcce hfre hR3
          have HP' := Aside0.mk (show Kd.R k85 85 (((w2.setCell ⟨gi, dn.length * 3, none⟩ (.int .i64 d'.f0)).setCell ⟨gi, dn.length * 3 + 1, none⟩ (.int .i64 d'.f1)).setCell ⟨gi, dn.length * 3 + 2, none⟩ (.int .i64 d'.f2)) w.heap.size oki (.slice (some ⟨gi, 0, none⟩) row.length cu) (dn ++ [d'] ++ rs1) ∧ w2.grownBy (((w2.setCell ⟨gi, dn.length * 3, none⟩ (.int .i64 d'.f0)).setCell ⟨gi, dn.length * 3 + 1, none⟩ (.int .i64 d'.f1)).setCell ⟨gi, dn.length * 3 + 2, none⟩ (.int .i64 d'.f2)) (some gi) from by
            have h := HP.out
            rw [show (dn.length : Int).toNat * (k85).sz + 0 = dn.length * 3 from by show (dn.length : Int).toNat * 3 + 0 = _; omega, show (dn ++ d :: rs1).set (dn.length : Int).toNat d' = dn ++ [d'] ++ rs1 from by rw [Int.toNat_natCast, List.set_append_right _ _ (Nat.le_refl _)]; simp] at h
            exact h)
          clear HP
          go_wp2_with fail
          clear hx0 hx1 hx2 hf0 hf1 hf2
          go_roundg rs1.length
          case measure => simp only [List.length_cons] at hjq; omega
          case rel =>
            have hOKn := (HOK.out _ HRn.out).1
            exact ⟨dn ++ [d'], rs1, rs1', by simp, rfl, ⟨by have := HLi.out; simp only [List.length_cons] at this; simp only [List.length_append, List.length_singleton]; omega⟩, N2, ⟨by rw [HRi.out]; simp⟩, ⟨HP'.out.1⟩, ⟨Kd.H_grown HH3.out HP'.out.2 (fun k hk => by injection hk with hk; rw [← hk]; exact HRn.out)⟩,
              ⟨HB3.out.grown HP'.out.2 HB3.out.size (fun k hk => by injection hk with hk; omega)⟩, ⟨blk_grown BR3.out HP'.out.2 (fun e => by injection e with e; omega)⟩, ⟨blk_grown BP3.out HP'.out.2 (fun e => by injection e with e; omega)⟩⟩
set_option maxRecDepth 100000 in
set_option maxHeartbeats 8000000 in
theorem each99 (k : Nat) (F : S85 → Option S85) (cv : Value) (A : Option Addr) (c : Nat) (l cl r : List (List S85)) (w : World) (hC : Kd.C (Kd.slice 85 k85) w A l.length l) (hc : l.length ≤ c)
    (hcl : ∀ (W : World) (d r : S85), Below w.heap.size w W → F d = some r → Calls Try.prog 99 #[.agg #[.int .i64 d.f0, .int .i64 d.f1, .int .i64 d.f2], cv] W fun e W' => e = .returned (.agg #[.int .i64 r.f0, .int .i64 r.f1, .int .i64 r.f2]) ∧ Below W.heap.size W W')
    (h1 : impl_Prog_copied.f k l = some cl) (h2 : mapO (mapO F) cl = some r) :
    Calls Try.prog 82 #[.agg #[.slice A l.length c], .func (.func 99) #[] #[cv]] w fun e w' => ∃ v_ : Value, e = .returned (.agg #[v_]) ∧ Kd.S (Kd.slice 85 k85) 82 w' w.heap.size (fun _ => True) v_ r ∧ Below w.heap.size w w' := by
  have HC := Aside0.mk hC
  have HF := Aside0.mk hcl
  have H1 := Aside0.mk h1
  have H2 := Aside0.mk h2
  clear hC hcl h1 h2
  go_enter Try.func82, Try.ntmps82
  go_wp2_with (go_at_call 90; refine park ?_)
  refine ⟨?_⟩
  have BR0 := Aside0.mk (heap_alloc_new (w.alloc (Obj.cells #[Value.slice A l.length c] 35)) (Obj.cells #[Value.slice none 0 0] 35))
  refine (impl_Prog_copied.calls k A c l cl _ (Kd.C_alloc (Kd.C_alloc HC.out _) _) hc H1.out).mono ?_
  rintro e w1 ⟨v0, rfl, hS, hb⟩
  obtain ⟨Av, cv0, rfl⟩ := Kd.S_slice hS
  have SZ : ((w.alloc (Obj.cells #[Value.slice A l.length c] 35)).alloc (Obj.cells #[Value.slice none 0 0] 35)).heap.size = w.heap.size + 2 := by rw [World.size_alloc, World.size_alloc]
  rw [World.size_alloc] at BR0
  have hcl : cl.length ≤ 9223372036854775807 := (Kd.R_reads' (Kd.S_R hS)).2.2.2.1
  have HB1 := Aside0.mk (below_then (below_alloc (below_alloc (Below.refl w.heap.size w) _) _) (below_alloc (below_alloc (Below.refl w.heap.size w) _) _).size hb)
  have BR1 := Aside0.mk (blk_below BR0.out hb)
  have hS2 := Kd.S_bound hS
  rw [SZ] at hS2
  have HS1 := Aside0.mk (Kd.S_lower (Kd.S_mono (ok' := fun k => w.heap.size + 2 ≤ k ∧ k < w1.heap.size) hS2 (fun k hk => ⟨hk.2.1, hk.2.2.1⟩)) (show w.heap.size ≤ w.heap.size + 2 by omega))
  have LT1 := Aside0.mk (show w.heap.size + 2 ≤ w1.heap.size by have := hb.size; omega)
  clear hS hS2 hb BR0 SZ
  have BP2 := Aside0.mk (heap_alloc_new w1 (Obj.cells #[Value.slice Av cl.length cv0] 35))
  have HB2 := Aside0.mk (below_alloc HB1.out (Obj.cells #[Value.slice Av cl.length cv0] 35))
  have BR2 := Aside0.mk (blk_alloc BR1.out (Obj.cells #[Value.slice Av cl.length cv0] 35))
  have HS2 := Aside0.mk (Kd.S_alloc HS1.out (Obj.cells #[Value.slice Av cl.length cv0] 35))
  clear HB1 BR1 HS1
  go_wp2_with fail
  go_loopg [15] cl.length (fun kq v15 w' => ∃ (done rest rest' : List (List S85)), v15 = .int .i64 done.length ∧ rest.length = kq ∧ Aside0 (done.length + rest.length = cl.length) ∧ Aside0 (mapO (mapO F) rest = some rest') ∧ Aside0 (r = done ++ rest') ∧
    Aside0 (Kd.S (Kd.slice 85 k85) 82 w' w.heap.size (fun k => w.heap.size + 2 ≤ k ∧ k < w1.heap.size) (.slice Av cl.length cv0) (done ++ rest)) ∧ Aside0 (Below w.heap.size w w') ∧ Aside0 (w'.heap[w.heap.size + 1]? = some (Obj.cells #[Value.slice none 0 0] 35)) ∧ Aside0 (w'.heap[w1.heap.size]? = some (Obj.cells #[Value.slice Av cl.length cv0] 35)))
  case atStart => exact ⟨[], cl, r, rfl, rfl, ⟨by simp⟩, H2, ⟨rfl⟩, HS2, HB2, BR2, BP2⟩
  case round =>
    obtain ⟨done, rest, rest', rfl, hkq, HL, HM, HR, HSr, HBr, BRr, BPr⟩ := hrel
    clear HB2 BR2 BP2 HS2 HC H1 H2
    cases rest with
    | nil =>
      have hrs' : rest' = [] := by have := HM.out; simp only [mapO, Option.some.injEq] at this; exact this.symm
      subst hrs'
      have hge : ¬ (done.length : Int) < (cl.length : Int) := by have := HL.out; simp only [List.length_nil] at this; omega
      have hcp : wr.cell? ⟨w1.heap.size, 0, none⟩ = some (.slice Av cl.length cv0) := (blk_cell BPr.out 0).trans rfl
      have hcr : wr.cell? ⟨w.heap.size + 1, 0, none⟩ = some (.slice none 0 0) := (blk_cell BRr.out 0).trans rfl
      have hfr := blk_frozen BRr.out 0
      go_wp2_with fail
      refine bodyPost_ret (results_cell_row rfl _ _ (w.heap.size + 1) 35 #[.slice Av cl.length cv0] (0, 0) _ rfl (blk_set BRr.out 0 _) Try.underlying35 rfl (by kernel_rfl)) rfl ?_
      refine ⟨_, rfl, ?_, below_set HBr.out (by omega)⟩
      have h := HSr.out
      rw [List.append_nil] at h
      have e := HR.out
      rw [List.append_nil] at e
      rw [e]
      exact Kd.S_mono (Kd.S_far (p := ⟨w.heap.size + 1, 0, none⟩) h (fun k hk => by show k ≠ w.heap.size + 1; omega) _) (fun _ _ => trivial)
    | cons row rest1 =>
      have HMM := HM.out
      clear HM
      simp only [mapO] at HMM
      obtain ⟨row', hm1, HMM⟩ := Option.bind_eq_some_iff.mp HMM
      obtain ⟨rest1', hm2, HMM⟩ := Option.bind_eq_some_iff.mp HMM
      simp only [Option.some.injEq] at HMM
      subst HMM
      have M1 := Aside0.mk hm1
      have M2 := Aside0.mk hm2
      clear hm1 hm2
      have hlt : (done.length : Int) < (cl.length : Int) := by have := HL.out; simp only [List.length_cons] at this; omega
      obtain ⟨g, cap, eA, hg0, hgl, cells, hcells⟩ := Kd.S_form HSr.out (by simp only [List.length_append, List.length_cons]; omega)
      have hS := HSr.out
      have eL : (done ++ row :: rest1).length = cl.length := by have := HL.out; simpa using this
      rw [eL] at eA
      rw [eA] at hS
      obtain ⟨oki, cs, hlen, hM, hcc, hoki, hH⟩ := Kd.S_lend hS [] (done.length : Int) (by omega) (by omega)
      rw [show (done ++ row :: rest1).getD (done.length : Int).toNat [] = row by simp] at hM
      obtain ⟨u, rfl, hRu⟩ := hM
      obtain ⟨Au, cu, rfl⟩ := Kd.R_slice hRu
      have hcu : wr.cell? ⟨g, done.length, none⟩ = some (.slice Au row.length cu) := by have h1 := hcc 0 _ rfl; rwa [show (done.length : Int).toNat * (Kd.slice 85 k85).sz + 0 = done.length from by show (done.length : Int).toNat * 1 + 0 = _; omega] at h1
      have hfu := blk_frozen hcells done.length
      have HRu := Aside0.mk hRu
      have HHr := Aside0.mk hH
      have HOK := Aside0.mk hoki
      clear hcells hRu hH hoki hS hcc
      go_wp2_with fail
      clear hcu hfu
      have hrl : row.length ≤ 9223372036854775807 := (Kd.R_reads' HRu.out).2.2.2.1
      go_loopg [21] row.length (fun jq v21 W => ∃ (dn rs rs' : List S85), v21 = .int .i64 dn.length ∧ rs.length = jq ∧ Aside0 (dn.length + rs.length = row.length) ∧ Aside0 (mapO F rs = some rs') ∧ Aside0 (row' = dn ++ rs') ∧
        Aside0 (Kd.R k85 85 W w.heap.size oki (.slice Au row.length cu) (dn ++ rs)) ∧ Aside0 (Kd.H (Kd.slice 85 k85) 82 W w.heap.size (fun k => w.heap.size + 2 ≤ k ∧ k < w1.heap.size) (.slice (some ⟨g, 0, none⟩) cl.length cv0) (done ++ row :: rest1) done.length oki [.slice Au row.length cu]) ∧
        Aside0 (Below w.heap.size w W) ∧ Aside0 (W.heap[w.heap.size + 1]? = some (Obj.cells #[Value.slice none 0 0] 35)) ∧ Aside0 (W.heap[w1.heap.size]? = some (Obj.cells #[Value.slice (some ⟨g, 0, none⟩) cl.length cv0] 35)))
      case atStart => exact ⟨[], row, row', rfl, rfl, ⟨by simp⟩, M1, ⟨rfl⟩, HRu, HHr, HBr, BRr, BPr⟩
      case round =>
        obtain ⟨dn, rs, rs', rfl, hjq, HLi, HMi, HRi, HRw, HHw, HBw, BRw, BPw⟩ := hrel
        clear HRu HHr HBr BRr BPr M1 HSr
        cases rs with
        | nil =>
          have hrs' : rs' = [] := by have := HMi.out; simp only [mapO, Option.some.injEq] at this; exact this.symm
          subst hrs'
          have hge : ¬ (dn.length : Int) < (row.length : Int) := by have := HLi.out; simp only [List.length_nil] at this; omega
          have HSn := Aside0.mk (show Kd.S (Kd.slice 85 k85) 82 wr w.heap.size (fun k => w.heap.size + 2 ≤ k ∧ k < w1.heap.size) (.slice (some ⟨g, 0, none⟩) cl.length cv0) (done ++ [row'] ++ rest1) from by
            have h := Kd.H_back HHw.out (Kd.M_row HRw.out) (fun k hk => hk)
            rw [show (done ++ row :: rest1).set (done.length : Int).toNat (dn ++ []) = done ++ [row'] ++ rest1 from by rw [Int.toNat_natCast, List.set_append_right _ _ (Nat.le_refl _), HRi.out]; simp] at h
            exact h)
          clear HRw HHw
          go_wp2_with fail
          go_roundg rest1.length
          case measure => simp only [List.length_cons] at hkq; omega
          case rel => exact ⟨done ++ [row'], rest1, rest1', by simp, rfl, ⟨by have := HL.out; simp only [List.length_cons] at this; simp only [List.length_append, List.length_singleton]; omega⟩, M2, ⟨by rw [HR.out]; simp⟩, HSn, HBw, BRw, BPw⟩
        | cons d rs1 =>
          have HMM := HMi.out
          clear HMi
          simp only [mapO] at HMM
          obtain ⟨d', hm1, HMM⟩ := Option.bind_eq_some_iff.mp HMM
          obtain ⟨rs1', hm3, HMM⟩ := Option.bind_eq_some_iff.mp HMM
          simp only [Option.some.injEq] at HMM
          subst HMM
          have N1 := Aside0.mk hm1
          have N2 := Aside0.mk hm3
          clear hm1 hm3
          have hlti : (dn.length : Int) < (row.length : Int) := by have := HLi.out; simp only [List.length_cons] at this; omega
          obtain ⟨gi, capi, eAi, hgi0, hgil, cellsi, hcellsi⟩ := Kd.R_form HRw.out (by simp only [List.length_append, List.length_cons]; omega)
          have hR := HRw.out
          have eLi : (dn ++ d :: rs1).length = row.length := by have := HLi.out; simpa using this
          rw [eLi] at eAi
          rw [eAi] at hR
          obtain ⟨ce, hce, hMe, hcce, hfre⟩ := Kd.R_elem hR z85 (dn.length : Int) (by omega) (by omega)
          rw [show (dn ++ d :: rs1).getD (dn.length : Int).toNat z85 = d by simp] at hMe
          obtain rfl := k85_openM hMe
          have hx0 := hcce 0 _ rfl
          have hx1 := hcce 1 _ rfl
          have hx2 := hcce 2 _ rfl
          rw [show (dn.length : Int).toNat * (k85).sz + 0 = dn.length * 3 from by show (dn.length : Int).toNat * 3 + 0 = _; omega] at hx0
          rw [show (dn.length : Int).toNat * (k85).sz + 1 = dn.length * 3 + 1 from by show (dn.length : Int).toNat * 3 + 1 = _; omega] at hx1
          rw [show (dn.length : Int).toNat * (k85).sz + 2 = dn.length * 3 + 2 from by show (dn.length : Int).toNat * 3 + 2 = _; omega] at hx2
          have HRo := Aside0.mk hR
          clear hMe hR hcce hfre
          go_wp2_with (go_at_call 99; refine park ?_)
          clear hx0 hx1 hx2
          refine ⟨?_⟩
          refine (HF.out _ d d' (below_alloc HBw.out _) N1.out).mono ?_
          rintro e w2 ⟨rfl, hb⟩
          have HB3 := Aside0.mk (below_then (below_alloc HBw.out (Obj.cells #[Value.int IntKind.i64 d.f0, Value.int IntKind.i64 d.f1, Value.int IntKind.i64 d.f2] 85)) (below_alloc HBw.out (Obj.cells #[Value.int IntKind.i64 d.f0, Value.int IntKind.i64 d.f1, Value.int IntKind.i64 d.f2] 85)).size hb)
          have hR3 := Kd.R_below (Kd.R_alloc HRo.out (Obj.cells #[Value.int IntKind.i64 d.f0, Value.int IntKind.i64 d.f1, Value.int IntKind.i64 d.f2] 85)) hb
          have HH3 := Aside0.mk (Kd.H_below (Kd.H_alloc HHw.out (Obj.cells #[Value.int IntKind.i64 d.f0, Value.int IntKind.i64 d.f1, Value.int IntKind.i64 d.f2] 85)) hb)
          have BR3 := Aside0.mk (blk_below (blk_alloc BRw.out (Obj.cells #[Value.int IntKind.i64 d.f0, Value.int IntKind.i64 d.f1, Value.int IntKind.i64 d.f2] 85)) hb)
          have BP3 := Aside0.mk (blk_below (blk_alloc BPw.out (Obj.cells #[Value.int IntKind.i64 d.f0, Value.int IntKind.i64 d.f1, Value.int IntKind.i64 d.f2] 85)) hb)
          have HRn := Aside0.mk (HRw.out.1 gi rfl)
          clear HBw HHw BRw BPw HRo HRw hb
          obtain ⟨ce, hce, hMe, hcce, hfre⟩ := Kd.R_elem hR3 z85 (dn.length : Int) (by omega) (by omega)
          rw [show (dn ++ d :: rs1).getD (dn.length : Int).toNat z85 = d by simp] at hMe
          obtain rfl := k85_openM hMe
          have HP := Aside0.mk (Kd.R_seg hR3 (dn.length : Int) (by omega) (by omega) (seg := [.int .i64 d'.f0, .int .i64 d'.f1, .int .i64 d'.f2]) (j := 0) hce hcce (show 3 ≤ 3 from by decide) (x' := d') (k85_mkM _ _ _ d') (fun _ hk => hk))
          have hx0 := hcce 0 _ rfl
          have hx1 := hcce 1 _ rfl
          have hx2 := hcce 2 _ rfl
          have hf0 := hfre 0
          have hf1 := hfre 1
          have hf2 := hfre 2
          have e0 : (dn.length : Int).toNat * (k85).sz + 0 = dn.length * 3 := by show (dn.length : Int).toNat * 3 + 0 = _; omega
          have e1 : (dn.length : Int).toNat * (k85).sz + 1 = dn.length * 3 + 1 := by show (dn.length : Int).toNat * 3 + 1 = _; omega
          have e2 : (dn.length : Int).toNat * (k85).sz + 2 = dn.length * 3 + 2 := by show (dn.length : Int).toNat * 3 + 2 = _; omega
          rw [e0] at hx0 hf0
          rw [e1] at hx1 hf1
          rw [e2] at hx2 hf2
          clear e0 e1 e2 hMe hcce hfre hR3
          have HP' := Aside0.mk (show Kd.R k85 85 (((w2.setCell ⟨gi, dn.length * 3, none⟩ (.int .i64 d'.f0)).setCell ⟨gi, dn.length * 3 + 1, none⟩ (.int .i64 d'.f1)).setCell ⟨gi, dn.length * 3 + 2, none⟩ (.int .i64 d'.f2)) w.heap.size oki (.slice (some ⟨gi, 0, none⟩) row.length cu) (dn ++ [d'] ++ rs1) ∧ w2.grownBy (((w2.setCell ⟨gi, dn.length * 3, none⟩ (.int .i64 d'.f0)).setCell ⟨gi, dn.length * 3 + 1, none⟩ (.int .i64 d'.f1)).setCell ⟨gi, dn.length * 3 + 2, none⟩ (.int .i64 d'.f2)) (some gi) from by
            have h := HP.out
            rw [show (dn.length : Int).toNat * (k85).sz + 0 = dn.length * 3 from by show (dn.length : Int).toNat * 3 + 0 = _; omega, show (dn ++ d :: rs1).set (dn.length : Int).toNat d' = dn ++ [d'] ++ rs1 from by rw [Int.toNat_natCast, List.set_append_right _ _ (Nat.le_refl _)]; simp] at h
            exact h)
          clear HP
          go_wp2_with fail
          clear hx0 hx1 hx2 hf0 hf1 hf2
          go_roundg rs1.length
          case measure => simp only [List.length_cons] at hjq; omega
          case rel =>
            have hOKn := (HOK.out _ HRn.out).1
            exact ⟨dn ++ [d'], rs1, rs1', by simp, rfl, ⟨by have := HLi.out; simp only [List.length_cons] at this; simp only [List.length_append, List.length_singleton]; omega⟩, N2, ⟨by rw [HRi.out]; simp⟩, ⟨HP'.out.1⟩, ⟨Kd.H_grown HH3.out HP'.out.2 (fun k hk => by injection hk with hk; rw [← hk]; exact HRn.out)⟩,
              ⟨HB3.out.grown HP'.out.2 HB3.out.size (fun k hk => by injection hk with hk; omega)⟩, ⟨blk_grown BR3.out HP'.out.2 (fun e => by injection e with e; omega)⟩, ⟨blk_grown BP3.out HP'.out.2 (fun e => by injection e with e; omega)⟩⟩
set_option maxRecDepth 100000 in
set_option maxHeartbeats 8000000 in
theorem each102 (k : Nat) (F : S85 → Option S85) (cv : Value) (A : Option Addr) (c : Nat) (l cl r : List (List S85)) (w : World) (hC : Kd.C (Kd.slice 85 k85) w A l.length l) (hc : l.length ≤ c)
    (hcl : ∀ (W : World) (d r : S85), Below w.heap.size w W → F d = some r → Calls Try.prog 102 #[.agg #[.int .i64 d.f0, .int .i64 d.f1, .int .i64 d.f2], cv] W fun e W' => e = .returned (.agg #[.int .i64 r.f0, .int .i64 r.f1, .int .i64 r.f2]) ∧ Below W.heap.size W W')
    (h1 : impl_Prog_copied.f k l = some cl) (h2 : mapO (mapO F) cl = some r) :
    Calls Try.prog 82 #[.agg #[.slice A l.length c], .func (.func 102) #[] #[cv]] w fun e w' => ∃ v_ : Value, e = .returned (.agg #[v_]) ∧ Kd.S (Kd.slice 85 k85) 82 w' w.heap.size (fun _ => True) v_ r ∧ Below w.heap.size w w' := by
  have HC := Aside0.mk hC
  have HF := Aside0.mk hcl
  have H1 := Aside0.mk h1
  have H2 := Aside0.mk h2
  clear hC hcl h1 h2
  go_enter Try.func82, Try.ntmps82
  go_wp2_with (go_at_call 90; refine park ?_)
  refine ⟨?_⟩
  have BR0 := Aside0.mk (heap_alloc_new (w.alloc (Obj.cells #[Value.slice A l.length c] 35)) (Obj.cells #[Value.slice none 0 0] 35))
  refine (impl_Prog_copied.calls k A c l cl _ (Kd.C_alloc (Kd.C_alloc HC.out _) _) hc H1.out).mono ?_
  rintro e w1 ⟨v0, rfl, hS, hb⟩
  obtain ⟨Av, cv0, rfl⟩ := Kd.S_slice hS
  have SZ : ((w.alloc (Obj.cells #[Value.slice A l.length c] 35)).alloc (Obj.cells #[Value.slice none 0 0] 35)).heap.size = w.heap.size + 2 := by rw [World.size_alloc, World.size_alloc]
  rw [World.size_alloc] at BR0
  have hcl : cl.length ≤ 9223372036854775807 := (Kd.R_reads' (Kd.S_R hS)).2.2.2.1
  have HB1 := Aside0.mk (below_then (below_alloc (below_alloc (Below.refl w.heap.size w) _) _) (below_alloc (below_alloc (Below.refl w.heap.size w) _) _).size hb)
  have BR1 := Aside0.mk (blk_below BR0.out hb)
  have hS2 := Kd.S_bound hS
  rw [SZ] at hS2
  have HS1 := Aside0.mk (Kd.S_lower (Kd.S_mono (ok' := fun k => w.heap.size + 2 ≤ k ∧ k < w1.heap.size) hS2 (fun k hk => ⟨hk.2.1, hk.2.2.1⟩)) (show w.heap.size ≤ w.heap.size + 2 by omega))
  have LT1 := Aside0.mk (show w.heap.size + 2 ≤ w1.heap.size by have := hb.size; omega)
  clear hS hS2 hb BR0 SZ
  have BP2 := Aside0.mk (heap_alloc_new w1 (Obj.cells #[Value.slice Av cl.length cv0] 35))
  have HB2 := Aside0.mk (below_alloc HB1.out (Obj.cells #[Value.slice Av cl.length cv0] 35))
  have BR2 := Aside0.mk (blk_alloc BR1.out (Obj.cells #[Value.slice Av cl.length cv0] 35))
  have HS2 := Aside0.mk (Kd.S_alloc HS1.out (Obj.cells #[Value.slice Av cl.length cv0] 35))
  clear HB1 BR1 HS1
  go_wp2_with fail
  go_loopg [15] cl.length (fun kq v15 w' => ∃ (done rest rest' : List (List S85)), v15 = .int .i64 done.length ∧ rest.length = kq ∧ Aside0 (done.length + rest.length = cl.length) ∧ Aside0 (mapO (mapO F) rest = some rest') ∧ Aside0 (r = done ++ rest') ∧
    Aside0 (Kd.S (Kd.slice 85 k85) 82 w' w.heap.size (fun k => w.heap.size + 2 ≤ k ∧ k < w1.heap.size) (.slice Av cl.length cv0) (done ++ rest)) ∧ Aside0 (Below w.heap.size w w') ∧ Aside0 (w'.heap[w.heap.size + 1]? = some (Obj.cells #[Value.slice none 0 0] 35)) ∧ Aside0 (w'.heap[w1.heap.size]? = some (Obj.cells #[Value.slice Av cl.length cv0] 35)))
  case atStart => exact ⟨[], cl, r, rfl, rfl, ⟨by simp⟩, H2, ⟨rfl⟩, HS2, HB2, BR2, BP2⟩
  case round =>
    obtain ⟨done, rest, rest', rfl, hkq, HL, HM, HR, HSr, HBr, BRr, BPr⟩ := hrel
    clear HB2 BR2 BP2 HS2 HC H1 H2
    cases rest with
    | nil =>
      have hrs' : rest' = [] := by have := HM.out; simp only [mapO, Option.some.injEq] at this; exact this.symm
      subst hrs'
      have hge : ¬ (done.length : Int) < (cl.length : Int) := by have := HL.out; simp only [List.length_nil] at this; omega
      have hcp : wr.cell? ⟨w1.heap.size, 0, none⟩ = some (.slice Av cl.length cv0) := (blk_cell BPr.out 0).trans rfl
      have hcr : wr.cell? ⟨w.heap.size + 1, 0, none⟩ = some (.slice none 0 0) := (blk_cell BRr.out 0).trans rfl
      have hfr := blk_frozen BRr.out 0
      go_wp2_with fail
      refine bodyPost_ret (results_cell_row rfl _ _ (w.heap.size + 1) 35 #[.slice Av cl.length cv0] (0, 0) _ rfl (blk_set BRr.out 0 _) Try.underlying35 rfl (by kernel_rfl)) rfl ?_
      refine ⟨_, rfl, ?_, below_set HBr.out (by omega)⟩
      have h := HSr.out
      rw [List.append_nil] at h
      have e := HR.out
      rw [List.append_nil] at e
      rw [e]
      exact Kd.S_mono (Kd.S_far (p := ⟨w.heap.size + 1, 0, none⟩) h (fun k hk => by show k ≠ w.heap.size + 1; omega) _) (fun _ _ => trivial)
    | cons row rest1 =>
      have HMM := HM.out
      clear HM
      simp only [mapO] at HMM
      obtain ⟨row', hm1, HMM⟩ := Option.bind_eq_some_iff.mp HMM
      obtain ⟨rest1', hm2, HMM⟩ := Option.bind_eq_some_iff.mp HMM
      simp only [Option.some.injEq] at HMM
      subst HMM
      have M1 := Aside0.mk hm1
      have M2 := Aside0.mk hm2
      clear hm1 hm2
      have hlt : (done.length : Int) < (cl.length : Int) := by have := HL.out; simp only [List.length_cons] at this; omega
      obtain ⟨g, cap, eA, hg0, hgl, cells, hcells⟩ := Kd.S_form HSr.out (by simp only [List.length_append, List.length_cons]; omega)
      have hS := HSr.out
      have eL : (done ++ row :: rest1).length = cl.length := by have := HL.out; simpa using this
      rw [eL] at eA
      rw [eA] at hS
      obtain ⟨oki, cs, hlen, hM, hcc, hoki, hH⟩ := Kd.S_lend hS [] (done.length : Int) (by omega) (by omega)
      rw [show (done ++ row :: rest1).getD (done.length : Int).toNat [] = row by simp] at hM
      obtain ⟨u, rfl, hRu⟩ := hM
      obtain ⟨Au, cu, rfl⟩ := Kd.R_slice hRu
      have hcu : wr.cell? ⟨g, done.length, none⟩ = some (.slice Au row.length cu) := by have h1 := hcc 0 _ rfl; rwa [show (done.length : Int).toNat * (Kd.slice 85 k85).sz + 0 = done.length from by show (done.length : Int).toNat * 1 + 0 = _; omega] at h1
      have hfu := blk_frozen hcells done.length
      have HRu := Aside0.mk hRu
      have HHr := Aside0.mk hH
      have HOK := Aside0.mk hoki
      clear hcells hRu hH hoki hS hcc
      go_wp2_with fail
      clear hcu hfu
      have hrl : row.length ≤ 9223372036854775807 := (Kd.R_reads' HRu.out).2.2.2.1
      go_loopg [21] row.length (fun jq v21 W => ∃ (dn rs rs' : List S85), v21 = .int .i64 dn.length ∧ rs.length = jq ∧ Aside0 (dn.length + rs.length = row.length) ∧ Aside0 (mapO F rs = some rs') ∧ Aside0 (row' = dn ++ rs') ∧
        Aside0 (Kd.R k85 85 W w.heap.size oki (.slice Au row.length cu) (dn ++ rs)) ∧ Aside0 (Kd.H (Kd.slice 85 k85) 82 W w.heap.size (fun k => w.heap.size + 2 ≤ k ∧ k < w1.heap.size) (.slice (some ⟨g, 0, none⟩) cl.length cv0) (done ++ row :: rest1) done.length oki [.slice Au row.length cu]) ∧
        Aside0 (Below w.heap.size w W) ∧ Aside0 (W.heap[w.heap.size + 1]? = some (Obj.cells #[Value.slice none 0 0] 35)) ∧ Aside0 (W.heap[w1.heap.size]? = some (Obj.cells #[Value.slice (some ⟨g, 0, none⟩) cl.length cv0] 35)))
      case atStart => exact ⟨[], row, row', rfl, rfl, ⟨by simp⟩, M1, ⟨rfl⟩, HRu, HHr, HBr, BRr, BPr⟩
      case round =>
        obtain ⟨dn, rs, rs', rfl, hjq, HLi, HMi, HRi, HRw, HHw, HBw, BRw, BPw⟩ := hrel
        clear HRu HHr HBr BRr BPr M1 HSr
        cases rs with
        | nil =>
          have hrs' : rs' = [] := by have := HMi.out; simp only [mapO, Option.some.injEq] at this; exact this.symm
          subst hrs'
          have hge : ¬ (dn.length : Int) < (row.length : Int) := by have := HLi.out; simp only [List.length_nil] at this; omega
          have HSn := Aside0.mk (show Kd.S (Kd.slice 85 k85) 82 wr w.heap.size (fun k => w.heap.size + 2 ≤ k ∧ k < w1.heap.size) (.slice (some ⟨g, 0, none⟩) cl.length cv0) (done ++ [row'] ++ rest1) from by
            have h := Kd.H_back HHw.out (Kd.M_row HRw.out) (fun k hk => hk)
            rw [show (done ++ row :: rest1).set (done.length : Int).toNat (dn ++ []) = done ++ [row'] ++ rest1 from by rw [Int.toNat_natCast, List.set_append_right _ _ (Nat.le_refl _), HRi.out]; simp] at h
            exact h)
          clear HRw HHw
          go_wp2_with fail
          go_roundg rest1.length
          case measure => simp only [List.length_cons] at hkq; omega
          case rel => exact ⟨done ++ [row'], rest1, rest1', by simp, rfl, ⟨by have := HL.out; simp only [List.length_cons] at this; simp only [List.length_append, List.length_singleton]; omega⟩, M2, ⟨by rw [HR.out]; simp⟩, HSn, HBw, BRw, BPw⟩
        | cons d rs1 =>
          have HMM := HMi.out
          clear HMi
          simp only [mapO] at HMM
          obtain ⟨d', hm1, HMM⟩ := Option.bind_eq_some_iff.mp HMM
          obtain ⟨rs1', hm3, HMM⟩ := Option.bind_eq_some_iff.mp HMM
          simp only [Option.some.injEq] at HMM
          subst HMM
          have N1 := Aside0.mk hm1
          have N2 := Aside0.mk hm3
          clear hm1 hm3
          have hlti : (dn.length : Int) < (row.length : Int) := by have := HLi.out; simp only [List.length_cons] at this; omega
          obtain ⟨gi, capi, eAi, hgi0, hgil, cellsi, hcellsi⟩ := Kd.R_form HRw.out (by simp only [List.length_append, List.length_cons]; omega)
          have hR := HRw.out
          have eLi : (dn ++ d :: rs1).length = row.length := by have := HLi.out; simpa using this
          rw [eLi] at eAi
          rw [eAi] at hR
          obtain ⟨ce, hce, hMe, hcce, hfre⟩ := Kd.R_elem hR z85 (dn.length : Int) (by omega) (by omega)
          rw [show (dn ++ d :: rs1).getD (dn.length : Int).toNat z85 = d by simp] at hMe
          obtain rfl := k85_openM hMe
          have hx0 := hcce 0 _ rfl
          have hx1 := hcce 1 _ rfl
          have hx2 := hcce 2 _ rfl
          rw [show (dn.length : Int).toNat * (k85).sz + 0 = dn.length * 3 from by show (dn.length : Int).toNat * 3 + 0 = _; omega] at hx0
          rw [show (dn.length : Int).toNat * (k85).sz + 1 = dn.length * 3 + 1 from by show (dn.length : Int).toNat * 3 + 1 = _; omega] at hx1
          rw [show (dn.length : Int).toNat * (k85).sz + 2 = dn.length * 3 + 2 from by show (dn.length : Int).toNat * 3 + 2 = _; omega] at hx2
          have HRo := Aside0.mk hR
          clear hMe hR hcce hfre
          go_wp2_with (go_at_call 102; refine park ?_)
          clear hx0 hx1 hx2
          refine ⟨?_⟩
          refine (HF.out _ d d' (below_alloc HBw.out _) N1.out).mono ?_
          rintro e w2 ⟨rfl, hb⟩
          have HB3 := Aside0.mk (below_then (below_alloc HBw.out (Obj.cells #[Value.int IntKind.i64 d.f0, Value.int IntKind.i64 d.f1, Value.int IntKind.i64 d.f2] 85)) (below_alloc HBw.out (Obj.cells #[Value.int IntKind.i64 d.f0, Value.int IntKind.i64 d.f1, Value.int IntKind.i64 d.f2] 85)).size hb)
          have hR3 := Kd.R_below (Kd.R_alloc HRo.out (Obj.cells #[Value.int IntKind.i64 d.f0, Value.int IntKind.i64 d.f1, Value.int IntKind.i64 d.f2] 85)) hb
          have HH3 := Aside0.mk (Kd.H_below (Kd.H_alloc HHw.out (Obj.cells #[Value.int IntKind.i64 d.f0, Value.int IntKind.i64 d.f1, Value.int IntKind.i64 d.f2] 85)) hb)
          have BR3 := Aside0.mk (blk_below (blk_alloc BRw.out (Obj.cells #[Value.int IntKind.i64 d.f0, Value.int IntKind.i64 d.f1, Value.int IntKind.i64 d.f2] 85)) hb)
          have BP3 := Aside0.mk (blk_below (blk_alloc BPw.out (Obj.cells #[Value.int IntKind.i64 d.f0, Value.int IntKind.i64 d.f1, Value.int IntKind.i64 d.f2] 85)) hb)
          have HRn := Aside0.mk (HRw.out.1 gi rfl)
          clear HBw HHw BRw BPw HRo HRw hb
          obtain ⟨ce, hce, hMe, hcce, hfre⟩ := Kd.R_elem hR3 z85 (dn.length : Int) (by omega) (by omega)
          rw [show (dn ++ d :: rs1).getD (dn.length : Int).toNat z85 = d by simp] at hMe
          obtain rfl := k85_openM hMe
          have HP := Aside0.mk (Kd.R_seg hR3 (dn.length : Int) (by omega) (by omega) (seg := [.int .i64 d'.f0, .int .i64 d'.f1, .int .i64 d'.f2]) (j := 0) hce hcce (show 3 ≤ 3 from by decide) (x' := d') (k85_mkM _ _ _ d') (fun _ hk => hk))
          have hx0 := hcce 0 _ rfl
          have hx1 := hcce 1 _ rfl
          have hx2 := hcce 2 _ rfl
          have hf0 := hfre 0
          have hf1 := hfre 1
          have hf2 := hfre 2
          have e0 : (dn.length : Int).toNat * (k85).sz + 0 = dn.length * 3 := by show (dn.length : Int).toNat * 3 + 0 = _; omega
          have e1 : (dn.length : Int).toNat * (k85).sz + 1 = dn.length * 3 + 1 := by show (dn.length : Int).toNat * 3 + 1 = _; omega
          have e2 : (dn.length : Int).toNat * (k85).sz + 2 = dn.length * 3 + 2 := by show (dn.length : Int).toNat * 3 + 2 = _; omega
          rw [e0] at hx0 hf0
          rw [e1] at hx1 hf1
          rw [e2] at hx2 hf2
          clear e0 e1 e2 hMe hcce hfre hR3
          have HP' := Aside0.mk (show Kd.R k85 85 (((w2.setCell ⟨gi, dn.length * 3, none⟩ (.int .i64 d'.f0)).setCell ⟨gi, dn.length * 3 + 1, none⟩ (.int .i64 d'.f1)).setCell ⟨gi, dn.length * 3 + 2, none⟩ (.int .i64 d'.f2)) w.heap.size oki (.slice (some ⟨gi, 0, none⟩) row.length cu) (dn ++ [d'] ++ rs1) ∧ w2.grownBy (((w2.setCell ⟨gi, dn.length * 3, none⟩ (.int .i64 d'.f0)).setCell ⟨gi, dn.length * 3 + 1, none⟩ (.int .i64 d'.f1)).setCell ⟨gi, dn.length * 3 + 2, none⟩ (.int .i64 d'.f2)) (some gi) from by
            have h := HP.out
            rw [show (dn.length : Int).toNat * (k85).sz + 0 = dn.length * 3 from by show (dn.length : Int).toNat * 3 + 0 = _; omega, show (dn ++ d :: rs1).set (dn.length : Int).toNat d' = dn ++ [d'] ++ rs1 from by rw [Int.toNat_natCast, List.set_append_right _ _ (Nat.le_refl _)]; simp] at h
            exact h)
          clear HP
          go_wp2_with fail
          clear hx0 hx1 hx2 hf0 hf1 hf2
          go_roundg rs1.length
          case measure => simp only [List.length_cons] at hjq; omega
          case rel =>
            have hOKn := (HOK.out _ HRn.out).1
            exact ⟨dn ++ [d'], rs1, rs1', by simp, rfl, ⟨by have := HLi.out; simp only [List.length_cons] at this; simp only [List.length_append, List.length_singleton]; omega⟩, N2, ⟨by rw [HRi.out]; simp⟩, ⟨HP'.out.1⟩, ⟨Kd.H_grown HH3.out HP'.out.2 (fun k hk => by injection hk with hk; rw [← hk]; exact HRn.out)⟩,
              ⟨HB3.out.grown HP'.out.2 HB3.out.size (fun k hk => by injection hk with hk; omega)⟩, ⟨blk_grown BR3.out HP'.out.2 (fun e => by injection e with e; omega)⟩, ⟨blk_grown BP3.out HP'.out.2 (fun e => by injection e with e; omega)⟩⟩


end Go.Proofs.Ytefkbmhkhpekjaa.PB

namespace Go.Proofs.Ytefkbmhkhpekjaa.PB
open Go.RowKit Go.Proofs.YtefkbmhkhpekjaaW.PrintWords Go.Proofs.YtefkbmhkhpekjaaW.PrintLast Go.Proofs.YtefkbmhkhpekjaaW.PrintMore
attribute [local go_sem] max2_int min2_int max_two min_two max_three min_three max_four min_four   -- for this text's walks alone
open Go.Proofs.YtefkbmhkhpekjaaMine
set_option linter.unusedVariables false
set_option linter.unusedSimpArgs false

/-! ### impl_TurnPlain: function 35 -/
open Go.Maps in
theorem wpList_insert_own {H : Type} {P : Program} (w : World) {ops : Array Oper} {rest : List Oper} {o : Oper} {a : Act} {Q : Exit → Act → World → Prop}
    (hg : o.guard = none) (m x v : Operand) (t : TypeId) (hop : o.op = Op.insert t m x v)
    (k e : TypeId) (K : Keyed P k) (ht : P.underlying t = some (.map k e)) (R : Value → Option (DataW H × List MemPlace)) (b n : Nat) (D : DataW H)
    (hm : a.eval m = .map (some b)) (hown : w.ownsMap P k R b n D) (hn : n < maxLen) (key val : Value) (kl : Lit) (hx : a.eval x = key) (hv : a.eval v = val) (hkey : keyOf P k key = some kl)
    (d : DataW H) (ps : List MemPlace) (hval : R val = some (d, ps))
    (hK : ∀ w', w'.ownsMap P k R b (n + 1) (D.put kl d) → w.grownBy w' (some b) → wpList P ops Q rest (a.put o.dst undef) w') :
    wpList P ops Q (o :: rest) a w := by
  refine wpList_plain hg fun K' hK' => ?_
  obtain ⟨w', hrun, r1, r2⟩ := hown.update K ht hn hkey hval
  unfold Oper.wp
  simp [execOp, hop, hm, hx, hv, hrun, Result.andThen]
  exact hK' _ _ (hK w' r1 r2)
/-- The map of the changes: a take is a load, a give a store. -/
def plainD : DataW Unit := ((DataW.map []).put (.int .i64 5) (.lit (.int .i64 2))).put (.int .i64 6) (.lit (.int .i64 1))
def plainK (k : Int) : Int := if k = 5 then 2 else if k = 6 then 1 else k
theorem keyed3 : Go.Maps.Keyed Try.prog 3 := Go.Maps.int_keyed Try.underlying3
set_option maxRecDepth 100000 in
set_option maxHeartbeats 4000000 in
theorem turnPlain1 (w : World) (k p v c : Int) (bb : Bool) (gm b : Nat) (hk : 0 ≤ k ∧ k ≤ 9) (hm : w.heap[gm]? = some (.cells #[.map (some b)] 93 (0, 0))) (hown : w.ownsMap Try.prog 3 (plainElem Try.prog 3) b 2 plainD)
    (h1 : Go.Maps.has plainD (.int .i64 k) = bb) (h2 : plainD.atKey (.int .i64 k) (.lit (.int .i64 0)) = .lit (.int .i64 c)) :
    Calls Try.prog 83 #[.agg #[.int .i64 k, .int .i64 p, .int .i64 v], .pointer (some ⟨gm, 0, none⟩)] w fun e w' => e = .returned (.agg #[.int .i64 (if bb then c else k), .int .i64 p, .int .i64 v]) ∧ Below w.heap.size w w' := by
  have HM := Aside0.mk hm
  have hgl := blk_lt hm
  have HO := Aside0.mk hown
  have W : (Lit.int .i64 k).wf = true := WalkArith.wf_i64 (by omega)
  have hcm : ((w.alloc (Obj.cells #[.int .i64 k, .int .i64 p, .int .i64 v] 85)).alloc (Obj.cells #[.int .i64 0, .int .i64 0, .int .i64 0] 85)).cell? ⟨gm, 0, none⟩ = some (.map (some b)) := (blk_cell (blk_alloc (blk_alloc hm _) _) 0).trans rfl
  clear hm hown
  go_enter Try.func83, Try.ntmps83
  go_wp2_with (at_lookup; refine park ?_)
  refine ⟨?_⟩
  refine wpList_lookup_own_ok_int _ rfl _ _ 93 rfl 3 3 .i64 keyed3 Try.underlying93 Try.underlying3 (by kernel_rfl) b 2 plainD rfl ((HO.out.alloc _).alloc _) _ _ rfl (Go.Maps.keyOf_int_mk Try.underlying3 W) ?_
  intro c' hat hwc
  rw [h1]
  obtain rfl : c' = c := by rw [h2] at hat; injection hat with hat; injection hat with _ hat; exact hat.symm
  have hB : Below w.heap.size w ((w.alloc (Obj.cells #[.int .i64 k, .int .i64 p, .int .i64 v] 85)).alloc (Obj.cells #[.int .i64 0, .int .i64 0, .int .i64 0] 85)) := below_alloc (below_alloc (Below.refl _ _) _) _
  have HB := Aside0.mk hB
  clear hB
  cases bb
  · go_wp2_with fail
    refine bodyPost_ret (v := .agg #[.int .i64 k, .int .i64 p, .int .i64 v]) (by simp [results, Try.results83, go_sem]) rfl ⟨rfl, ?_⟩
    exact below_alloc (below_alloc (Below.refl _ _) _) _
  · go_wp2_with fail
    refine bodyPost_ret (v := .agg #[.int .i64 c', .int .i64 p, .int .i64 v]) (by simp [results, Try.results83, go_sem]) rfl ⟨rfl, ?_⟩
    exact below_alloc (below_alloc (Below.refl _ _) _) _

def plainF (d : S85) : Option S85 := if 0 ≤ d.f0 ∧ d.f0 ≤ 9 then some ⟨plainK d.f0, d.f1, d.f2⟩ else none
theorem plain_has (k : Int) (hk : 0 ≤ k ∧ k ≤ 9) : ∃ bb c, Go.Maps.has plainD (.int .i64 k) = bb ∧ plainD.atKey (.int .i64 k) (.lit (.int .i64 0)) = .lit (.int .i64 c) ∧ (if bb then c else k) = plainK k := by
  have : k = 0 ∨ k = 1 ∨ k = 2 ∨ k = 3 ∨ k = 4 ∨ k = 5 ∨ k = 6 ∨ k = 7 ∨ k = 8 ∨ k = 9 := by omega
  rcases this with rfl | rfl | rfl | rfl | rfl | rfl | rfl | rfl | rfl | rfl
  · exact ⟨false, 0, by rfl, by rfl, by rfl⟩
  · exact ⟨false, 0, by rfl, by rfl, by rfl⟩
  · exact ⟨false, 0, by rfl, by rfl, by rfl⟩
  · exact ⟨false, 0, by rfl, by rfl, by rfl⟩
  · exact ⟨false, 0, by rfl, by rfl, by rfl⟩
  · exact ⟨true, 2, by rfl, by rfl, by rfl⟩
  · exact ⟨true, 1, by rfl, by rfl, by rfl⟩
  · exact ⟨false, 0, by rfl, by rfl, by rfl⟩
  · exact ⟨false, 0, by rfl, by rfl, by rfl⟩
  · exact ⟨false, 0, by rfl, by rfl, by rfl⟩
theorem turnPlain1_calls (w : World) (d r : S85) (gm b : Nat) (hm : w.heap[gm]? = some (.cells #[.map (some b)] 93 (0, 0))) (hown : w.ownsMap Try.prog 3 (plainElem Try.prog 3) b 2 plainD) (h : plainF d = some r) :
    Calls Try.prog 83 #[.agg #[.int .i64 d.f0, .int .i64 d.f1, .int .i64 d.f2], .pointer (some ⟨gm, 0, none⟩)] w fun e w' => e = .returned (.agg #[.int .i64 r.f0, .int .i64 r.f1, .int .i64 r.f2]) ∧ Below w.heap.size w w' := by
  unfold plainF at h
  split at h
  · rename_i hk
    obtain ⟨bb, c, h1, h2, h3⟩ := plain_has d.f0 hk
    obtain rfl := Option.some.inj h
    have := turnPlain1 w d.f0 d.f1 d.f2 c bb gm b hk hm hown h1 h2
    rw [h3] at this
    exact this
  · exact absurd h (by simp)
theorem ownsMap_below {H : Type} {P : Program} {k : TypeId} {R : Value → Option (DataW H × List MemPlace)} {b n : Nat} {D : DataW H} {w W : World} (h : w.ownsMap P k R b n D) (hb : Below w.heap.size w W) : W.ownsMap P k R b n D := by
  have hlt := h.lt
  obtain ⟨es, clock, hh, F, hs, hD⟩ := h
  exact ⟨es, clock, (hb.block b hlt).trans hh, F, hs, hD⟩
def impl_TurnPlain.f (k : Nat) (l0_0 : List (List S85)) : Option (List (List S85)) := (impl_ProgOk.f k l0_0).bind fun b => if b = true then (impl_Prog_copied.f k l0_0).bind fun c => mapO (mapO plainF) c else some []
theorem impl_TurnPlain.mono : ∀ l0_0 k, LeO (impl_TurnPlain.f k l0_0) (impl_TurnPlain.f (k + 1) l0_0) := by
  intro l0_0 k
  unfold impl_TurnPlain.f
  exact LeO.bind (impl_ProgOk.mono _ _) (fun b => LeO.ite (LeO.bind (impl_Prog_copied.mono _ _) (fun _ => LeO.refl _)) (LeO.refl _))
set_option maxRecDepth 100000 in
set_option maxHeartbeats 8000000 in
theorem impl_TurnPlain.calls (k : Nat) (A0_0 : Option Addr) (c0_0 : Nat) (l0_0 : List (List (S85))) (r : List (List (S85))) (w : World) (hr0_0 : Kd.C (Kd.slice 85 k85) w A0_0 l0_0.length l0_0) (hc0_0 : l0_0.length ≤ c0_0) (h : impl_TurnPlain.f k l0_0 = some r) :
    Calls Try.prog 35 #[.agg #[.slice A0_0 l0_0.length c0_0]] w fun e w' => ∃ v0_ : Value, e = .returned (.agg #[v0_]) ∧ Kd.S (Kd.slice 85 k85) 82 w' w.heap.size (fun _ => True) v0_ r ∧ Below w.heap.size w w' := by
  have HC := Aside0.mk hr0_0
  obtain ⟨b, e1, h⟩ := Option.bind_eq_some_iff.mp h
  have E1 := Aside0.mk e1
  have H := Aside0.mk h
  clear hr0_0 e1 h
  have hmf : ∀ (fn : Fn) (first cap : Array Value) (w : World), (Instr.makeFunc fn first cap).run Try.prog w = .ok (.func fn first cap) w := fun _ _ _ _ => rfl
  have hmm := @run_makeMap Try.prog
  go_enter Try.func35, Try.ntmps35
  go_wp2_with (go_at_call 31; refine park ?_)
  refine ⟨?_⟩
  refine (impl_ProgOk.calls k A0_0 c0_0 l0_0 b _ (Kd.C_alloc (Kd.C_alloc HC.out _) _) hc0_0 E1.out).mono ?_
  rintro e w1 ⟨rfl, hb⟩
  have SZ : ((w.alloc (Obj.cells #[Value.slice A0_0 l0_0.length c0_0] 35)).alloc (Obj.cells #[Value.slice none 0 0] 35)).heap.size = w.heap.size + 2 := by rw [World.size_alloc, World.size_alloc]
  have hbr := blk_below (heap_alloc_new (w.alloc (Obj.cells #[Value.slice A0_0 l0_0.length c0_0] 35)) (Obj.cells #[Value.slice none 0 0] 35)) hb
  rw [World.size_alloc] at hbr
  have BR := Aside0.mk hbr
  have BP := Aside0.mk (blk_below (blk_alloc (heap_alloc_new w (Obj.cells #[Value.slice A0_0 l0_0.length c0_0] 35)) (Obj.cells #[Value.slice none 0 0] 35)) hb)
  have HB := Aside0.mk (below_then (below_alloc (below_alloc (Below.refl w.heap.size w) _) _) (below_alloc (below_alloc (Below.refl w.heap.size w) _) _).size hb)
  have HC1 := Aside0.mk (Kd.C_below (Kd.C_alloc (Kd.C_alloc HC.out _) _) hb)
  have LT := Aside0.mk (show w.heap.size + 2 ≤ w1.heap.size by have := hb.size; omega)
  clear hb hbr SZ HC E1
  cases b with
  | false =>
    have hcr : w1.cell? ⟨w.heap.size + 1, 0, none⟩ = some (.slice none 0 0) := (blk_cell BR.out 0).trans rfl
    have hfr := blk_frozen BR.out 0
    obtain rfl : [] = r := Option.some.inj H.out
    go_wp2_with fail
    refine bodyPost_ret (results_cell_row rfl _ _ (w.heap.size + 1) 35 #[.slice none 0 0] (0, 0) _ rfl (blk_set BR.out 0 _) Try.underlying35 rfl (by kernel_rfl)) rfl ?_
    exact ⟨_, rfl, Kd.S_nil _ _ _ _ _, below_set HB.out (by omega)⟩
  | true =>
    obtain ⟨cl, e2, e3⟩ := Option.bind_eq_some_iff.mp H.out
    have E2 := Aside0.mk e2
    have E3 := Aside0.mk e3
    clear e2 e3 H
    have hlt := LT.out
    have hown1 : (w1.alloc (.map #[] 0)).ownsMap Try.prog 3 (plainElem Try.prog 3) w1.heap.size 0 (.map [] : DataW Unit) := World.ownsMap_made _ _ _ _
    obtain ⟨w2, hr2, hown2, hg2⟩ := hown1.update (t := 93) (e := 3) keyed3 Try.underlying93 (by decide) (key := .int .i64 5) (val := .int .i64 2) (Go.Maps.keyOf_int_mk Try.underlying3 (by decide)) (plainElem_int Try.underlying3 (by decide))
    obtain ⟨w3, hr3, hown3, hg3⟩ := hown2.update (t := 93) (e := 3) keyed3 Try.underlying93 (by decide) (key := .int .i64 6) (val := .int .i64 1) (Go.Maps.keyOf_int_mk Try.underlying3 (by decide)) (plainElem_int Try.underlying3 (by decide))
    have HOWN := Aside0.mk hown3
    have HB3 := Aside0.mk (((below_alloc HB.out (.map #[] 0)).grown hg2 (below_alloc HB.out (.map #[] 0)).size (fun k hk => by injection hk with hk; omega)))
    have BR3 := Aside0.mk (blk_grown (blk_grown (blk_alloc BR.out (.map #[] 0)) hg2 (fun e => by injection e with e; omega)) hg3 (fun e => by injection e with e; omega))
    have BP3 := Aside0.mk (blk_grown (blk_grown (blk_alloc BP.out (.map #[] 0)) hg2 (fun e => by injection e with e; omega)) hg3 (fun e => by injection e with e; omega))
    have HB4 := Aside0.mk (HB3.out.grown hg3 HB3.out.size (fun k hk => by injection hk with hk; omega))
    clear hown1 hown2 hown3 HB3
    have HC3 := Aside0.mk (Kd.C_below (w := w1) HC1.out (show Below w1.heap.size w1 w3 from ((below_alloc (Below.refl w1.heap.size w1) (.map #[] 0)).grown hg2 (below_alloc (Below.refl w1.heap.size w1) (.map #[] 0)).size (fun k hk => by injection hk with hk; omega)).grown hg3 ((below_alloc (Below.refl w1.heap.size w1) (.map #[] 0)).grown hg2 (below_alloc (Below.refl w1.heap.size w1) (.map #[] 0)).size (fun k hk => by injection hk with hk; omega)).size (fun k hk => by injection hk with hk; omega)))
    clear hg2 hg3
    have hcp : (w3.alloc (Obj.cells #[.map (some w1.heap.size)] 93)).cell? ⟨w.heap.size, 0, none⟩ = some (.slice A0_0 l0_0.length c0_0) := (blk_cell (blk_alloc BP3.out _) 0).trans rfl
    go_wp2_with (go_at_call 82; refine park ?_)
    refine ⟨?_⟩
    clear hcp hr2 hr3
    have hmc := heap_alloc_new w3 (Obj.cells #[.map (some w1.heap.size)] 93)
    have hoc := HOWN.out.alloc (Obj.cells #[.map (some w1.heap.size)] 93)
    have HB5 := Aside0.mk (below_alloc HB4.out (Obj.cells #[.map (some w1.heap.size)] 93))
    have BR5 := Aside0.mk (blk_alloc BR3.out (Obj.cells #[.map (some w1.heap.size)] 93))
    refine (each83 k plainF (.pointer (some ⟨w3.heap.size, 0, none⟩)) A0_0 c0_0 l0_0 cl r _ (Kd.C_alloc HC3.out _) hc0_0
      (fun W d d' hW hd => turnPlain1_calls W d d' w3.heap.size w1.heap.size (blk_below hmc hW) (ownsMap_below hoc hW) hd) E2.out E3.out).mono ?_
    rintro e w5 ⟨v5, rfl, hS, hb⟩
    obtain ⟨Av, cv, rfl⟩ := Kd.S_slice hS
    have BR6 := Aside0.mk (blk_below BR5.out hb)
    have HB6 := Aside0.mk (below_then HB5.out HB5.out.size hb)
    have LT6 := Aside0.mk (show w.heap.size + 2 ≤ (w3.alloc (Obj.cells #[.map (some w1.heap.size)] 93)).heap.size from blk_lt BR5.out)
    have HS6 := Aside0.mk (Kd.S_lower (Kd.S_mono (ok' := fun k => w.heap.size + 2 ≤ k) (Kd.S_bound hS) (fun k hk => by have := hk.2.1; have := LT6.out; omega)) (show w.heap.size ≤ _ from HB5.out.size))
    clear hS hb hmc hoc
    have hcr : w5.cell? ⟨w.heap.size + 1, 0, none⟩ = some (.slice none 0 0) := (blk_cell BR6.out 0).trans rfl
    have hfr := blk_frozen BR6.out 0
    go_wp2_with fail
    refine bodyPost_ret (results_cell_row rfl _ _ (w.heap.size + 1) 35 #[.slice Av r.length cv] (0, 0) _ rfl (blk_set BR6.out 0 _) Try.underlying35 rfl (by kernel_rfl)) rfl ?_
    exact ⟨_, rfl, Kd.S_mono (Kd.S_far (p := ⟨w.heap.size + 1, 0, none⟩) HS6.out (fun k hk => by show k ≠ w.heap.size + 1; omega) _) (fun _ _ => trivial), below_set HB6.out (by omega)⟩


end Go.Proofs.Ytefkbmhkhpekjaa.PB

namespace Go.Proofs.Ytefkbmhkhpekjaa.PB
open Go.RowKit Go.Proofs.YtefkbmhkhpekjaaW.PrintWords Go.Proofs.YtefkbmhkhpekjaaW.PrintLast Go.Proofs.YtefkbmhkhpekjaaW.PrintMore
attribute [local go_sem] max2_int min2_int max_two min_two max_three min_three max_four min_four   -- for this text's walks alone
open Go.Proofs.YtefkbmhkhpekjaaMine
set_option linter.unusedVariables false
set_option linter.unusedSimpArgs false

/-! ### laws_FnShapePlain: function 6 -/
def laws_FnShapePlain.j0 : Nat → Int → Bool → Bool → Bool → List (List (S85)) → List (List (S85)) → Option (Bool)
  | 0, _, _, _, _, _, _ => none
  | k + 1, x3, x6, x8, x45, x432000, x437000 => if x45 = true then (if (x8 == x6) = true then ((laws_lpProg.f k x437000 x432000).bind fun t438 => (some t438)) else (some false)) else ((impl_ShapeOf.f x3 2).bind fun bt439 => ((impl_ShapeOf.f x3 0).bind fun bt444 => ((impl_TurnPlain.f k bt439.1).bind fun t449 => ((laws_lpProg.f k t449 bt444.1).bind fun t452 => (some t452)))))
def laws_FnShapePlain.f (k : Nat) (l0 : List Int) : Option (Bool) := if (l0.length : Int) > 1048576 then (some true) else ((spec_DrawShapeOf.f k l0).bind fun bt425 => ((spec_ShapeOf.f k bt425.1 bt425.2).bind fun bt427 => ((impl_ShapeOf.f bt425.1 bt425.2).bind fun bt432 => (if (bt432.2 != bt427.2) = true then (laws_FnShapePlain.j0 k bt425.1 bt427.2 bt432.2 true bt427.1 bt432.1) else ((laws_lpProg.f k bt432.1 bt427.1).bind fun t437 => (if t437 = true then (laws_FnShapePlain.j0 k bt425.1 bt427.2 bt432.2 (!bt432.2) bt427.1 bt432.1) else (laws_FnShapePlain.j0 k bt425.1 bt427.2 bt432.2 true bt427.1 bt432.1)))))))
theorem laws_FnShapePlain.mono_l : ∀ k, (∀ y0 y1 y2 y3 y4 y5, LeO (laws_FnShapePlain.j0 k y0 y1 y2 y3 y4 y5) (laws_FnShapePlain.j0 (k + 1) y0 y1 y2 y3 y4 y5))
  | 0 => fun _ _ _ _ _ _ r h => by simp [laws_FnShapePlain.j0] at h
  | k + 1 => by
    have ih0 := laws_FnShapePlain.mono_l k
    · intro y0 y1 y2 y3 y4 y5
      unfold laws_FnShapePlain.j0
      repeat' first
      | (with_reducible exact ih0 _ _ _ _ _ _)
      | (with_reducible exact impl_TurnPlain.mono _ _)
      | (with_reducible exact laws_lpProg.mono _ _ _)
      | (with_reducible exact spec_DrawShapeOf.mono _ _)
      | (with_reducible exact spec_ShapeOf.mono _ _ _)
      | (with_reducible exact LeO.refl _)
      | (with_reducible exact LeO.none _)
      | (with_reducible refine LeO.ite ?_ ?_)
      | (with_reducible refine LeO.bind ?_ (fun _ => ?_))
      | exact ih0 _ _ _ _ _ _
      | exact impl_TurnPlain.mono _ _
      | exact laws_lpProg.mono _ _ _
      | exact spec_DrawShapeOf.mono _ _
      | exact spec_ShapeOf.mono _ _ _
      | exact LeO.none _
      | refine LeO.ite ?_ ?_
      | refine LeO.bind ?_ (fun _ => ?_)
theorem laws_FnShapePlain.mono : ∀ a0 k, LeO (laws_FnShapePlain.f k a0) (laws_FnShapePlain.f (k + 1) a0) := by
  intro a0 k
  have ih0 := laws_FnShapePlain.mono_l k
  unfold laws_FnShapePlain.f
  repeat' first
      | (with_reducible exact ih0 _ _ _ _ _ _)
      | (with_reducible exact impl_TurnPlain.mono _ _)
      | (with_reducible exact laws_lpProg.mono _ _ _)
      | (with_reducible exact spec_DrawShapeOf.mono _ _)
      | (with_reducible exact spec_ShapeOf.mono _ _ _)
      | (with_reducible exact LeO.refl _)
      | (with_reducible exact LeO.none _)
      | (with_reducible refine LeO.ite ?_ ?_)
      | (with_reducible refine LeO.bind ?_ (fun _ => ?_))
      | exact ih0 _ _ _ _ _ _
      | exact impl_TurnPlain.mono _ _
      | exact laws_lpProg.mono _ _ _
      | exact spec_DrawShapeOf.mono _ _
      | exact spec_ShapeOf.mono _ _ _
      | exact LeO.none _
      | refine LeO.ite ?_ ?_
      | refine LeO.bind ?_ (fun _ => ?_)
set_option maxHeartbeats 8000000 in
set_option maxRecDepth 100000 in
theorem laws_FnShapePlain.calls (k : Nat) (A0 : Option Addr) (c0 : Nat) (l0 : List Int) (r : Bool) (w : World) (hr0 : Kd.C (Kd.int .u8) w A0 l0.length l0) (hc0 : l0.length ≤ c0) (h : laws_FnShapePlain.f k l0 = some r) :
    Calls Try.prog 6 #[.slice A0 l0.length c0] w fun e w' => e = .returned (.bool r) ∧ Below w.heap.size w w' := by
  have hu35 := Try.underlying35
  have HR0 := Aside0.mk hr0
  have HC0 := Aside0.mk hc0
  clear hr0 hc0
  have HB := Aside0.mk (Below.refl w.heap.size w)
  have H : (if (l0.length : Int) > 1048576 then (some true) else ((spec_DrawShapeOf.f k l0).bind fun bt425 => ((spec_ShapeOf.f k bt425.1 bt425.2).bind fun bt427 => ((impl_ShapeOf.f bt425.1 bt425.2).bind fun bt432 => (if (bt432.2 != bt427.2) = true then (laws_FnShapePlain.j0 k bt425.1 bt427.2 bt432.2 true bt427.1 bt432.1) else ((laws_lpProg.f k bt432.1 bt427.1).bind fun t437 => (if t437 = true then (laws_FnShapePlain.j0 k bt425.1 bt427.2 bt432.2 (!bt432.2) bt427.1 bt432.1) else (laws_FnShapePlain.j0 k bt425.1 bt427.2 bt432.2 true bt427.1 bt432.1)))))))) = some r := h
  clear h
  by_cases c2 : (l0.length : Int) > 1048576
  · rw [if_pos c2] at H
    have c2b0 : decide (1048576 < (l0.length : Int)) = true := decide_eq_true c2
    have c2b1 : decide (1048576 < l0.length) = true := decide_eq_true (by omega)
    clear c2
    obtain rfl := Option.some.inj H
    go_enter Try.func6, Try.ntmps6
    go_wp2
    go_ret
    exact ⟨by first | rfl | (simp [errW_none, errW_some] <;> rfl) | (simp [*, errW_none, errW_some] <;> rfl), by repeat (first | (with_reducible first | exact HB.out | apply below_alloc | apply pw_below_drewN | apply below_drew1) | exact HB.out)⟩
  · rw [if_neg c2] at H
    have c2b0 : decide (1048576 < (l0.length : Int)) = false := decide_eq_false c2
    have c2b1 : decide (1048576 < l0.length) = false := decide_eq_false (by omega)
    clear c2
    replace H := Option.bind_eq_some_iff.mp H
    obtain ⟨⟨t425, t426⟩, A30, H⟩ := H
    replace H : ((spec_ShapeOf.f k t425 t426).bind fun bt427 => ((impl_ShapeOf.f t425 t426).bind fun bt432 => (if (bt432.2 != bt427.2) = true then (laws_FnShapePlain.j0 k t425 bt427.2 bt432.2 true bt427.1 bt432.1) else ((laws_lpProg.f k bt432.1 bt427.1).bind fun t437 => (if t437 = true then (laws_FnShapePlain.j0 k t425 bt427.2 bt432.2 (!bt432.2) bt427.1 bt432.1) else (laws_FnShapePlain.j0 k t425 bt427.2 bt432.2 true bt427.1 bt432.1)))))) = some r := H
    have A3 := Aside0.mk A30
    clear A30
    replace H := Option.bind_eq_some_iff.mp H
    obtain ⟨⟨t427, t430⟩, A40, H⟩ := H
    replace H : ((impl_ShapeOf.f t425 t426).bind fun bt432 => (if (bt432.2 != t430) = true then (laws_FnShapePlain.j0 k t425 t430 bt432.2 true t427 bt432.1) else ((laws_lpProg.f k bt432.1 t427).bind fun t437 => (if t437 = true then (laws_FnShapePlain.j0 k t425 t430 bt432.2 (!bt432.2) t427 bt432.1) else (laws_FnShapePlain.j0 k t425 t430 bt432.2 true t427 bt432.1))))) = some r := H
    have A4 := Aside0.mk A40
    clear A40
    replace H := Option.bind_eq_some_iff.mp H
    obtain ⟨⟨t432, t435⟩, A50, H⟩ := H
    replace H : (if (t435 != t430) = true then (laws_FnShapePlain.j0 k t425 t430 t435 true t427 t432) else ((laws_lpProg.f k t432 t427).bind fun t437 => (if t437 = true then (laws_FnShapePlain.j0 k t425 t430 t435 (!t435) t427 t432) else (laws_FnShapePlain.j0 k t425 t430 t435 true t427 t432)))) = some r := H
    have A5 := Aside0.mk A50
    clear A50
    have HC6 := Aside0.mk H
    clear H
    go_enter Try.func6, Try.ntmps6
    go_upto_region 6 with (first | ((with_reducible refine gate_callee (f := 27) rfl ?_); refine goesL_ (some 18) rfl rfl Try.func27 (by kernel_rfl) rfl #[.slice A0 l0.length c0] rfl (by (try simp only [List.map_toArray, List.map_cons, List.map_nil]); first | done | rfl | (simp only [List.length_drop, List.length_take]; rfl)) ?_; (with_reducible refine (spec_DrawShapeOf.calls k _ _ l0 t425 t426 _ ?side1 ?side2 A3.out).mono ?_); (case side1 => repeat (first | exact HR0.out | (with_reducible refine Kd.C_alloc ?_ _) | (with_reducible refine Kd.C_drewN ?_ _) | (with_reducible refine Kd.C_drew ?_))); (case side2 => exact HC0.out); rintro e w7 ⟨rfl, hb⟩; refine ⟨_, rfl, ?_⟩; have n0_ := Aside0.mk (below_step (by repeat (first | (with_reducible first | exact HB.out | apply below_alloc | apply pw_below_drewN | apply below_drew1) | exact HB.out)) hb); clear HB; have HB := n0_; clear n0_; (try clear hb); (try clear hb2); (try clear hk); (try clear hi)) | ((with_reducible refine gate_callee (f := 28) rfl ?_); refine goesL_ (some 24) rfl rfl Try.func28 (by kernel_rfl) rfl #[.int .i64 t425, .int .i64 t426] rfl (by (try simp only [List.map_toArray, List.map_cons, List.map_nil]); first | done | rfl | (simp only [List.length_drop, List.length_take]; rfl)) ?_; (with_reducible refine (spec_ShapeOf.calls k t425 t426 t427 t430 _ A4.out).mono ?_); rintro e w8 ⟨v428, rfl, ho0, hb⟩; refine ⟨_, rfl, ?_⟩; have n0_ := Aside0.mk (Kd.N_lower (Kd.N_mono (ok' := fun k_ => True) ho0 (fun k_ hk_ => trivial)) (below_size (by repeat (first | (with_reducible first | exact HB.out | apply below_alloc | apply pw_below_drewN | apply below_drew1) | exact HB.out)))); have n1_ := Aside0.mk (below_step (by repeat (first | (with_reducible first | exact HB.out | apply below_alloc | apply pw_below_drewN | apply below_drew1) | exact HB.out)) hb); clear HB; have HO429 := n0_; have HB := n1_; clear n0_ n1_; (try clear hb); (try clear hb2); (try clear hk); (try clear hi); (try clear ho0)) | ((with_reducible refine gate_dst (N := 5) rfl ?_); refine box_event ?hg (N := 5) ?hd (cs := #[.slice none 0 0]) (t := 35) ?hr ?_; (case hd => rfl); (case hg => rfl); (case hr => first | (go_simp; done) | (go_simp; rfl)); intro gb431 hg w9 hbox hb; have n0_ := Aside0.mk (Kd.N_below (Kd.N_elderB (by (with_reducible repeat (first | apply Kd.N_alloc | apply Kd.N_drewN | apply Kd.N_drew)); exact HO429.out) gb431 (Nat.le_of_eq hg.symm)) hb); have n1_ := Aside0.mk (below_step (by repeat (first | (with_reducible first | exact HB.out | apply below_alloc | apply pw_below_drewN | apply below_drew1) | exact HB.out)) hb); have n2_ := Aside0.mk (hbox); have n3_ := Aside0.mk ((by rw [hg]; exact (below_size (by repeat (first | (with_reducible first | exact HB.out | apply below_alloc | apply pw_below_drewN | apply below_drew1) | exact HB.out))) : w.heap.size ≤ gb431)); have n4_ := Aside0.mk ((by rw [hg]; exact (below_size (by repeat (first | (with_reducible first | exact HB.out | apply below_alloc | apply pw_below_drewN | apply below_drew1) | exact HB.out))) : w.heap.size ≤ gb431)); clear HO429; clear HB; have HO429 := n0_; have HB := n1_; have BK431 := n2_; have GW431 := n3_; have GE431 := n4_; clear n0_ n1_ n2_ n3_ n4_; clear hb hbox hg; obtain ⟨Ao10, co10, eo10⟩ := Kd.N_slice HO429.out; subst eo10; have hcz11_0 : w9.cell? ⟨gb431, 0, none⟩ = some (.slice none 0 0) := (blk_cell BK431.out 0).trans rfl; have hfz11_0 := blk_frozen BK431.out 0) | ((with_reducible refine gate_callee (f := 29) rfl ?_); refine goesL_ (some 30) rfl rfl Try.func29 (by kernel_rfl) rfl #[.int .i64 t425, .int .i64 t426] rfl (by (try simp only [List.map_toArray, List.map_cons, List.map_nil]); first | done | rfl | (simp only [List.length_drop, List.length_take]; rfl)) ?_; (with_reducible refine (impl_ShapeOf.calls t425 t426 t432 t435 _ A5.out).mono ?_); rintro e w12 ⟨v433, rfl, ho0, hb⟩; refine ⟨_, rfl, ?_⟩; have n0_ := Aside0.mk (Kd.N_elder' (by (with_reducible repeat (first | apply Kd.N_alloc | apply Kd.N_drewN | apply Kd.N_drew)); exact (Kd.N_mono (Kd.N_far (p := ⟨gb431, 0, none⟩) (Kd.N_mono HO429.out (fun k_ hk => (⟨hk, hk.2⟩ : _ ∧ k_ ≠ gb431))) (fun _ hk => hk.2) (.slice Ao10 t427.length co10)) (fun _ h_ => h_.1))) (by first | exact Kd.N_base ho0 | exact Kd.S_base ho0) hb); have n1_ := Aside0.mk (Kd.N_lower (Kd.N_mono (ok' := fun k_ => some k_ ≠ (.slice Ao10 t427.length co10 : Value).ownBlock ∧ k_ ≠ gb431) ho0 (fun k_ hk_ => ⟨(Kd.fresh' (Kd.N_lt (by (with_reducible repeat (first | apply Kd.N_alloc | apply Kd.N_drewN | apply Kd.N_drew)); exact (Kd.N_mono (Kd.N_far (p := ⟨gb431, 0, none⟩) (Kd.N_mono HO429.out (fun k_ hk => (⟨hk, hk.2⟩ : _ ∧ k_ ≠ gb431))) (fun _ hk => hk.2) (.slice Ao10 t427.length co10)) (fun _ h_ => h_.1)))) k_ hk_), (Kd.freshB (g := gb431) (o := .cells #[.slice Ao10 t427.length co10] 35 (0, 0)) (by (with_reducible repeat (first | refine blk_drewN ?_ _ | refine blk_drew ?_ | refine blk_alloc ?_ _)); refine blk_put (cs := #[.slice none 0 0]) ?_ 0 _ rfl; (with_reducible repeat (first | refine blk_drewN ?_ _ | refine blk_drew ?_ | refine blk_alloc ?_ _)); exact BK431.out) k_ hk_)⟩)) (below_size (by repeat (first | (with_reducible first | exact HB.out | apply below_alloc | apply pw_below_drewN | apply below_drew1 | refine below_set ?_ GE431.out) | exact HB.out)))); have n2_ := Aside0.mk (blk_below (g := gb431) (o := .cells #[.slice Ao10 t427.length co10] 35 (0, 0)) (by (with_reducible repeat (first | refine blk_drewN ?_ _ | refine blk_drew ?_ | refine blk_alloc ?_ _)); refine blk_put (cs := #[.slice none 0 0]) ?_ 0 _ rfl; (with_reducible repeat (first | refine blk_drewN ?_ _ | refine blk_drew ?_ | refine blk_alloc ?_ _)); exact BK431.out) hb); have n3_ := Aside0.mk (below_step (by repeat (first | (with_reducible first | exact HB.out | apply below_alloc | apply pw_below_drewN | apply below_drew1 | refine below_set ?_ GE431.out) | exact HB.out)) hb); clear HO429; clear BK431; clear HB; have HO429 := n0_; have HO434 := n1_; have BK431 := n2_; have HB := n3_; clear n0_ n1_ n2_ n3_; (try clear hb); (try clear hb2); (try clear hk); (try clear hi); (try clear ho0)) | ((with_reducible refine gate_dst (N := 7) rfl ?_); refine box_event ?hg (N := 7) ?hd (cs := #[.slice none 0 0]) (t := 35) ?hr ?_; (case hd => rfl); (case hg => rfl); (case hr => first | (go_simp; done) | (go_simp; rfl)); intro gb436 hg w13 hbox hb; have n0_ := Aside0.mk (Kd.N_below (Kd.N_elderB (by (with_reducible repeat (first | apply Kd.N_alloc | apply Kd.N_drewN | apply Kd.N_drew)); exact HO429.out) gb436 (Nat.le_of_eq hg.symm)) hb); have n1_ := Aside0.mk (Kd.N_below (Kd.N_elderB (by (with_reducible repeat (first | apply Kd.N_alloc | apply Kd.N_drewN | apply Kd.N_drew)); exact HO434.out) gb436 (Nat.le_of_eq hg.symm)) hb); have n2_ := Aside0.mk (blk_below (g := gb431) (o := .cells #[.slice Ao10 t427.length co10] 35 (0, 0)) (by (with_reducible repeat (first | refine blk_drewN ?_ _ | refine blk_drew ?_ | refine blk_alloc ?_ _)); exact BK431.out) hb); have n3_ := Aside0.mk (below_step (by repeat (first | (with_reducible first | exact HB.out | apply below_alloc | apply pw_below_drewN | apply below_drew1 | refine below_set ?_ GE431.out) | exact HB.out)) hb); have n4_ := Aside0.mk (hbox); have n5_ := Aside0.mk ((by rw [hg]; exact (below_size (by repeat (first | (with_reducible first | exact HB.out | apply below_alloc | apply pw_below_drewN | apply below_drew1 | refine below_set ?_ GE431.out) | exact HB.out))) : w.heap.size ≤ gb436)); have n6_ := Aside0.mk ((by rw [hg]; exact (below_size (by repeat (first | (with_reducible first | exact HB.out | apply below_alloc | apply pw_below_drewN | apply below_drew1 | refine below_set ?_ GE431.out) | exact HB.out))) : w.heap.size ≤ gb436)); have n7_ := Aside0.mk ((by rw [hg]; exact Nat.ne_of_lt (blk_lt (g := gb431) (o := .cells #[.slice Ao10 t427.length co10] 35 (0, 0)) (by (with_reducible repeat (first | refine blk_drewN ?_ _ | refine blk_drew ?_ | refine blk_alloc ?_ _)); exact BK431.out)) : gb431 ≠ gb436)); have n8_ := Aside0.mk ((by rw [hg]; exact Nat.ne_of_gt (blk_lt (g := gb431) (o := .cells #[.slice Ao10 t427.length co10] 35 (0, 0)) (by (with_reducible repeat (first | refine blk_drewN ?_ _ | refine blk_drew ?_ | refine blk_alloc ?_ _)); exact BK431.out)) : gb436 ≠ gb431)); clear HO429; clear HO434; clear BK431; clear HB; have HO429 := n0_; have HO434 := n1_; have BK431 := n2_; have HB := n3_; have BK436 := n4_; have GW436 := n5_; have GE436 := n6_; have NB431_436 := n7_; have NB436_431 := n8_; clear n0_ n1_ n2_ n3_ n4_ n5_ n6_ n7_ n8_; clear hb hbox hg; obtain ⟨Ao14, co14, eo14⟩ := Kd.N_slice HO434.out; subst eo14; have hnb15 := NB436_431.out; have hnc15 := NB431_436.out; have hcz16_0 : w13.cell? ⟨gb436, 0, none⟩ = some (.slice none 0 0) := (blk_cell BK436.out 0).trans rfl; have hfz16_0 := blk_frozen BK436.out 0))
    (try simp only [Act.put, List.setIfInBounds_toArray, List.set_cons_zero, List.set_cons_succ])
    go_cut [45] (fun v45 wc => ∃ (kq : Nat) (x45_5 : Bool), v45 = .bool x45_5 ∧ Aside0 (laws_FnShapePlain.j0 kq t425 t430 t435 x45_5 t427 t432 = some r) ∧ Aside0 (kq ≤ k) ∧ Aside0 (Kd.N (Kd.slice 85 k85) 82 wc w.heap.size (fun k_ => some k_ ≠ ((.slice Ao14 t432.length co14) : Value).ownBlock ∧ k_ ≠ gb431 ∧ k_ ≠ gb436) (.slice Ao10 t427.length co10) t427) ∧ Aside0 (Kd.N (Kd.slice 85 k85) 82 wc w.heap.size (fun k_ => some k_ ≠ ((.slice Ao10 t427.length co10) : Value).ownBlock ∧ k_ ≠ gb431 ∧ k_ ≠ gb436) (.slice Ao14 t432.length co14) t432) ∧ Aside0 (wc.heap[gb431]? = some (.cells #[(.slice Ao10 t427.length co10)] 35 (0, 0))) ∧ Aside0 (wc.heap[gb436]? = some (.cells #[(.slice Ao14 t432.length co14)] 35 (0, 0))) ∧ Aside0 (Below w.heap.size w wc))
    case first =>
      have H := HC6.out
      clear HC6
      by_cases c17 : (t435 != t430) = true
      · rw [if_pos c17] at H
        have c17b0 : (t435 != t430) = true := c17
        (try (have c17b1 : decide (t435 = t430) = false := by simpa using c17))
        (try (have c17b2 : (t435 == t430) = false := by simpa using c17))
        (try (have c17b3 : ¬ (t435 = t430) := by simpa using c17))
        clear c17
        (first | rw [c17b0] | (simp only [i64_w, i32_w]; rw [c17b0]) | skip)
        have H' := Aside0.mk H
        clear H
        go_wp2
        go_meet
        case rel => exact ⟨_, (true), (by first | rfl | (simp; done) | (simp [*]; done)), H', ⟨by first | omega | exact Nat.le_refl _⟩, ⟨by (with_reducible repeat (first | apply Kd.N_alloc | apply Kd.N_drewN | apply Kd.N_drew)); exact Kd.N_mono (Kd.N_far (p := ⟨gb436, 0, none⟩) (Kd.N_mono HO429.out (fun k_ hk => (⟨hk, hk.2⟩ : _ ∧ k_ ≠ gb436))) (fun _ hk => hk.2) (.slice Ao14 t432.length co14)) (fun _ hk => ⟨hk.1.1.2, ⟨hk.1.1.1.2, hk.1.2⟩⟩)⟩, ⟨by (with_reducible repeat (first | apply Kd.N_alloc | apply Kd.N_drewN | apply Kd.N_drew)); exact Kd.N_mono (Kd.N_far (p := ⟨gb436, 0, none⟩) (Kd.N_mono HO434.out (fun k_ hk => (⟨hk, hk.2⟩ : _ ∧ k_ ≠ gb436))) (fun _ hk => hk.2) (.slice Ao14 t432.length co14)) (fun _ hk => ⟨hk.1.1.1, ⟨hk.1.1.2, hk.1.2⟩⟩)⟩, ⟨by (with_reducible repeat (first | refine blk_drewN ?_ _ | refine blk_drew ?_ | refine blk_alloc ?_ _)); refine blk_far ?_ NB431_436.out _; (with_reducible repeat (first | refine blk_drewN ?_ _ | refine blk_drew ?_ | refine blk_alloc ?_ _)); exact BK431.out⟩, ⟨by (with_reducible repeat (first | refine blk_drewN ?_ _ | refine blk_drew ?_ | refine blk_alloc ?_ _)); refine blk_put (cs := #[.slice none 0 0]) ?_ 0 _ rfl; (with_reducible repeat (first | refine blk_drewN ?_ _ | refine blk_drew ?_ | refine blk_alloc ?_ _)); exact BK436.out⟩, ⟨by repeat (first | (with_reducible first | exact HB.out | apply below_alloc | apply pw_below_drewN | apply below_drew1 | refine below_set ?_ GE431.out | refine below_set ?_ GE436.out) | exact HB.out)⟩⟩
      · rw [if_neg c17] at H
        have c17b0 : (t435 != t430) = false := by simpa using c17
        (try (have c17b1 : decide (t435 = t430) = true := by simpa using c17))
        (try (have c17b2 : (t435 == t430) = true := by simpa using c17))
        clear c17
        (first | rw [c17b0] | (simp only [i64_w, i32_w]; rw [c17b0]) | skip)
        replace H := Option.bind_eq_some_iff.mp H
        obtain ⟨t437, A180, H⟩ := H
        replace H : (if t437 = true then (laws_FnShapePlain.j0 k t425 t430 t435 (!t435) t427 t432) else (laws_FnShapePlain.j0 k t425 t430 t435 true t427 t432)) = some r := H
        have A18 := Aside0.mk A180
        clear A180
        by_cases c19 : t437 = true
        · subst c19
          have H1 : (laws_FnShapePlain.j0 k t425 t430 t435 (!t435) t427 t432) = some r := by rw [if_pos rfl] at H; exact H
          clear H
          have H := H1
          clear H1
          have H' := Aside0.mk H
          clear H
          have hnb20 := NB436_431.out
          have hnc20 := NB431_436.out
          have hcz21_0 : w13.cell? ⟨gb436, 0, none⟩ = some (.slice none 0 0) := (blk_cell BK436.out 0).trans rfl
          have hfz21_0 := blk_frozen BK436.out 0
          have hcz22_0 : w13.cell? ⟨gb431, 0, none⟩ = some (.slice Ao10 t427.length co10) := (blk_cell BK431.out 0).trans rfl
          have hfz22_0 := blk_frozen BK431.out 0
          go_wp2_with (first | (go_at_call 30; (with_reducible refine (laws_lpProg.calls k _ _ t432 _ _ t427 true _ ?side1 ?side2 ?side3 ?side4 A18.out).mono ?_); (case side1 => refine (Kd.N_reads' (e := 82) (base := w.heap.size) (ok := fun k_ => ((some k_ ≠ (.slice Ao10 t427.length co10 : Value).ownBlock ∧ k_ ≠ gb431) ∧ k_ ≠ gb436)) (n := t432.length) (c := co14) ?_).2.2; exact (by (with_reducible repeat (first | apply Kd.N_alloc | apply Kd.N_drewN | apply Kd.N_drew)); exact (Kd.N_mono (Kd.N_far (p := ⟨gb436, 0, none⟩) (Kd.N_mono HO434.out (fun k_ hk => (⟨hk, hk.2⟩ : _ ∧ k_ ≠ gb436))) (fun _ hk => hk.2) (.slice Ao14 t432.length co14)) (fun _ h_ => h_.1)))); (case side2 => exact (Kd.N_reads' HO434.out).2.1); (case side3 => refine (Kd.N_reads' (e := 82) (base := w.heap.size) (ok := fun k_ => (((True ∧ k_ ≠ gb431) ∧ some k_ ≠ (.slice Ao14 t432.length co14 : Value).ownBlock) ∧ k_ ≠ gb436)) (n := t427.length) (c := co10) ?_).2.2; exact (by (with_reducible repeat (first | apply Kd.N_alloc | apply Kd.N_drewN | apply Kd.N_drew)); exact (Kd.N_mono (Kd.N_far (p := ⟨gb436, 0, none⟩) (Kd.N_mono HO429.out (fun k_ hk => (⟨hk, hk.2⟩ : _ ∧ k_ ≠ gb436))) (fun _ hk => hk.2) (.slice Ao14 t432.length co14)) (fun _ h_ => h_.1)))); (case side4 => exact (Kd.N_reads' HO429.out).2.1); rintro e w23 ⟨rfl, hb⟩; have n0_ := Aside0.mk (Kd.N_below (by (with_reducible repeat (first | apply Kd.N_alloc | apply Kd.N_drewN | apply Kd.N_drew)); exact (Kd.N_mono (Kd.N_far (p := ⟨gb436, 0, none⟩) (Kd.N_mono HO429.out (fun k_ hk => (⟨hk, hk.2⟩ : _ ∧ k_ ≠ gb436))) (fun _ hk => hk.2) (.slice Ao14 t432.length co14)) (fun _ h_ => h_.1))) hb); have n1_ := Aside0.mk (Kd.N_below (by (with_reducible repeat (first | apply Kd.N_alloc | apply Kd.N_drewN | apply Kd.N_drew)); exact (Kd.N_mono (Kd.N_far (p := ⟨gb436, 0, none⟩) (Kd.N_mono HO434.out (fun k_ hk => (⟨hk, hk.2⟩ : _ ∧ k_ ≠ gb436))) (fun _ hk => hk.2) (.slice Ao14 t432.length co14)) (fun _ h_ => h_.1))) hb); have n2_ := Aside0.mk (blk_below (g := gb431) (o := .cells #[.slice Ao10 t427.length co10] 35 (0, 0)) (by (with_reducible repeat (first | refine blk_drewN ?_ _ | refine blk_drew ?_ | refine blk_alloc ?_ _)); refine blk_far ?_ NB431_436.out _; (with_reducible repeat (first | refine blk_drewN ?_ _ | refine blk_drew ?_ | refine blk_alloc ?_ _)); exact BK431.out) hb); have n3_ := Aside0.mk (blk_below (g := gb436) (o := .cells #[.slice Ao14 t432.length co14] 35 (0, 0)) (by (with_reducible repeat (first | refine blk_drewN ?_ _ | refine blk_drew ?_ | refine blk_alloc ?_ _)); refine blk_put (cs := #[.slice none 0 0]) ?_ 0 _ rfl; (with_reducible repeat (first | refine blk_drewN ?_ _ | refine blk_drew ?_ | refine blk_alloc ?_ _)); exact BK436.out) hb); have n4_ := Aside0.mk (below_step (by repeat (first | (with_reducible first | exact HB.out | apply below_alloc | apply pw_below_drewN | apply below_drew1 | refine below_set ?_ GE431.out | refine below_set ?_ GE436.out) | exact HB.out)) hb); clear HO429; clear HO434; clear BK431; clear BK436; clear HB; have HO429 := n0_; have HO434 := n1_; have BK431 := n2_; have BK436 := n3_; have HB := n4_; clear n0_ n1_ n2_ n3_ n4_; (try clear hb); (try clear hb2); (try clear hk); (try clear hi)))
          go_meet
          case rel => exact ⟨_, (!t435), (by first | rfl | (simp; done) | (simp [*]; done)), H', ⟨by first | omega | exact Nat.le_refl _⟩, ⟨by (with_reducible repeat (first | apply Kd.N_alloc | apply Kd.N_drewN | apply Kd.N_drew)); exact Kd.N_mono HO429.out (fun _ hk => ⟨hk.1.2, ⟨hk.1.1.2, hk.2⟩⟩)⟩, ⟨by (with_reducible repeat (first | apply Kd.N_alloc | apply Kd.N_drewN | apply Kd.N_drew)); exact Kd.N_mono HO434.out (fun _ hk => ⟨hk.1.1, ⟨hk.1.2, hk.2⟩⟩)⟩, ⟨by (with_reducible repeat (first | refine blk_drewN ?_ _ | refine blk_drew ?_ | refine blk_alloc ?_ _)); exact BK431.out⟩, ⟨by (with_reducible repeat (first | refine blk_drewN ?_ _ | refine blk_drew ?_ | refine blk_alloc ?_ _)); exact BK436.out⟩, ⟨by repeat (first | (with_reducible first | exact HB.out | apply below_alloc | apply pw_below_drewN | apply below_drew1 | refine below_set ?_ GE431.out | refine below_set ?_ GE436.out) | exact HB.out)⟩⟩
        · replace c19 := Bool.eq_false_iff.mpr c19
          subst c19
          have H1 : (laws_FnShapePlain.j0 k t425 t430 t435 true t427 t432) = some r := by rw [if_neg (show ¬ (false = true) by decide)] at H; exact H
          clear H
          have H := H1
          clear H1
          have H' := Aside0.mk H
          clear H
          have hnb24 := NB436_431.out
          have hnc24 := NB431_436.out
          have hcz25_0 : w13.cell? ⟨gb436, 0, none⟩ = some (.slice none 0 0) := (blk_cell BK436.out 0).trans rfl
          have hfz25_0 := blk_frozen BK436.out 0
          have hcz26_0 : w13.cell? ⟨gb431, 0, none⟩ = some (.slice Ao10 t427.length co10) := (blk_cell BK431.out 0).trans rfl
          have hfz26_0 := blk_frozen BK431.out 0
          go_wp2_with (first | (go_at_call 30; (with_reducible refine (laws_lpProg.calls k _ _ t432 _ _ t427 false _ ?side1 ?side2 ?side3 ?side4 A18.out).mono ?_); (case side1 => refine (Kd.N_reads' (e := 82) (base := w.heap.size) (ok := fun k_ => ((some k_ ≠ (.slice Ao10 t427.length co10 : Value).ownBlock ∧ k_ ≠ gb431) ∧ k_ ≠ gb436)) (n := t432.length) (c := co14) ?_).2.2; exact (by (with_reducible repeat (first | apply Kd.N_alloc | apply Kd.N_drewN | apply Kd.N_drew)); exact (Kd.N_mono (Kd.N_far (p := ⟨gb436, 0, none⟩) (Kd.N_mono HO434.out (fun k_ hk => (⟨hk, hk.2⟩ : _ ∧ k_ ≠ gb436))) (fun _ hk => hk.2) (.slice Ao14 t432.length co14)) (fun _ h_ => h_.1)))); (case side2 => exact (Kd.N_reads' HO434.out).2.1); (case side3 => refine (Kd.N_reads' (e := 82) (base := w.heap.size) (ok := fun k_ => (((True ∧ k_ ≠ gb431) ∧ some k_ ≠ (.slice Ao14 t432.length co14 : Value).ownBlock) ∧ k_ ≠ gb436)) (n := t427.length) (c := co10) ?_).2.2; exact (by (with_reducible repeat (first | apply Kd.N_alloc | apply Kd.N_drewN | apply Kd.N_drew)); exact (Kd.N_mono (Kd.N_far (p := ⟨gb436, 0, none⟩) (Kd.N_mono HO429.out (fun k_ hk => (⟨hk, hk.2⟩ : _ ∧ k_ ≠ gb436))) (fun _ hk => hk.2) (.slice Ao14 t432.length co14)) (fun _ h_ => h_.1)))); (case side4 => exact (Kd.N_reads' HO429.out).2.1); rintro e w27 ⟨rfl, hb⟩; have n0_ := Aside0.mk (Kd.N_below (by (with_reducible repeat (first | apply Kd.N_alloc | apply Kd.N_drewN | apply Kd.N_drew)); exact (Kd.N_mono (Kd.N_far (p := ⟨gb436, 0, none⟩) (Kd.N_mono HO429.out (fun k_ hk => (⟨hk, hk.2⟩ : _ ∧ k_ ≠ gb436))) (fun _ hk => hk.2) (.slice Ao14 t432.length co14)) (fun _ h_ => h_.1))) hb); have n1_ := Aside0.mk (Kd.N_below (by (with_reducible repeat (first | apply Kd.N_alloc | apply Kd.N_drewN | apply Kd.N_drew)); exact (Kd.N_mono (Kd.N_far (p := ⟨gb436, 0, none⟩) (Kd.N_mono HO434.out (fun k_ hk => (⟨hk, hk.2⟩ : _ ∧ k_ ≠ gb436))) (fun _ hk => hk.2) (.slice Ao14 t432.length co14)) (fun _ h_ => h_.1))) hb); have n2_ := Aside0.mk (blk_below (g := gb431) (o := .cells #[.slice Ao10 t427.length co10] 35 (0, 0)) (by (with_reducible repeat (first | refine blk_drewN ?_ _ | refine blk_drew ?_ | refine blk_alloc ?_ _)); refine blk_far ?_ NB431_436.out _; (with_reducible repeat (first | refine blk_drewN ?_ _ | refine blk_drew ?_ | refine blk_alloc ?_ _)); exact BK431.out) hb); have n3_ := Aside0.mk (blk_below (g := gb436) (o := .cells #[.slice Ao14 t432.length co14] 35 (0, 0)) (by (with_reducible repeat (first | refine blk_drewN ?_ _ | refine blk_drew ?_ | refine blk_alloc ?_ _)); refine blk_put (cs := #[.slice none 0 0]) ?_ 0 _ rfl; (with_reducible repeat (first | refine blk_drewN ?_ _ | refine blk_drew ?_ | refine blk_alloc ?_ _)); exact BK436.out) hb); have n4_ := Aside0.mk (below_step (by repeat (first | (with_reducible first | exact HB.out | apply below_alloc | apply pw_below_drewN | apply below_drew1 | refine below_set ?_ GE431.out | refine below_set ?_ GE436.out) | exact HB.out)) hb); clear HO429; clear HO434; clear BK431; clear BK436; clear HB; have HO429 := n0_; have HO434 := n1_; have BK431 := n2_; have BK436 := n3_; have HB := n4_; clear n0_ n1_ n2_ n3_ n4_; (try clear hb); (try clear hb2); (try clear hk); (try clear hi)))
          go_meet
          case rel => exact ⟨_, (true), (by first | rfl | (simp; done) | (simp [*]; done)), H', ⟨by first | omega | exact Nat.le_refl _⟩, ⟨by (with_reducible repeat (first | apply Kd.N_alloc | apply Kd.N_drewN | apply Kd.N_drew)); exact Kd.N_mono HO429.out (fun _ hk => ⟨hk.1.2, ⟨hk.1.1.2, hk.2⟩⟩)⟩, ⟨by (with_reducible repeat (first | apply Kd.N_alloc | apply Kd.N_drewN | apply Kd.N_drew)); exact Kd.N_mono HO434.out (fun _ hk => ⟨hk.1.1, ⟨hk.1.2, hk.2⟩⟩)⟩, ⟨by (with_reducible repeat (first | refine blk_drewN ?_ _ | refine blk_drew ?_ | refine blk_alloc ?_ _)); exact BK431.out⟩, ⟨by (with_reducible repeat (first | refine blk_drewN ?_ _ | refine blk_drew ?_ | refine blk_alloc ?_ _)); exact BK436.out⟩, ⟨by repeat (first | (with_reducible first | exact HB.out | apply below_alloc | apply pw_below_drewN | apply below_drew1 | refine below_set ?_ GE431.out | refine below_set ?_ GE436.out) | exact HB.out)⟩⟩
    case rest =>
      clear HC6
      try clear c1
      try clear c2
      try clear c2b0
      try clear c2b1
      try clear p2
      try clear c6
      try clear c15
      try clear c17
      try clear c17b0
      try clear c17b1
      try clear c17b2
      try clear c19
      try clear c20
      try clear c24
      try clear c27
      try clear hcz11_0
      try clear hcz16_0
      try clear hcz21_0
      try clear hcz22_0
      try clear hcz25_0
      try clear hcz26_0
      try clear hfz11_0
      try clear hfz16_0
      try clear hfz21_0
      try clear hfz22_0
      try clear hfz25_0
      try clear hfz26_0
      obtain ⟨kq, x45_5, rfl, HA, HJ5, HO_432000, HO_437000, BK431, BK436, HB⟩ := hcut
      cases kq with
      | zero => exact absurd HA.out (by simp [laws_FnShapePlain.j0])
      | succ kj5 =>
        have H := HA.out
        clear HA
        simp only [laws_FnShapePlain.j0] at H
        by_cases c28 : x45_5 = true
        · subst c28
          have H1 : (if (t435 == t430) = true then ((laws_lpProg.f kj5 t432 t427).bind fun t438 => (some t438)) else (some false)) = some r := by rw [if_pos rfl] at H; exact H
          clear H
          have H := H1
          clear H1
          by_cases c29 : (t435 == t430) = true
          · rw [if_pos c29] at H
            have c29b0 : (t435 == t430) = true := c29
            (try (have c29b1 : decide (t435 = t430) = true := by simpa using c29))
            (try (have c29b2 : (t435 == t430) = true := by simpa using c29))
            clear c29
            replace H := Option.bind_eq_some_iff.mp H
            obtain ⟨t438, A300, H⟩ := H
            replace H : (some t438) = some r := H
            have A30 := Aside0.mk A300
            clear A300
            obtain rfl := Option.some.inj H
            have hnb31 := NB436_431.out
            have hnc31 := NB431_436.out
            have hcz32_0 : wc.cell? ⟨gb436, 0, none⟩ = some (.slice Ao14 t432.length co14) := (blk_cell BK436.out 0).trans rfl
            have hfz32_0 := blk_frozen BK436.out 0
            have hcz33_0 : wc.cell? ⟨gb431, 0, none⟩ = some (.slice Ao10 t427.length co10) := (blk_cell BK431.out 0).trans rfl
            have hfz33_0 := blk_frozen BK431.out 0
            go_wp2_with (first | (go_at_call 30; (with_reducible refine (laws_lpProg.calls kj5 _ _ t432 _ _ t427 t438 _ ?side1 ?side2 ?side3 ?side4 A30.out).mono ?_); (case side1 => repeat (first | exact (Kd.N_reads' HO_437000.out).2.2 | (with_reducible refine Kd.C_alloc ?_ _) | (with_reducible refine Kd.C_drewN ?_ _) | (with_reducible refine Kd.C_drew ?_))); (case side2 => exact (Kd.N_reads' HO_437000.out).2.1); (case side3 => repeat (first | exact (Kd.N_reads' HO_432000.out).2.2 | (with_reducible refine Kd.C_alloc ?_ _) | (with_reducible refine Kd.C_drewN ?_ _) | (with_reducible refine Kd.C_drew ?_))); (case side4 => exact (Kd.N_reads' HO_432000.out).2.1); rintro e w34 ⟨rfl, hb⟩; have n0_ := Aside0.mk (Kd.N_below (by (with_reducible repeat (first | apply Kd.N_alloc | apply Kd.N_drewN | apply Kd.N_drew)); exact HO_432000.out) hb); have n1_ := Aside0.mk (Kd.N_below (by (with_reducible repeat (first | apply Kd.N_alloc | apply Kd.N_drewN | apply Kd.N_drew)); exact HO_437000.out) hb); have n2_ := Aside0.mk (blk_below (g := gb431) (o := .cells #[.slice Ao10 t427.length co10] 35 (0, 0)) (by (with_reducible repeat (first | refine blk_drewN ?_ _ | refine blk_drew ?_ | refine blk_alloc ?_ _)); exact BK431.out) hb); have n3_ := Aside0.mk (blk_below (g := gb436) (o := .cells #[.slice Ao14 t432.length co14] 35 (0, 0)) (by (with_reducible repeat (first | refine blk_drewN ?_ _ | refine blk_drew ?_ | refine blk_alloc ?_ _)); exact BK436.out) hb); have n4_ := Aside0.mk (below_step (by repeat (first | (with_reducible first | exact HB.out | apply below_alloc | apply pw_below_drewN | apply below_drew1 | refine below_set ?_ GE431.out | refine below_set ?_ GE436.out) | exact HB.out)) hb); clear HO_432000; clear HO_437000; clear BK431; clear BK436; clear HB; have HO_432000 := n0_; have HO_437000 := n1_; have BK431 := n2_; have BK436 := n3_; have HB := n4_; clear n0_ n1_ n2_ n3_ n4_; (try clear hb); (try clear hb2); (try clear hk); (try clear hi)))
            go_ret
            exact ⟨by first | rfl | (simp [errW_none, errW_some] <;> rfl) | (simp [*, errW_none, errW_some] <;> rfl), by repeat (first | (with_reducible first | exact HB.out | apply below_alloc | apply pw_below_drewN | apply below_drew1 | refine below_set ?_ GE431.out | refine below_set ?_ GE436.out) | exact HB.out)⟩
          · rw [if_neg c29] at H
            have c29b0 : (t435 == t430) = false := by simpa using c29
            (try (have c29b1 : decide (t435 = t430) = false := by simpa using c29))
            (try (have c29b2 : (t435 == t430) = false := by simpa using c29))
            (try (have c29b3 : ¬ (t435 = t430) := by simpa using c29))
            clear c29
            obtain rfl := Option.some.inj H
            go_wp2
            go_ret
            exact ⟨by first | rfl | (simp [errW_none, errW_some] <;> rfl) | (simp [*, errW_none, errW_some] <;> rfl), by repeat (first | (with_reducible first | exact HB.out | apply below_alloc | apply pw_below_drewN | apply below_drew1 | refine below_set ?_ GE431.out | refine below_set ?_ GE436.out) | exact HB.out)⟩
        · replace c28 := Bool.eq_false_iff.mpr c28
          subst c28
          have H1 : ((impl_ShapeOf.f t425 2).bind fun bt439 => ((impl_ShapeOf.f t425 0).bind fun bt444 => ((impl_TurnPlain.f kj5 bt439.1).bind fun t449 => ((laws_lpProg.f kj5 t449 bt444.1).bind fun t452 => (some t452))))) = some r := by rw [if_neg (show ¬ (false = true) by decide)] at H; exact H
          clear H
          have H := H1
          clear H1
          replace H := Option.bind_eq_some_iff.mp H
          obtain ⟨⟨t439, t442⟩, A350, H⟩ := H
          replace H : ((impl_ShapeOf.f t425 0).bind fun bt444 => ((impl_TurnPlain.f kj5 t439).bind fun t449 => ((laws_lpProg.f kj5 t449 bt444.1).bind fun t452 => (some t452)))) = some r := H
          have A35 := Aside0.mk A350
          clear A350
          replace H := Option.bind_eq_some_iff.mp H
          obtain ⟨⟨t444, t447⟩, A360, H⟩ := H
          replace H : ((impl_TurnPlain.f kj5 t439).bind fun t449 => ((laws_lpProg.f kj5 t449 t444).bind fun t452 => (some t452))) = some r := H
          have A36 := Aside0.mk A360
          clear A360
          replace H := Option.bind_eq_some_iff.mp H
          obtain ⟨t449, A370, H⟩ := H
          replace H : ((laws_lpProg.f kj5 t449 t444).bind fun t452 => (some t452)) = some r := H
          have A37 := Aside0.mk A370
          clear A370
          replace H := Option.bind_eq_some_iff.mp H
          obtain ⟨t452, A380, H⟩ := H
          replace H : (some t452) = some r := H
          have A38 := Aside0.mk A380
          clear A380
          obtain rfl := Option.some.inj H
          try go_wp2_with (first | ((with_reducible refine gate_callee (f := 29) rfl ?_); refine goesL_ (some 56) rfl rfl Try.func29 (by kernel_rfl) rfl #[.int .i64 t425, .int .i64 2] rfl (by (try simp only [List.map_toArray, List.map_cons, List.map_nil]); first | done | rfl | (simp only [List.length_drop, List.length_take]; rfl)) ?_; (with_reducible refine (impl_ShapeOf.calls t425 2 t439 t442 _ A35.out).mono ?_); rintro e w39 ⟨v440, rfl, ho0, hb⟩; refine ⟨_, rfl, ?_⟩; have n0_ := Aside0.mk (Kd.N_elder' (by (with_reducible repeat (first | apply Kd.N_alloc | apply Kd.N_drewN | apply Kd.N_drew)); exact HO_432000.out) (by first | exact Kd.N_base ho0 | exact Kd.S_base ho0) hb); have n1_ := Aside0.mk (Kd.N_elder' (by (with_reducible repeat (first | apply Kd.N_alloc | apply Kd.N_drewN | apply Kd.N_drew)); exact HO_437000.out) (by first | exact Kd.N_base ho0 | exact Kd.S_base ho0) hb); have n2_ := Aside0.mk (Kd.N_lower (Kd.N_mono (ok' := fun k_ => some k_ ≠ (.slice Ao10 t427.length co10 : Value).ownBlock ∧ some k_ ≠ (.slice Ao14 t432.length co14 : Value).ownBlock ∧ k_ ≠ gb431 ∧ k_ ≠ gb436) ho0 (fun k_ hk_ => ⟨(Kd.fresh' (Kd.N_lt (by (with_reducible repeat (first | apply Kd.N_alloc | apply Kd.N_drewN | apply Kd.N_drew)); exact HO_432000.out)) k_ hk_), (Kd.fresh' (Kd.N_lt (by (with_reducible repeat (first | apply Kd.N_alloc | apply Kd.N_drewN | apply Kd.N_drew)); exact HO_437000.out)) k_ hk_), (Kd.freshB (g := gb431) (o := .cells #[.slice Ao10 t427.length co10] 35 (0, 0)) (by (with_reducible repeat (first | refine blk_drewN ?_ _ | refine blk_drew ?_ | refine blk_alloc ?_ _)); exact BK431.out) k_ hk_), (Kd.freshB (g := gb436) (o := .cells #[.slice Ao14 t432.length co14] 35 (0, 0)) (by (with_reducible repeat (first | refine blk_drewN ?_ _ | refine blk_drew ?_ | refine blk_alloc ?_ _)); exact BK436.out) k_ hk_)⟩)) (below_size (by repeat (first | (with_reducible first | exact HB.out | apply below_alloc | apply pw_below_drewN | apply below_drew1 | refine below_set ?_ GE431.out | refine below_set ?_ GE436.out) | exact HB.out)))); have n3_ := Aside0.mk (blk_below (g := gb431) (o := .cells #[.slice Ao10 t427.length co10] 35 (0, 0)) (by (with_reducible repeat (first | refine blk_drewN ?_ _ | refine blk_drew ?_ | refine blk_alloc ?_ _)); exact BK431.out) hb); have n4_ := Aside0.mk (blk_below (g := gb436) (o := .cells #[.slice Ao14 t432.length co14] 35 (0, 0)) (by (with_reducible repeat (first | refine blk_drewN ?_ _ | refine blk_drew ?_ | refine blk_alloc ?_ _)); exact BK436.out) hb); have n5_ := Aside0.mk (below_step (by repeat (first | (with_reducible first | exact HB.out | apply below_alloc | apply pw_below_drewN | apply below_drew1 | refine below_set ?_ GE431.out | refine below_set ?_ GE436.out) | exact HB.out)) hb); clear HO_432000; clear HO_437000; clear BK431; clear BK436; clear HB; have HO_432000 := n0_; have HO_437000 := n1_; have HO441 := n2_; have BK431 := n3_; have BK436 := n4_; have HB := n5_; clear n0_ n1_ n2_ n3_ n4_ n5_; (try clear hb); (try clear hb2); (try clear hk); (try clear hi); (try clear ho0)) | ((with_reducible refine gate_dst (N := 9) rfl ?_); refine box_event ?hg (N := 9) ?hd (cs := #[.slice none 0 0]) (t := 35) ?hr ?_; (case hd => rfl); (case hg => rfl); (case hr => first | (go_simp; done) | (go_simp; rfl)); intro gb443 hg w40 hbox hb; have n0_ := Aside0.mk (Kd.N_below (Kd.N_elderB (by (with_reducible repeat (first | apply Kd.N_alloc | apply Kd.N_drewN | apply Kd.N_drew)); exact HO_432000.out) gb443 (Nat.le_of_eq hg.symm)) hb); have n1_ := Aside0.mk (Kd.N_below (Kd.N_elderB (by (with_reducible repeat (first | apply Kd.N_alloc | apply Kd.N_drewN | apply Kd.N_drew)); exact HO_437000.out) gb443 (Nat.le_of_eq hg.symm)) hb); have n2_ := Aside0.mk (Kd.N_below (Kd.N_elderB (by (with_reducible repeat (first | apply Kd.N_alloc | apply Kd.N_drewN | apply Kd.N_drew)); exact HO441.out) gb443 (Nat.le_of_eq hg.symm)) hb); have n3_ := Aside0.mk (blk_below (g := gb431) (o := .cells #[.slice Ao10 t427.length co10] 35 (0, 0)) (by (with_reducible repeat (first | refine blk_drewN ?_ _ | refine blk_drew ?_ | refine blk_alloc ?_ _)); exact BK431.out) hb); have n4_ := Aside0.mk (blk_below (g := gb436) (o := .cells #[.slice Ao14 t432.length co14] 35 (0, 0)) (by (with_reducible repeat (first | refine blk_drewN ?_ _ | refine blk_drew ?_ | refine blk_alloc ?_ _)); exact BK436.out) hb); have n5_ := Aside0.mk (below_step (by repeat (first | (with_reducible first | exact HB.out | apply below_alloc | apply pw_below_drewN | apply below_drew1 | refine below_set ?_ GE431.out | refine below_set ?_ GE436.out) | exact HB.out)) hb); have n6_ := Aside0.mk (hbox); have n7_ := Aside0.mk ((by rw [hg]; exact (below_size (by repeat (first | (with_reducible first | exact HB.out | apply below_alloc | apply pw_below_drewN | apply below_drew1 | refine below_set ?_ GE431.out | refine below_set ?_ GE436.out) | exact HB.out))) : w.heap.size ≤ gb443)); have n8_ := Aside0.mk ((by rw [hg]; exact (below_size (by repeat (first | (with_reducible first | exact HB.out | apply below_alloc | apply pw_below_drewN | apply below_drew1 | refine below_set ?_ GE431.out | refine below_set ?_ GE436.out) | exact HB.out))) : w.heap.size ≤ gb443)); have n9_ := Aside0.mk ((by rw [hg]; exact Nat.ne_of_lt (blk_lt (g := gb431) (o := .cells #[.slice Ao10 t427.length co10] 35 (0, 0)) (by (with_reducible repeat (first | refine blk_drewN ?_ _ | refine blk_drew ?_ | refine blk_alloc ?_ _)); exact BK431.out)) : gb431 ≠ gb443)); have n10_ := Aside0.mk ((by rw [hg]; exact Nat.ne_of_gt (blk_lt (g := gb431) (o := .cells #[.slice Ao10 t427.length co10] 35 (0, 0)) (by (with_reducible repeat (first | refine blk_drewN ?_ _ | refine blk_drew ?_ | refine blk_alloc ?_ _)); exact BK431.out)) : gb443 ≠ gb431)); have n11_ := Aside0.mk ((by rw [hg]; exact Nat.ne_of_lt (blk_lt (g := gb436) (o := .cells #[.slice Ao14 t432.length co14] 35 (0, 0)) (by (with_reducible repeat (first | refine blk_drewN ?_ _ | refine blk_drew ?_ | refine blk_alloc ?_ _)); exact BK436.out)) : gb436 ≠ gb443)); have n12_ := Aside0.mk ((by rw [hg]; exact Nat.ne_of_gt (blk_lt (g := gb436) (o := .cells #[.slice Ao14 t432.length co14] 35 (0, 0)) (by (with_reducible repeat (first | refine blk_drewN ?_ _ | refine blk_drew ?_ | refine blk_alloc ?_ _)); exact BK436.out)) : gb443 ≠ gb436)); clear HO_432000; clear HO_437000; clear HO441; clear BK431; clear BK436; clear HB; have HO_432000 := n0_; have HO_437000 := n1_; have HO441 := n2_; have BK431 := n3_; have BK436 := n4_; have HB := n5_; have BK443 := n6_; have GW443 := n7_; have GE443 := n8_; have NB431_443 := n9_; have NB443_431 := n10_; have NB436_443 := n11_; have NB443_436 := n12_; clear n0_ n1_ n2_ n3_ n4_ n5_ n6_ n7_ n8_ n9_ n10_ n11_ n12_; clear hb hbox hg; obtain ⟨Ao41, co41, eo41⟩ := Kd.N_slice HO441.out; subst eo41; have hnb42 := NB443_431.out; have hnc42 := NB431_443.out; have hnb43 := NB443_436.out; have hnc43 := NB436_443.out; have hcz44_0 : w40.cell? ⟨gb443, 0, none⟩ = some (.slice none 0 0) := (blk_cell BK443.out 0).trans rfl; have hfz44_0 := blk_frozen BK443.out 0) | ((with_reducible refine gate_callee (f := 29) rfl ?_); refine goesL_ (some 61) rfl rfl Try.func29 (by kernel_rfl) rfl #[.int .i64 t425, .int .i64 0] rfl (by (try simp only [List.map_toArray, List.map_cons, List.map_nil]); first | done | rfl | (simp only [List.length_drop, List.length_take]; rfl)) ?_; (with_reducible refine (impl_ShapeOf.calls t425 0 t444 t447 _ A36.out).mono ?_); rintro e w45 ⟨v445, rfl, ho0, hb⟩; refine ⟨_, rfl, ?_⟩; have n0_ := Aside0.mk (Kd.N_elder' (by (with_reducible repeat (first | apply Kd.N_alloc | apply Kd.N_drewN | apply Kd.N_drew)); exact (Kd.N_mono (Kd.N_far (p := ⟨gb443, 0, none⟩) (Kd.N_mono HO_432000.out (fun k_ hk => (⟨hk, hk.2⟩ : _ ∧ k_ ≠ gb443))) (fun _ hk => hk.2) (.slice Ao41 t439.length co41)) (fun _ h_ => h_.1))) (by first | exact Kd.N_base ho0 | exact Kd.S_base ho0) hb); have n1_ := Aside0.mk (Kd.N_elder' (by (with_reducible repeat (first | apply Kd.N_alloc | apply Kd.N_drewN | apply Kd.N_drew)); exact (Kd.N_mono (Kd.N_far (p := ⟨gb443, 0, none⟩) (Kd.N_mono HO_437000.out (fun k_ hk => (⟨hk, hk.2⟩ : _ ∧ k_ ≠ gb443))) (fun _ hk => hk.2) (.slice Ao41 t439.length co41)) (fun _ h_ => h_.1))) (by first | exact Kd.N_base ho0 | exact Kd.S_base ho0) hb); have n2_ := Aside0.mk (Kd.N_elder' (by (with_reducible repeat (first | apply Kd.N_alloc | apply Kd.N_drewN | apply Kd.N_drew)); exact (Kd.N_mono (Kd.N_far (p := ⟨gb443, 0, none⟩) (Kd.N_mono HO441.out (fun k_ hk => (⟨hk, hk.2⟩ : _ ∧ k_ ≠ gb443))) (fun _ hk => hk.2) (.slice Ao41 t439.length co41)) (fun _ h_ => h_.1))) (by first | exact Kd.N_base ho0 | exact Kd.S_base ho0) hb); have n3_ := Aside0.mk (Kd.N_lower (Kd.N_mono (ok' := fun k_ => some k_ ≠ (.slice Ao10 t427.length co10 : Value).ownBlock ∧ some k_ ≠ (.slice Ao14 t432.length co14 : Value).ownBlock ∧ some k_ ≠ (.slice Ao41 t439.length co41 : Value).ownBlock ∧ k_ ≠ gb431 ∧ k_ ≠ gb436 ∧ k_ ≠ gb443) ho0 (fun k_ hk_ => ⟨(Kd.fresh' (Kd.N_lt (by (with_reducible repeat (first | apply Kd.N_alloc | apply Kd.N_drewN | apply Kd.N_drew)); exact (Kd.N_mono (Kd.N_far (p := ⟨gb443, 0, none⟩) (Kd.N_mono HO_432000.out (fun k_ hk => (⟨hk, hk.2⟩ : _ ∧ k_ ≠ gb443))) (fun _ hk => hk.2) (.slice Ao41 t439.length co41)) (fun _ h_ => h_.1)))) k_ hk_), (Kd.fresh' (Kd.N_lt (by (with_reducible repeat (first | apply Kd.N_alloc | apply Kd.N_drewN | apply Kd.N_drew)); exact (Kd.N_mono (Kd.N_far (p := ⟨gb443, 0, none⟩) (Kd.N_mono HO_437000.out (fun k_ hk => (⟨hk, hk.2⟩ : _ ∧ k_ ≠ gb443))) (fun _ hk => hk.2) (.slice Ao41 t439.length co41)) (fun _ h_ => h_.1)))) k_ hk_), (Kd.fresh' (Kd.N_lt (by (with_reducible repeat (first | apply Kd.N_alloc | apply Kd.N_drewN | apply Kd.N_drew)); exact (Kd.N_mono (Kd.N_far (p := ⟨gb443, 0, none⟩) (Kd.N_mono HO441.out (fun k_ hk => (⟨hk, hk.2⟩ : _ ∧ k_ ≠ gb443))) (fun _ hk => hk.2) (.slice Ao41 t439.length co41)) (fun _ h_ => h_.1)))) k_ hk_), (Kd.freshB (g := gb431) (o := .cells #[.slice Ao10 t427.length co10] 35 (0, 0)) (by (with_reducible repeat (first | refine blk_drewN ?_ _ | refine blk_drew ?_ | refine blk_alloc ?_ _)); refine blk_far ?_ NB431_443.out _; (with_reducible repeat (first | refine blk_drewN ?_ _ | refine blk_drew ?_ | refine blk_alloc ?_ _)); exact BK431.out) k_ hk_), (Kd.freshB (g := gb436) (o := .cells #[.slice Ao14 t432.length co14] 35 (0, 0)) (by (with_reducible repeat (first | refine blk_drewN ?_ _ | refine blk_drew ?_ | refine blk_alloc ?_ _)); refine blk_far ?_ NB436_443.out _; (with_reducible repeat (first | refine blk_drewN ?_ _ | refine blk_drew ?_ | refine blk_alloc ?_ _)); exact BK436.out) k_ hk_), (Kd.freshB (g := gb443) (o := .cells #[.slice Ao41 t439.length co41] 35 (0, 0)) (by (with_reducible repeat (first | refine blk_drewN ?_ _ | refine blk_drew ?_ | refine blk_alloc ?_ _)); refine blk_put (cs := #[.slice none 0 0]) ?_ 0 _ rfl; (with_reducible repeat (first | refine blk_drewN ?_ _ | refine blk_drew ?_ | refine blk_alloc ?_ _)); exact BK443.out) k_ hk_)⟩)) (below_size (by repeat (first | (with_reducible first | exact HB.out | apply below_alloc | apply pw_below_drewN | apply below_drew1 | refine below_set ?_ GE431.out | refine below_set ?_ GE436.out | refine below_set ?_ GE443.out) | exact HB.out)))); have n4_ := Aside0.mk (blk_below (g := gb431) (o := .cells #[.slice Ao10 t427.length co10] 35 (0, 0)) (by (with_reducible repeat (first | refine blk_drewN ?_ _ | refine blk_drew ?_ | refine blk_alloc ?_ _)); refine blk_far ?_ NB431_443.out _; (with_reducible repeat (first | refine blk_drewN ?_ _ | refine blk_drew ?_ | refine blk_alloc ?_ _)); exact BK431.out) hb); have n5_ := Aside0.mk (blk_below (g := gb436) (o := .cells #[.slice Ao14 t432.length co14] 35 (0, 0)) (by (with_reducible repeat (first | refine blk_drewN ?_ _ | refine blk_drew ?_ | refine blk_alloc ?_ _)); refine blk_far ?_ NB436_443.out _; (with_reducible repeat (first | refine blk_drewN ?_ _ | refine blk_drew ?_ | refine blk_alloc ?_ _)); exact BK436.out) hb); have n6_ := Aside0.mk (blk_below (g := gb443) (o := .cells #[.slice Ao41 t439.length co41] 35 (0, 0)) (by (with_reducible repeat (first | refine blk_drewN ?_ _ | refine blk_drew ?_ | refine blk_alloc ?_ _)); refine blk_put (cs := #[.slice none 0 0]) ?_ 0 _ rfl; (with_reducible repeat (first | refine blk_drewN ?_ _ | refine blk_drew ?_ | refine blk_alloc ?_ _)); exact BK443.out) hb); have n7_ := Aside0.mk (below_step (by repeat (first | (with_reducible first | exact HB.out | apply below_alloc | apply pw_below_drewN | apply below_drew1 | refine below_set ?_ GE431.out | refine below_set ?_ GE436.out | refine below_set ?_ GE443.out) | exact HB.out)) hb); clear HO_432000; clear HO_437000; clear HO441; clear BK431; clear BK436; clear BK443; clear HB; have HO_432000 := n0_; have HO_437000 := n1_; have HO441 := n2_; have HO446 := n3_; have BK431 := n4_; have BK436 := n5_; have BK443 := n6_; have HB := n7_; clear n0_ n1_ n2_ n3_ n4_ n5_ n6_ n7_; (try clear hb); (try clear hb2); (try clear hk); (try clear hi); (try clear ho0)) | ((with_reducible refine gate_dst (N := 11) rfl ?_); refine box_event ?hg (N := 11) ?hd (cs := #[.slice none 0 0]) (t := 35) ?hr ?_; (case hd => rfl); (case hg => rfl); (case hr => first | (go_simp; done) | (go_simp; rfl)); intro gb448 hg w46 hbox hb; have n0_ := Aside0.mk (Kd.N_below (Kd.N_elderB (by (with_reducible repeat (first | apply Kd.N_alloc | apply Kd.N_drewN | apply Kd.N_drew)); exact HO_432000.out) gb448 (Nat.le_of_eq hg.symm)) hb); have n1_ := Aside0.mk (Kd.N_below (Kd.N_elderB (by (with_reducible repeat (first | apply Kd.N_alloc | apply Kd.N_drewN | apply Kd.N_drew)); exact HO_437000.out) gb448 (Nat.le_of_eq hg.symm)) hb); have n2_ := Aside0.mk (Kd.N_below (Kd.N_elderB (by (with_reducible repeat (first | apply Kd.N_alloc | apply Kd.N_drewN | apply Kd.N_drew)); exact HO441.out) gb448 (Nat.le_of_eq hg.symm)) hb); have n3_ := Aside0.mk (Kd.N_below (Kd.N_elderB (by (with_reducible repeat (first | apply Kd.N_alloc | apply Kd.N_drewN | apply Kd.N_drew)); exact HO446.out) gb448 (Nat.le_of_eq hg.symm)) hb); have n4_ := Aside0.mk (blk_below (g := gb431) (o := .cells #[.slice Ao10 t427.length co10] 35 (0, 0)) (by (with_reducible repeat (first | refine blk_drewN ?_ _ | refine blk_drew ?_ | refine blk_alloc ?_ _)); exact BK431.out) hb); have n5_ := Aside0.mk (blk_below (g := gb436) (o := .cells #[.slice Ao14 t432.length co14] 35 (0, 0)) (by (with_reducible repeat (first | refine blk_drewN ?_ _ | refine blk_drew ?_ | refine blk_alloc ?_ _)); exact BK436.out) hb); have n6_ := Aside0.mk (blk_below (g := gb443) (o := .cells #[.slice Ao41 t439.length co41] 35 (0, 0)) (by (with_reducible repeat (first | refine blk_drewN ?_ _ | refine blk_drew ?_ | refine blk_alloc ?_ _)); exact BK443.out) hb); have n7_ := Aside0.mk (below_step (by repeat (first | (with_reducible first | exact HB.out | apply below_alloc | apply pw_below_drewN | apply below_drew1 | refine below_set ?_ GE431.out | refine below_set ?_ GE436.out | refine below_set ?_ GE443.out) | exact HB.out)) hb); have n8_ := Aside0.mk (hbox); have n9_ := Aside0.mk ((by rw [hg]; exact (below_size (by repeat (first | (with_reducible first | exact HB.out | apply below_alloc | apply pw_below_drewN | apply below_drew1 | refine below_set ?_ GE431.out | refine below_set ?_ GE436.out | refine below_set ?_ GE443.out) | exact HB.out))) : w.heap.size ≤ gb448)); have n10_ := Aside0.mk ((by rw [hg]; exact (below_size (by repeat (first | (with_reducible first | exact HB.out | apply below_alloc | apply pw_below_drewN | apply below_drew1 | refine below_set ?_ GE431.out | refine below_set ?_ GE436.out | refine below_set ?_ GE443.out) | exact HB.out))) : w.heap.size ≤ gb448)); have n11_ := Aside0.mk ((by rw [hg]; exact Nat.ne_of_lt (blk_lt (g := gb431) (o := .cells #[.slice Ao10 t427.length co10] 35 (0, 0)) (by (with_reducible repeat (first | refine blk_drewN ?_ _ | refine blk_drew ?_ | refine blk_alloc ?_ _)); exact BK431.out)) : gb431 ≠ gb448)); have n12_ := Aside0.mk ((by rw [hg]; exact Nat.ne_of_gt (blk_lt (g := gb431) (o := .cells #[.slice Ao10 t427.length co10] 35 (0, 0)) (by (with_reducible repeat (first | refine blk_drewN ?_ _ | refine blk_drew ?_ | refine blk_alloc ?_ _)); exact BK431.out)) : gb448 ≠ gb431)); have n13_ := Aside0.mk ((by rw [hg]; exact Nat.ne_of_lt (blk_lt (g := gb436) (o := .cells #[.slice Ao14 t432.length co14] 35 (0, 0)) (by (with_reducible repeat (first | refine blk_drewN ?_ _ | refine blk_drew ?_ | refine blk_alloc ?_ _)); exact BK436.out)) : gb436 ≠ gb448)); have n14_ := Aside0.mk ((by rw [hg]; exact Nat.ne_of_gt (blk_lt (g := gb436) (o := .cells #[.slice Ao14 t432.length co14] 35 (0, 0)) (by (with_reducible repeat (first | refine blk_drewN ?_ _ | refine blk_drew ?_ | refine blk_alloc ?_ _)); exact BK436.out)) : gb448 ≠ gb436)); have n15_ := Aside0.mk ((by rw [hg]; exact Nat.ne_of_lt (blk_lt (g := gb443) (o := .cells #[.slice Ao41 t439.length co41] 35 (0, 0)) (by (with_reducible repeat (first | refine blk_drewN ?_ _ | refine blk_drew ?_ | refine blk_alloc ?_ _)); exact BK443.out)) : gb443 ≠ gb448)); have n16_ := Aside0.mk ((by rw [hg]; exact Nat.ne_of_gt (blk_lt (g := gb443) (o := .cells #[.slice Ao41 t439.length co41] 35 (0, 0)) (by (with_reducible repeat (first | refine blk_drewN ?_ _ | refine blk_drew ?_ | refine blk_alloc ?_ _)); exact BK443.out)) : gb448 ≠ gb443)); clear HO_432000; clear HO_437000; clear HO441; clear HO446; clear BK431; clear BK436; clear BK443; clear HB; have HO_432000 := n0_; have HO_437000 := n1_; have HO441 := n2_; have HO446 := n3_; have BK431 := n4_; have BK436 := n5_; have BK443 := n6_; have HB := n7_; have BK448 := n8_; have GW448 := n9_; have GE448 := n10_; have NB431_448 := n11_; have NB448_431 := n12_; have NB436_448 := n13_; have NB448_436 := n14_; have NB443_448 := n15_; have NB448_443 := n16_; clear n0_ n1_ n2_ n3_ n4_ n5_ n6_ n7_ n8_ n9_ n10_ n11_ n12_ n13_ n14_ n15_ n16_; clear hb hbox hg; obtain ⟨Ao47, co47, eo47⟩ := Kd.N_slice HO446.out; subst eo47; have hnb48 := NB448_431.out; have hnc48 := NB431_448.out; have hnb49 := NB448_436.out; have hnc49 := NB436_448.out; have hnb50 := NB448_443.out; have hnc50 := NB443_448.out; have hcz51_0 : w46.cell? ⟨gb448, 0, none⟩ = some (.slice none 0 0) := (blk_cell BK448.out 0).trans rfl; have hfz51_0 := blk_frozen BK448.out 0))
          have n0_ : Aside0 (Kd.N (Kd.slice 85 k85) 82 (w46.setCell ⟨gb448, 0, none⟩ (.slice Ao47 t444.length co47)) w.heap.size (fun k_ => some k_ ≠ (.slice Ao14 t432.length co14 : Value).ownBlock ∧ some k_ ≠ (.slice Ao41 t439.length co41 : Value).ownBlock ∧ some k_ ≠ (.slice Ao47 t444.length co47 : Value).ownBlock ∧ k_ ≠ gb431 ∧ k_ ≠ gb436 ∧ k_ ≠ gb443 ∧ k_ ≠ gb448) (.slice Ao10 t427.length co10) t427) := ⟨by (with_reducible repeat (first | apply Kd.N_alloc | apply Kd.N_drewN | apply Kd.N_drew)); exact Kd.N_mono (Kd.N_far (p := ⟨gb448, 0, none⟩) (Kd.N_mono HO_432000.out (fun k_ hk => (⟨hk, hk.2⟩ : _ ∧ k_ ≠ gb448))) (fun _ hk => hk.2) (.slice Ao47 t444.length co47)) (fun _ hk => ⟨hk.1.1.1.1.1.1, ⟨hk.1.1.1.1.2, ⟨hk.1.1.2, ⟨hk.1.1.1.1.1.2.1, ⟨hk.1.1.1.1.1.2.2, ⟨hk.1.1.1.2, hk.1.2⟩⟩⟩⟩⟩⟩)⟩
          have n1_ : Aside0 (Kd.N (Kd.slice 85 k85) 82 (w46.setCell ⟨gb448, 0, none⟩ (.slice Ao47 t444.length co47)) w.heap.size (fun k_ => some k_ ≠ (.slice Ao10 t427.length co10 : Value).ownBlock ∧ some k_ ≠ (.slice Ao41 t439.length co41 : Value).ownBlock ∧ some k_ ≠ (.slice Ao47 t444.length co47 : Value).ownBlock ∧ k_ ≠ gb431 ∧ k_ ≠ gb436 ∧ k_ ≠ gb443 ∧ k_ ≠ gb448) (.slice Ao14 t432.length co14) t432) := ⟨by (with_reducible repeat (first | apply Kd.N_alloc | apply Kd.N_drewN | apply Kd.N_drew)); exact Kd.N_mono (Kd.N_far (p := ⟨gb448, 0, none⟩) (Kd.N_mono HO_437000.out (fun k_ hk => (⟨hk, hk.2⟩ : _ ∧ k_ ≠ gb448))) (fun _ hk => hk.2) (.slice Ao47 t444.length co47)) (fun _ hk => ⟨hk.1.1.1.1.1.1, ⟨hk.1.1.1.1.2, ⟨hk.1.1.2, ⟨hk.1.1.1.1.1.2.1, ⟨hk.1.1.1.1.1.2.2, ⟨hk.1.1.1.2, hk.1.2⟩⟩⟩⟩⟩⟩)⟩
          have n2_ : Aside0 (Kd.N (Kd.slice 85 k85) 82 (w46.setCell ⟨gb448, 0, none⟩ (.slice Ao47 t444.length co47)) w.heap.size (fun k_ => some k_ ≠ (.slice Ao10 t427.length co10 : Value).ownBlock ∧ some k_ ≠ (.slice Ao14 t432.length co14 : Value).ownBlock ∧ some k_ ≠ (.slice Ao47 t444.length co47 : Value).ownBlock ∧ k_ ≠ gb431 ∧ k_ ≠ gb436 ∧ k_ ≠ gb443 ∧ k_ ≠ gb448) (.slice Ao41 t439.length co41) t439) := ⟨by (with_reducible repeat (first | apply Kd.N_alloc | apply Kd.N_drewN | apply Kd.N_drew)); exact Kd.N_mono (Kd.N_far (p := ⟨gb448, 0, none⟩) (Kd.N_mono HO441.out (fun k_ hk => (⟨hk, hk.2⟩ : _ ∧ k_ ≠ gb448))) (fun _ hk => hk.2) (.slice Ao47 t444.length co47)) (fun _ hk => ⟨hk.1.1.1.1.1, ⟨hk.1.1.1.1.2.1, ⟨hk.1.1.2, ⟨hk.1.1.1.1.2.2.1, ⟨hk.1.1.1.1.2.2.2, ⟨hk.1.1.1.2, hk.1.2⟩⟩⟩⟩⟩⟩)⟩
          have n3_ : Aside0 (Kd.N (Kd.slice 85 k85) 82 (w46.setCell ⟨gb448, 0, none⟩ (.slice Ao47 t444.length co47)) w.heap.size (fun k_ => some k_ ≠ (.slice Ao10 t427.length co10 : Value).ownBlock ∧ some k_ ≠ (.slice Ao14 t432.length co14 : Value).ownBlock ∧ some k_ ≠ (.slice Ao41 t439.length co41 : Value).ownBlock ∧ k_ ≠ gb431 ∧ k_ ≠ gb436 ∧ k_ ≠ gb443 ∧ k_ ≠ gb448) (.slice Ao47 t444.length co47) t444) := ⟨by (with_reducible repeat (first | apply Kd.N_alloc | apply Kd.N_drewN | apply Kd.N_drew)); exact Kd.N_mono (Kd.N_far (p := ⟨gb448, 0, none⟩) (Kd.N_mono HO446.out (fun k_ hk => (⟨hk, hk.2⟩ : _ ∧ k_ ≠ gb448))) (fun _ hk => hk.2) (.slice Ao47 t444.length co47)) (fun _ hk => ⟨hk.1.1.1, ⟨hk.1.1.2.1, ⟨hk.1.1.2.2.1, ⟨hk.1.1.2.2.2.1, ⟨hk.1.1.2.2.2.2.1, ⟨hk.1.1.2.2.2.2.2, hk.1.2⟩⟩⟩⟩⟩⟩)⟩
          have n4_ : Aside0 ((w46.setCell ⟨gb448, 0, none⟩ (.slice Ao47 t444.length co47)).heap[gb431]? = some (.cells #[.slice Ao10 t427.length co10] 35 (0, 0))) := ⟨by (with_reducible repeat (first | refine blk_drewN ?_ _ | refine blk_drew ?_ | refine blk_alloc ?_ _)); refine blk_far ?_ NB431_448.out _; (with_reducible repeat (first | refine blk_drewN ?_ _ | refine blk_drew ?_ | refine blk_alloc ?_ _)); exact BK431.out⟩
          have n5_ : Aside0 ((w46.setCell ⟨gb448, 0, none⟩ (.slice Ao47 t444.length co47)).heap[gb436]? = some (.cells #[.slice Ao14 t432.length co14] 35 (0, 0))) := ⟨by (with_reducible repeat (first | refine blk_drewN ?_ _ | refine blk_drew ?_ | refine blk_alloc ?_ _)); refine blk_far ?_ NB436_448.out _; (with_reducible repeat (first | refine blk_drewN ?_ _ | refine blk_drew ?_ | refine blk_alloc ?_ _)); exact BK436.out⟩
          have n6_ : Aside0 ((w46.setCell ⟨gb448, 0, none⟩ (.slice Ao47 t444.length co47)).heap[gb443]? = some (.cells #[.slice Ao41 t439.length co41] 35 (0, 0))) := ⟨by (with_reducible repeat (first | refine blk_drewN ?_ _ | refine blk_drew ?_ | refine blk_alloc ?_ _)); refine blk_far ?_ NB443_448.out _; (with_reducible repeat (first | refine blk_drewN ?_ _ | refine blk_drew ?_ | refine blk_alloc ?_ _)); exact BK443.out⟩
          have n7_ : Aside0 ((w46.setCell ⟨gb448, 0, none⟩ (.slice Ao47 t444.length co47)).heap[gb448]? = some (.cells #[.slice Ao47 t444.length co47] 35 (0, 0))) := ⟨by (with_reducible repeat (first | refine blk_drewN ?_ _ | refine blk_drew ?_ | refine blk_alloc ?_ _)); refine blk_put (cs := #[.slice none 0 0]) ?_ 0 _ rfl; (with_reducible repeat (first | refine blk_drewN ?_ _ | refine blk_drew ?_ | refine blk_alloc ?_ _)); exact BK448.out⟩
          have n8_ : Aside0 (Below w.heap.size w (w46.setCell ⟨gb448, 0, none⟩ (.slice Ao47 t444.length co47))) := ⟨by repeat (first | (with_reducible first | exact HB.out | apply below_alloc | apply pw_below_drewN | apply below_drew1 | refine below_set ?_ GE431.out | refine below_set ?_ GE436.out | refine below_set ?_ GE443.out | refine below_set ?_ GE448.out) | exact HB.out)⟩
          (try clear HO_432000)
          (try clear HO_437000)
          (try clear HO441)
          (try clear HO446)
          (try clear BK431)
          (try clear BK436)
          (try clear BK443)
          (try clear BK448)
          (try clear HB)
          generalize (w46.setCell ⟨gb448, 0, none⟩ (.slice Ao47 t444.length co47)) = w52 at n0_ n1_ n2_ n3_ n4_ n5_ n6_ n7_ n8_ ⊢
          have HO_432000 := n0_
          have HO_437000 := n1_
          have HO441 := n2_
          have HO446 := n3_
          have BK431 := n4_
          have BK436 := n5_
          have BK443 := n6_
          have BK448 := n7_
          have HB := n8_
          clear n0_ n1_ n2_ n3_ n4_ n5_ n6_ n7_ n8_
          have n0_ := Aside0.mk (Kd.N_drew HO_432000.out)
          have n1_ := Aside0.mk (Kd.N_drew HO_437000.out)
          have n2_ := Aside0.mk (Kd.N_drew HO441.out)
          have n3_ := Aside0.mk (Kd.N_drew HO446.out)
          have n4_ := Aside0.mk (blk_drew BK431.out)
          have n5_ := Aside0.mk (blk_drew BK436.out)
          have n6_ := Aside0.mk (blk_drew BK443.out)
          have n7_ := Aside0.mk (blk_drew BK448.out)
          have n8_ := Aside0.mk (below_drew1 HB.out)
          clear HO_432000
          clear HO_437000
          clear HO441
          clear HO446
          clear BK431
          clear BK436
          clear BK443
          clear BK448
          clear HB
          have HO_432000 := n0_
          have HO_437000 := n1_
          have HO441 := n2_
          have HO446 := n3_
          have BK431 := n4_
          have BK436 := n5_
          have BK443 := n6_
          have BK448 := n7_
          have HB := n8_
          clear n0_ n1_ n2_ n3_ n4_ n5_ n6_ n7_ n8_
          refine start_ (n := 5) (S := fun w' => w'.cell? ⟨gb443, 0, none⟩ = some (.slice Ao41 t439.length co41) ∧ w'.cell? ⟨gb448, 0, none⟩ = some (.slice Ao47 t444.length co47)) (ds := []) #[false, false, false, false, false] (by kernel_rfl) rfl rfl ⟨(blk_cell BK443.out 0).trans rfl, (blk_cell BK448.out 0).trans rfl⟩ (fun hHeld => ?_)
          generalize w52.drew = w53 at HO_432000 HO_437000 HO441 HO446 BK431 BK436 BK443 BK448 HB hHeld ⊢
          refine take_ (i := 0) (N := some 64) (v := ?_) (a' := ?_) #[true, false, false, false, false] rfl rfl (by kernel_rfl) (fun _ _ _ h => h) (Or.inl ⟨by rfl, ?_⟩) hHeld ?_ ?_
          rotate_left
          · rintro w' ⟨s0, s1⟩
            go_simp
            with_reducible rfl
          rotate_left
          · simp only [Act.put, List.setIfInBounds_toArray, List.set_cons_zero, List.set_cons_succ, i64_w, i32_w]
            rfl
          refine take_ (i := 2) (N := some 66) (v := ?_) (a' := ?_) #[true, false, true, false, false] rfl rfl (by kernel_rfl) (fun _ _ _ h => h) (Or.inl ⟨by rfl, ?_⟩) hHeld ?_ ?_
          rotate_left
          · rintro w' ⟨s0, s1⟩
            go_simp
            with_reducible rfl
          rotate_left
          · simp only [Act.put, List.setIfInBounds_toArray, List.set_cons_zero, List.set_cons_succ, i64_w, i32_w]
            rfl
          refine one_ (i := 1) (N := some 65) #[true, true, true, false, false] rfl rfl (by kernel_rfl) (by decide) (fun K hK => ?_)
          refine goes_ Try.func35 (by kernel_rfl) rfl #[.agg #[.slice Ao41 t439.length co41]] (by rfl) rfl rfl (by (try simp only [List.map_toArray, List.map_cons, List.map_nil]); first | done | rfl | (simp only [List.length_drop, List.length_take]; rfl)) ?_
          with_reducible refine (impl_TurnPlain.calls kj5 _ _ t439 t449 _ ?side1 ?side2 A37.out).mono ?_
          (case side1 => repeat (first | exact (Kd.N_reads' HO441.out).2.2 | (with_reducible refine Kd.C_alloc ?_ _) | (with_reducible refine Kd.C_drewN ?_ _) | (with_reducible refine Kd.C_drew ?_)))
          (case side2 => exact (Kd.N_reads' HO441.out).2.1)
          rintro e w54 ⟨v450, rfl, ho0, hb⟩
          refine ⟨_, rfl, ?_⟩
          have n0_ := Aside0.mk (Kd.N_elder' (by (with_reducible repeat (first | apply Kd.N_alloc | apply Kd.N_drewN | apply Kd.N_drew)); exact HO_432000.out) (by first | exact Kd.N_base ho0 | exact Kd.S_base ho0) hb)
          have n1_ := Aside0.mk (Kd.N_elder' (by (with_reducible repeat (first | apply Kd.N_alloc | apply Kd.N_drewN | apply Kd.N_drew)); exact HO_437000.out) (by first | exact Kd.N_base ho0 | exact Kd.S_base ho0) hb)
          have n2_ := Aside0.mk (Kd.N_elder' (by (with_reducible repeat (first | apply Kd.N_alloc | apply Kd.N_drewN | apply Kd.N_drew)); exact HO441.out) (by first | exact Kd.N_base ho0 | exact Kd.S_base ho0) hb)
          have n3_ := Aside0.mk (Kd.N_elder' (by (with_reducible repeat (first | apply Kd.N_alloc | apply Kd.N_drewN | apply Kd.N_drew)); exact HO446.out) (by first | exact Kd.N_base ho0 | exact Kd.S_base ho0) hb)
          have n4_ := Aside0.mk (Kd.N_lower (Kd.N_mono (ok' := fun k_ => some k_ ≠ (.slice Ao10 t427.length co10 : Value).ownBlock ∧ some k_ ≠ (.slice Ao14 t432.length co14 : Value).ownBlock ∧ some k_ ≠ (.slice Ao41 t439.length co41 : Value).ownBlock ∧ some k_ ≠ (.slice Ao47 t444.length co47 : Value).ownBlock ∧ k_ ≠ gb431 ∧ k_ ≠ gb436 ∧ k_ ≠ gb443 ∧ k_ ≠ gb448) (Kd.S_N (Kd.S_bound ho0)) (fun k_ hk_ => ⟨(Kd.fresh' (Kd.N_lt (by (with_reducible repeat (first | apply Kd.N_alloc | apply Kd.N_drewN | apply Kd.N_drew)); exact HO_432000.out)) k_ hk_.2.1), (Kd.fresh' (Kd.N_lt (by (with_reducible repeat (first | apply Kd.N_alloc | apply Kd.N_drewN | apply Kd.N_drew)); exact HO_437000.out)) k_ hk_.2.1), (Kd.fresh' (Kd.N_lt (by (with_reducible repeat (first | apply Kd.N_alloc | apply Kd.N_drewN | apply Kd.N_drew)); exact HO441.out)) k_ hk_.2.1), (Kd.fresh' (Kd.N_lt (by (with_reducible repeat (first | apply Kd.N_alloc | apply Kd.N_drewN | apply Kd.N_drew)); exact HO446.out)) k_ hk_.2.1), (Kd.freshB (g := gb431) (o := .cells #[.slice Ao10 t427.length co10] 35 (0, 0)) (by (with_reducible repeat (first | refine blk_drewN ?_ _ | refine blk_drew ?_ | refine blk_alloc ?_ _)); exact BK431.out) k_ hk_.2.1), (Kd.freshB (g := gb436) (o := .cells #[.slice Ao14 t432.length co14] 35 (0, 0)) (by (with_reducible repeat (first | refine blk_drewN ?_ _ | refine blk_drew ?_ | refine blk_alloc ?_ _)); exact BK436.out) k_ hk_.2.1), (Kd.freshB (g := gb443) (o := .cells #[.slice Ao41 t439.length co41] 35 (0, 0)) (by (with_reducible repeat (first | refine blk_drewN ?_ _ | refine blk_drew ?_ | refine blk_alloc ?_ _)); exact BK443.out) k_ hk_.2.1), (Kd.freshB (g := gb448) (o := .cells #[.slice Ao47 t444.length co47] 35 (0, 0)) (by (with_reducible repeat (first | refine blk_drewN ?_ _ | refine blk_drew ?_ | refine blk_alloc ?_ _)); exact BK448.out) k_ hk_.2.1)⟩)) (below_size (by repeat (first | (with_reducible first | exact HB.out | apply below_alloc | apply pw_below_drewN | apply below_drew1 | refine below_set ?_ GE431.out | refine below_set ?_ GE436.out | refine below_set ?_ GE443.out | refine below_set ?_ GE448.out) | exact HB.out))))
          have n5_ := Aside0.mk (blk_below (g := gb431) (o := .cells #[.slice Ao10 t427.length co10] 35 (0, 0)) (by (with_reducible repeat (first | refine blk_drewN ?_ _ | refine blk_drew ?_ | refine blk_alloc ?_ _)); exact BK431.out) hb)
          have n6_ := Aside0.mk (blk_below (g := gb436) (o := .cells #[.slice Ao14 t432.length co14] 35 (0, 0)) (by (with_reducible repeat (first | refine blk_drewN ?_ _ | refine blk_drew ?_ | refine blk_alloc ?_ _)); exact BK436.out) hb)
          have n7_ := Aside0.mk (blk_below (g := gb443) (o := .cells #[.slice Ao41 t439.length co41] 35 (0, 0)) (by (with_reducible repeat (first | refine blk_drewN ?_ _ | refine blk_drew ?_ | refine blk_alloc ?_ _)); exact BK443.out) hb)
          have n8_ := Aside0.mk (blk_below (g := gb448) (o := .cells #[.slice Ao47 t444.length co47] 35 (0, 0)) (by (with_reducible repeat (first | refine blk_drewN ?_ _ | refine blk_drew ?_ | refine blk_alloc ?_ _)); exact BK448.out) hb)
          have n9_ := Aside0.mk (below_step (by repeat (first | (with_reducible first | exact HB.out | apply below_alloc | apply pw_below_drewN | apply below_drew1 | refine below_set ?_ GE431.out | refine below_set ?_ GE436.out | refine below_set ?_ GE443.out | refine below_set ?_ GE448.out) | exact HB.out)) hb)
          clear HO_432000
          clear HO_437000
          clear HO441
          clear HO446
          clear BK431
          clear BK436
          clear BK443
          clear BK448
          clear HB
          have HO_432000 := n0_
          have HO_437000 := n1_
          have HO441 := n2_
          have HO446 := n3_
          have HO451 := n4_
          have BK431 := n5_
          have BK436 := n6_
          have BK443 := n7_
          have BK448 := n8_
          have HB := n9_
          clear n0_ n1_ n2_ n3_ n4_ n5_ n6_ n7_ n8_ n9_
          (try clear hb)
          (try clear hb2)
          (try clear hk)
          (try clear hi)
          (try clear ho0)
          obtain ⟨Ao55, co55, eo55⟩ := Kd.N_slice HO451.out
          (first | subst eo55 | (injection eo55 with f1_ f2_ f3_; have f4_ := f1_.symm; have f5_ := f3_.symm; clear f1_ f2_ f3_; subst f4_; subst f5_))
          refine hK.out _ _ ⟨(blk_cell BK443.out 0).trans rfl, (blk_cell BK448.out 0).trans rfl⟩ (fun hHeld => ?_)
          clear hK K
          refine norm_ (a' := ?_) ?_ ?_
          rotate_left
          · show Act.put _ (some 65) _ = _
            simp only [Act.put, List.setIfInBounds_toArray, List.set_cons_zero, List.set_cons_succ, i64_w, i32_w]
            rfl
          refine one_ (i := 3) (N := some 67) #[true, true, true, true, false] rfl rfl (by kernel_rfl) (by decide) (fun K hK => ?_)
          refine goes_ Try.func30 (by kernel_rfl) rfl #[.agg #[.slice Ao55 t449.length co55], .agg #[.slice Ao47 t444.length co47]] (by rfl) rfl rfl (by (try simp only [List.map_toArray, List.map_cons, List.map_nil]); first | done | rfl | (simp only [List.length_drop, List.length_take]; rfl)) ?_
          with_reducible refine (laws_lpProg.calls kj5 _ _ t449 _ _ t444 t452 _ ?side1 ?side2 ?side3 ?side4 A38.out).mono ?_
          (case side1 => repeat (first | exact (Kd.N_reads' HO451.out).2.2 | (with_reducible refine Kd.C_alloc ?_ _) | (with_reducible refine Kd.C_drewN ?_ _) | (with_reducible refine Kd.C_drew ?_)))
          (case side2 => exact (Kd.N_reads' HO451.out).2.1)
          (case side3 => repeat (first | exact (Kd.N_reads' HO446.out).2.2 | (with_reducible refine Kd.C_alloc ?_ _) | (with_reducible refine Kd.C_drewN ?_ _) | (with_reducible refine Kd.C_drew ?_)))
          (case side4 => exact (Kd.N_reads' HO446.out).2.1)
          rintro e w56 ⟨rfl, hb⟩
          refine ⟨_, rfl, ?_⟩
          have n0_ := Aside0.mk (Kd.N_below (by (with_reducible repeat (first | apply Kd.N_alloc | apply Kd.N_drewN | apply Kd.N_drew)); exact HO_432000.out) hb)
          have n1_ := Aside0.mk (Kd.N_below (by (with_reducible repeat (first | apply Kd.N_alloc | apply Kd.N_drewN | apply Kd.N_drew)); exact HO_437000.out) hb)
          have n2_ := Aside0.mk (Kd.N_below (by (with_reducible repeat (first | apply Kd.N_alloc | apply Kd.N_drewN | apply Kd.N_drew)); exact HO441.out) hb)
          have n3_ := Aside0.mk (Kd.N_below (by (with_reducible repeat (first | apply Kd.N_alloc | apply Kd.N_drewN | apply Kd.N_drew)); exact HO446.out) hb)
          have n4_ := Aside0.mk (Kd.N_below (by (with_reducible repeat (first | apply Kd.N_alloc | apply Kd.N_drewN | apply Kd.N_drew)); exact HO451.out) hb)
          have n5_ := Aside0.mk (blk_below (g := gb431) (o := .cells #[.slice Ao10 t427.length co10] 35 (0, 0)) (by (with_reducible repeat (first | refine blk_drewN ?_ _ | refine blk_drew ?_ | refine blk_alloc ?_ _)); exact BK431.out) hb)
          have n6_ := Aside0.mk (blk_below (g := gb436) (o := .cells #[.slice Ao14 t432.length co14] 35 (0, 0)) (by (with_reducible repeat (first | refine blk_drewN ?_ _ | refine blk_drew ?_ | refine blk_alloc ?_ _)); exact BK436.out) hb)
          have n7_ := Aside0.mk (blk_below (g := gb443) (o := .cells #[.slice Ao41 t439.length co41] 35 (0, 0)) (by (with_reducible repeat (first | refine blk_drewN ?_ _ | refine blk_drew ?_ | refine blk_alloc ?_ _)); exact BK443.out) hb)
          have n8_ := Aside0.mk (blk_below (g := gb448) (o := .cells #[.slice Ao47 t444.length co47] 35 (0, 0)) (by (with_reducible repeat (first | refine blk_drewN ?_ _ | refine blk_drew ?_ | refine blk_alloc ?_ _)); exact BK448.out) hb)
          have n9_ := Aside0.mk (below_step (by repeat (first | (with_reducible first | exact HB.out | apply below_alloc | apply pw_below_drewN | apply below_drew1 | refine below_set ?_ GE431.out | refine below_set ?_ GE436.out | refine below_set ?_ GE443.out | refine below_set ?_ GE448.out) | exact HB.out)) hb)
          clear HO_432000
          clear HO_437000
          clear HO441
          clear HO446
          clear HO451
          clear BK431
          clear BK436
          clear BK443
          clear BK448
          clear HB
          have HO_432000 := n0_
          have HO_437000 := n1_
          have HO441 := n2_
          have HO446 := n3_
          have HO451 := n4_
          have BK431 := n5_
          have BK436 := n6_
          have BK443 := n7_
          have BK448 := n8_
          have HB := n9_
          clear n0_ n1_ n2_ n3_ n4_ n5_ n6_ n7_ n8_ n9_
          (try clear hb)
          (try clear hb2)
          (try clear hk)
          (try clear hi)
          refine hK.out _ _ ⟨(blk_cell BK443.out 0).trans rfl, (blk_cell BK448.out 0).trans rfl⟩ (fun hHeld => ?_)
          clear hK K
          refine norm_ (a' := ?_) ?_ ?_
          rotate_left
          · show Act.put _ (some 67) _ = _
            simp only [Act.put, List.setIfInBounds_toArray, List.set_cons_zero, List.set_cons_succ, i64_w, i32_w]
            rfl
          refine pure_ (i := 4) (N := some 2) (v := ?_) (a' := ?_) #[true, true, true, true, true] rfl rfl (by kernel_rfl) (fun _ _ _ h => h) (Or.inl ⟨by rfl, ?_⟩) ?_ ?_
          rotate_left
          · intro w'
            go_simp
            with_reducible rfl
          rotate_left
          · simp only [Act.put, List.setIfInBounds_toArray, List.set_cons_zero, List.set_cons_succ, i64_w, i32_w]
            rfl
          refine done_ (by kernel_rfl) ?_
          try go_wp2
          go_ret
          exact ⟨by first | rfl | (simp [errW_none, errW_some] <;> rfl) | (simp [*, errW_none, errW_some] <;> rfl), by repeat (first | (with_reducible first | exact HB.out | apply below_alloc | apply pw_below_drewN | apply below_drew1 | refine below_set ?_ GE431.out | refine below_set ?_ GE436.out | refine below_set ?_ GE443.out | refine below_set ?_ GE448.out) | exact HB.out)⟩

/-- THE ONE PURE STATEMENT of laws_FnShapePlain: yours. -/
def laws_FnShapePlain.Pure : Prop := ∀ (l0 : List Int), l0.length ≤ maxLen → l0.length * 1 ≤ 140737488351232 → (∀ x ∈ l0, (Lit.int .u8 x).wf = true) → ∃ k, laws_FnShapePlain.f k l0 = some true
theorem laws_FnShapePlain.walk (P : laws_FnShapePlain.Pure) (a0 : Option Addr) (len0 cap0 : Nat) (z0 : List Int) (w : World) (w0 : (a0 = none ∧ len0 = 0 ∧ cap0 = 0 ∧ z0 = []) ∨ ∃ x, a0 = some x ∧ len0 ≤ cap0 ∧ cap0 ≤ maxLen ∧ z0.length = cap0 ∧ (∀ i, i < z0.length → w.cell? (x.add i) = some (.int .u8 (z0.getD i 0))) ∧ ∀ n ∈ z0, (Lit.int .u8 n).wf = true) (y0 : len0 * 1 ≤ 140737488351232) :
    Calls Try.prog 6 #[.slice a0 len0 cap0] w fun e w' => e = .returned (.bool true) ∧ Below w.heap.size w w' := by
  obtain ⟨l0, rfl, hr0, hm0, hw0, hc0⟩ := ReadsInt.ofRowC w0
  obtain ⟨k, h⟩ := P l0 hm0 y0 hw0
  refine (laws_FnShapePlain.calls k _ _ l0 true w (Kd.C_of_reads (d := (0 : Int)) (h1 := fun _ => rfl) hr0) hc0 h).mono ?_
  rintro e w' ⟨rfl, hd⟩
  exact ⟨rfl, hd⟩

end Go.Proofs.Ytefkbmhkhpekjaa.PB
