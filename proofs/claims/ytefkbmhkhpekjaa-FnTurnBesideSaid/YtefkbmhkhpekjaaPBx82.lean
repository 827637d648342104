-- Written by this session's wip/myprint.py (the kit's print.py, with hand-written chunks). Lean checks it.
import Derived.Test.YtefkbmhkhpekjaaPBx0
import Derived.Test.YtefkbmhkhpekjaaPBx90
namespace Go.Proofs.Ytefkbmhkhpekjaa.PB
open Go.RowKit Go.Proofs.YtefkbmhkhpekjaaW.PrintWords Go.Proofs.YtefkbmhkhpekjaaW.PrintLast Go.Proofs.YtefkbmhkhpekjaaW.PrintMore
attribute [local go_sem] max2_int min2_int max_two min_two max_three min_three max_four min_four   -- for this text's walks alone
open Go.Proofs.YtefkbmhkhpekjaaMine
set_option linter.unusedVariables false
set_option linter.unusedSimpArgs false

theorem z82_1 {p : Prop} (h : p := by injection e with e; omega) : p := h
theorem z82_2 {p : Prop} (h : p := by injection hk with hk; rw [← hk]; exact HRn.out) : p := h
theorem z82_3 {p : Prop} (h : p := by simp only [List.length_append, List.length_cons]; omega) : p := h
/-! ### impl_Prog_each: function 82 -/
def mapO {α β : Type} (F : α → Option β) : List α → Option (List β)
  | [] => some []
  | x :: xs => (F x).bind fun y => (mapO F xs).bind fun ys => some (y :: ys)
set_option maxRecDepth 100000 in
set_option maxHeartbeats 8000000 in
theorem each83 (k : Nat) (F : S85 → Option S85) (cv : Value) (A : Option Addr) (c : Nat) (l cl r : List (List S85)) (w : World) (hC : Kd.C (Kd.slice 85 k85) w A l.length l) (hc : l.length ≤ c)
    (hcl : ∀ (W : World) (d r : S85), Below w.heap.size w W → F d = some r → Calls Try.prog 83 #[.agg #[.int .i64 d.f0, .int .i64 d.f1, .int .i64 d.f2], cv] W fun e W' => e = .returned (.agg #[.int .i64 r.f0, .int .i64 r.f1, .int .i64 r.f2]) ∧ Below W.heap.size W W')
    (h1 : impl_Prog_copied.f k l = some cl) (h2 : mapO (mapO F) cl = some r) :
    Calls Try.prog 82 #[.agg #[.slice A l.length c], .func (.func 83) #[] #[cv]] w fun e w' => ∃ v_ : Value, e = .returned (.agg #[v_]) ∧ Kd.S (Kd.slice 85 k85) 82 w' w.heap.size (fun _ => True) v_ r ∧ Below w.heap.size w w' := by
  have HC := am_ hC
  have HF := am_ hcl
  have H1 := am_ h1
  have H2 := am_ h2
  clear hC hcl h1 h2
  go_enter Try.func82, Try.ntmps82
  go_wp2_with (go_at_call 90; refine park ?_)
  refine ⟨?_⟩
  have BR0 := am_ (heap_alloc_new (w.alloc (Obj.cells #[Value.slice A l.length c] 35)) (Obj.cells #[Value.slice none 0 0] 35))
  refine (impl_Prog_copied.calls k A c l cl _ (Kd.C_alloc (Kd.C_alloc HC.out _) _) hc H1.out).mono ?_
  rintro e w1 ⟨v0, rfl, hS, hb⟩
  obtain ⟨Av, cv0, rfl⟩ := Kd.S_slice hS
  have SZ : ((w.alloc (Obj.cells #[Value.slice A l.length c] 35)).alloc (Obj.cells #[Value.slice none 0 0] 35)).heap.size = w.heap.size + 2 := by rw [World.size_alloc, World.size_alloc]
  rw [World.size_alloc] at BR0
  have hcl : cl.length ≤ 9223372036854775807 := (Kd.R_reads' (Kd.S_R hS)).2.2.2.1
  have HB1 := am_ (below_then (below_alloc (below_alloc (Below.refl w.heap.size w) _) _) (below_alloc (below_alloc (Below.refl w.heap.size w) _) _).size hb)
  have BR1 := am_ (blk_below BR0.out hb)
  have hS2 := Kd.S_bound hS
  rw [SZ] at hS2
  have HS1 := am_ (Kd.S_lower (Kd.S_mono (ok' := fun k => w.heap.size + 2 ≤ k ∧ k < w1.heap.size) hS2 (fun k hk => ⟨hk.2.1, hk.2.2.1⟩)) (show w.heap.size ≤ w.heap.size + 2 by omega))
  have LT1 := am_ (show w.heap.size + 2 ≤ w1.heap.size by have := hb.size; omega)
  clear hS hS2 hb BR0 SZ
  have BP2 := am_ (heap_alloc_new w1 (Obj.cells #[Value.slice Av cl.length cv0] 35))
  have HB2 := am_ (below_alloc HB1.out (Obj.cells #[Value.slice Av cl.length cv0] 35))
  have BR2 := am_ (blk_alloc BR1.out (Obj.cells #[Value.slice Av cl.length cv0] 35))
  have HS2 := am_ (Kd.S_alloc HS1.out (Obj.cells #[Value.slice Av cl.length cv0] 35))
  clear HB1 BR1 HS1
  go_wp2_with fail
  go_loopg [15] cl.length (fun kq v15 w' => ∃ (done rest rest' : List (List S85)), v15 = .int .i64 done.length ∧ rest.length = kq ∧ Aside0 (done.length + rest.length = cl.length) ∧ Aside0 (mapO (mapO F) rest = some rest') ∧ Aside0 (r = done ++ rest') ∧
    Aside0 (Kd.S (Kd.slice 85 k85) 82 w' w.heap.size (fun k => w.heap.size + 2 ≤ k ∧ k < w1.heap.size) (.slice Av cl.length cv0) (done ++ rest)) ∧ Aside0 (Below w.heap.size w w') ∧ Aside0 (w'.heap[w.heap.size + 1]? = some (Obj.cells #[Value.slice none 0 0] 35)) ∧ Aside0 (w'.heap[w1.heap.size]? = some (Obj.cells #[Value.slice Av cl.length cv0] 35)))
  case atStart => exact ⟨[], cl, r, rfl, rfl, ⟨by simp⟩, H2, ⟨rfl⟩, HS2, HB2, BR2, BP2⟩
  case round =>
    obtain ⟨done, rest, rest', rfl, hkq, HL, HM, HR, HSr, HBr, BRr, BPr⟩ := hrel
    clear HB2 BR2 BP2 HS2 HC H1 H2
    cases rest with
    | nil =>
      have hrs' : rest' = [] := by have := HM.out; simp only [mapO, Option.some.injEq] at this; exact this.symm
      subst hrs'
      have hge : ¬ (done.length : Int) < (cl.length : Int) := by have := HL.out; simp only [List.length_nil] at this; omega
      have hcp : wr.cell? ⟨w1.heap.size, 0, none⟩ = some (.slice Av cl.length cv0) := (blk_cell BPr.out 0).trans rfl
      have hcr : wr.cell? ⟨w.heap.size + 1, 0, none⟩ = some (.slice none 0 0) := (blk_cell BRr.out 0).trans rfl
      have hfr := blk_frozen BRr.out 0
      go_wp2_with fail
      refine bodyPost_ret (results_cell_row rfl _ _ (w.heap.size + 1) 35 #[.slice Av cl.length cv0] (0, 0) _ rfl (blk_set BRr.out 0 _) Try.underlying35 rfl (by kernel_rfl)) rfl ?_
      refine ⟨_, rfl, ?_, below_set HBr.out (by omega)⟩
      have h := HSr.out
      rw [List.append_nil] at h
      have e := HR.out
      rw [List.append_nil] at e
      rw [e]
      exact Kd.S_mono (Kd.S_far (p := ⟨w.heap.size + 1, 0, none⟩) h (fun k hk => by show k ≠ w.heap.size + 1; omega) _) (fun _ _ => trivial)
    | cons row rest1 =>
      have HMM := HM.out
      clear HM
      simp only [mapO] at HMM
      obtain ⟨row', hm1, HMM⟩ := Option.bind_eq_some_iff.mp HMM
      obtain ⟨rest1', hm2, HMM⟩ := Option.bind_eq_some_iff.mp HMM
      simp only [Option.some.injEq] at HMM
      subst HMM
      have M1 := am_ hm1
      have M2 := am_ hm2
      clear hm1 hm2
      have hlt : (done.length : Int) < (cl.length : Int) := by have := HL.out; simp only [List.length_cons] at this; omega
      obtain ⟨g, cap, eA, hg0, hgl, cells, hcells⟩ := Kd.S_form HSr.out z82_3
      have hS := HSr.out
      have eL : (done ++ row :: rest1).length = cl.length := by have := HL.out; simpa using this
      rw [eL] at eA
      rw [eA] at hS
      obtain ⟨oki, cs, hlen, hM, hcc, hoki, hH⟩ := Kd.S_lend hS [] (done.length : Int) (by omega) (by omega)
      rw [show (done ++ row :: rest1).getD (done.length : Int).toNat [] = row by simp] at hM
      obtain ⟨u, rfl, hRu⟩ := hM
      obtain ⟨Au, cu, rfl⟩ := Kd.R_slice hRu
      have hcu : wr.cell? ⟨g, done.length, none⟩ = some (.slice Au row.length cu) := by have h1 := hcc 0 _ rfl; rwa [show (done.length : Int).toNat * (Kd.slice 85 k85).sz + 0 = done.length from by show (done.length : Int).toNat * 1 + 0 = _; omega] at h1
      have hfu := blk_frozen hcells done.length
      have HRu := am_ hRu
      have HHr := am_ hH
      have HOK := am_ hoki
      clear hcells hRu hH hoki hS hcc
      go_wp2_with fail
      clear hcu hfu
      have hrl : row.length ≤ 9223372036854775807 := (Kd.R_reads' HRu.out).2.2.2.1
      go_loopg [21] row.length (fun jq v21 W => ∃ (dn rs rs' : List S85), v21 = .int .i64 dn.length ∧ rs.length = jq ∧ Aside0 (dn.length + rs.length = row.length) ∧ Aside0 (mapO F rs = some rs') ∧ Aside0 (row' = dn ++ rs') ∧
        Aside0 (Kd.R k85 85 W w.heap.size oki (.slice Au row.length cu) (dn ++ rs)) ∧ Aside0 (Kd.H (Kd.slice 85 k85) 82 W w.heap.size (fun k => w.heap.size + 2 ≤ k ∧ k < w1.heap.size) (.slice (some ⟨g, 0, none⟩) cl.length cv0) (done ++ row :: rest1) done.length oki [.slice Au row.length cu]) ∧
        Aside0 (Below w.heap.size w W) ∧ Aside0 (W.heap[w.heap.size + 1]? = some (Obj.cells #[Value.slice none 0 0] 35)) ∧ Aside0 (W.heap[w1.heap.size]? = some (Obj.cells #[Value.slice (some ⟨g, 0, none⟩) cl.length cv0] 35)))
      case atStart => exact ⟨[], row, row', rfl, rfl, ⟨by simp⟩, M1, ⟨rfl⟩, HRu, HHr, HBr, BRr, BPr⟩
      case round =>
        obtain ⟨dn, rs, rs', rfl, hjq, HLi, HMi, HRi, HRw, HHw, HBw, BRw, BPw⟩ := hrel
        clear HRu HHr HBr BRr BPr M1 HSr
        cases rs with
        | nil =>
          have hrs' : rs' = [] := by have := HMi.out; simp only [mapO, Option.some.injEq] at this; exact this.symm
          subst hrs'
          have hge : ¬ (dn.length : Int) < (row.length : Int) := by have := HLi.out; simp only [List.length_nil] at this; omega
          have HSn := am_ (show Kd.S (Kd.slice 85 k85) 82 wr w.heap.size (fun k => w.heap.size + 2 ≤ k ∧ k < w1.heap.size) (.slice (some ⟨g, 0, none⟩) cl.length cv0) (done ++ [row'] ++ rest1) from by
            have h := Kd.H_back HHw.out (Kd.M_row HRw.out) (fun k hk => hk)
            rw [show (done ++ row :: rest1).set (done.length : Int).toNat (dn ++ []) = done ++ [row'] ++ rest1 from by rw [Int.toNat_natCast, List.set_append_right _ _ (Nat.le_refl _), HRi.out]; simp] at h
            exact h)
          clear HRw HHw
          go_wp2_with fail
          go_roundg rest1.length
          case measure => simp only [List.length_cons] at hkq; omega
          case rel => exact ⟨done ++ [row'], rest1, rest1', by simp, rfl, ⟨by have := HL.out; simp only [List.length_cons] at this; simp only [List.length_append, List.length_singleton]; omega⟩, M2, ⟨by rw [HR.out]; simp⟩, HSn, HBw, BRw, BPw⟩
        | cons d rs1 =>
          have HMM := HMi.out
          clear HMi
          simp only [mapO] at HMM
          obtain ⟨d', hm1, HMM⟩ := Option.bind_eq_some_iff.mp HMM
          obtain ⟨rs1', hm3, HMM⟩ := Option.bind_eq_some_iff.mp HMM
          simp only [Option.some.injEq] at HMM
          subst HMM
          have N1 := am_ hm1
          have N2 := am_ hm3
          clear hm1 hm3
          have hlti : (dn.length : Int) < (row.length : Int) := by have := HLi.out; simp only [List.length_cons] at this; omega
          obtain ⟨gi, capi, eAi, hgi0, hgil, cellsi, hcellsi⟩ := Kd.R_form HRw.out z82_3
          have hR := HRw.out
          have eLi : (dn ++ d :: rs1).length = row.length := by have := HLi.out; simpa using this
          rw [eLi] at eAi
          rw [eAi] at hR
          obtain ⟨ce, hce, hMe, hcce, hfre⟩ := Kd.R_elem hR z85 (dn.length : Int) (by omega) (by omega)
          rw [show (dn ++ d :: rs1).getD (dn.length : Int).toNat z85 = d by simp] at hMe
          obtain rfl := k85_openM hMe
          have hx0 := hcce 0 _ rfl
          have hx1 := hcce 1 _ rfl
          have hx2 := hcce 2 _ rfl
          rw [show (dn.length : Int).toNat * (k85).sz + 0 = dn.length * 3 from by show (dn.length : Int).toNat * 3 + 0 = _; omega] at hx0
          rw [show (dn.length : Int).toNat * (k85).sz + 1 = dn.length * 3 + 1 from by show (dn.length : Int).toNat * 3 + 1 = _; omega] at hx1
          rw [show (dn.length : Int).toNat * (k85).sz + 2 = dn.length * 3 + 2 from by show (dn.length : Int).toNat * 3 + 2 = _; omega] at hx2
          have HRo := am_ hR
          clear hMe hR hcce hfre
          go_wp2_with (go_at_call 83; refine park ?_)
          clear hx0 hx1 hx2
          refine ⟨?_⟩
          refine (HF.out _ d d' (below_alloc HBw.out _) N1.out).mono ?_
          rintro e w2 ⟨rfl, hb⟩
          have HB3 := am_ (below_then (below_alloc HBw.out (Obj.cells #[Value.int IntKind.i64 d.f0, Value.int IntKind.i64 d.f1, Value.int IntKind.i64 d.f2] 85)) (below_alloc HBw.out (Obj.cells #[Value.int IntKind.i64 d.f0, Value.int IntKind.i64 d.f1, Value.int IntKind.i64 d.f2] 85)).size hb)
          have hR3 := Kd.R_below (Kd.R_alloc HRo.out (Obj.cells #[Value.int IntKind.i64 d.f0, Value.int IntKind.i64 d.f1, Value.int IntKind.i64 d.f2] 85)) hb
          have HH3 := am_ (Kd.H_below (Kd.H_alloc HHw.out (Obj.cells #[Value.int IntKind.i64 d.f0, Value.int IntKind.i64 d.f1, Value.int IntKind.i64 d.f2] 85)) hb)
          have BR3 := am_ (blk_below (blk_alloc BRw.out (Obj.cells #[Value.int IntKind.i64 d.f0, Value.int IntKind.i64 d.f1, Value.int IntKind.i64 d.f2] 85)) hb)
          have BP3 := am_ (blk_below (blk_alloc BPw.out (Obj.cells #[Value.int IntKind.i64 d.f0, Value.int IntKind.i64 d.f1, Value.int IntKind.i64 d.f2] 85)) hb)
          have HRn := am_ (HRw.out.1 gi rfl)
          clear HBw HHw BRw BPw HRo HRw hb
          obtain ⟨ce, hce, hMe, hcce, hfre⟩ := Kd.R_elem hR3 z85 (dn.length : Int) (by omega) (by omega)
          rw [show (dn ++ d :: rs1).getD (dn.length : Int).toNat z85 = d by simp] at hMe
          obtain rfl := k85_openM hMe
          have HP := am_ (Kd.R_seg hR3 (dn.length : Int) (by omega) (by omega) (seg := [.int .i64 d'.f0, .int .i64 d'.f1, .int .i64 d'.f2]) (j := 0) hce hcce (show 3 ≤ 3 from by decide) (x' := d') (k85_mkM _ _ _ d') (fun _ hk => hk))
          have hx0 := hcce 0 _ rfl
          have hx1 := hcce 1 _ rfl
          have hx2 := hcce 2 _ rfl
          have hf0 := hfre 0
          have hf1 := hfre 1
          have hf2 := hfre 2
          have e0 : (dn.length : Int).toNat * (k85).sz + 0 = dn.length * 3 := by show (dn.length : Int).toNat * 3 + 0 = _; omega
          have e1 : (dn.length : Int).toNat * (k85).sz + 1 = dn.length * 3 + 1 := by show (dn.length : Int).toNat * 3 + 1 = _; omega
          have e2 : (dn.length : Int).toNat * (k85).sz + 2 = dn.length * 3 + 2 := by show (dn.length : Int).toNat * 3 + 2 = _; omega
          rw [e0] at hx0 hf0
          rw [e1] at hx1 hf1
          rw [e2] at hx2 hf2
          clear e0 e1 e2 hMe hcce hfre hR3
          have HP' := am_ (show Kd.R k85 85 (((w2.setCell ⟨gi, dn.length * 3, none⟩ (.int .i64 d'.f0)).setCell ⟨gi, dn.length * 3 + 1, none⟩ (.int .i64 d'.f1)).setCell ⟨gi, dn.length * 3 + 2, none⟩ (.int .i64 d'.f2)) w.heap.size oki (.slice (some ⟨gi, 0, none⟩) row.length cu) (dn ++ [d'] ++ rs1) ∧ w2.grownBy (((w2.setCell ⟨gi, dn.length * 3, none⟩ (.int .i64 d'.f0)).setCell ⟨gi, dn.length * 3 + 1, none⟩ (.int .i64 d'.f1)).setCell ⟨gi, dn.length * 3 + 2, none⟩ (.int .i64 d'.f2)) (some gi) from by
            have h := HP.out
            rw [show (dn.length : Int).toNat * (k85).sz + 0 = dn.length * 3 from by show (dn.length : Int).toNat * 3 + 0 = _; omega, show (dn ++ d :: rs1).set (dn.length : Int).toNat d' = dn ++ [d'] ++ rs1 from by rw [Int.toNat_natCast, List.set_append_right _ _ (Nat.le_refl _)]; simp] at h
            exact h)
          clear HP
          go_wp2_with fail
          clear hx0 hx1 hx2 hf0 hf1 hf2
          go_roundg rs1.length
          case measure => simp only [List.length_cons] at hjq; omega
          case rel =>
            have hOKn := (HOK.out _ HRn.out).1
            exact ⟨dn ++ [d'], rs1, rs1', by simp, rfl, ⟨by have := HLi.out; simp only [List.length_cons] at this; simp only [List.length_append, List.length_singleton]; omega⟩, N2, ⟨by rw [HRi.out]; simp⟩, ⟨HP'.out.1⟩, ⟨Kd.H_grown HH3.out HP'.out.2 (fun k hk => z82_2)⟩,
              ⟨HB3.out.grown HP'.out.2 HB3.out.size (fun k hk => by injection hk with hk; omega)⟩, ⟨blk_grown BR3.out HP'.out.2 (fun e => z82_1)⟩, ⟨blk_grown BP3.out HP'.out.2 (fun e => z82_1)⟩⟩
set_option maxRecDepth 100000 in
set_option maxHeartbeats 8000000 in
theorem each99 (k : Nat) (F : S85 → Option S85) (cv : Value) (A : Option Addr) (c : Nat) (l cl r : List (List S85)) (w : World) (hC : Kd.C (Kd.slice 85 k85) w A l.length l) (hc : l.length ≤ c)
    (hcl : ∀ (W : World) (d r : S85), Below w.heap.size w W → F d = some r → Calls Try.prog 99 #[.agg #[.int .i64 d.f0, .int .i64 d.f1, .int .i64 d.f2], cv] W fun e W' => e = .returned (.agg #[.int .i64 r.f0, .int .i64 r.f1, .int .i64 r.f2]) ∧ Below W.heap.size W W')
    (h1 : impl_Prog_copied.f k l = some cl) (h2 : mapO (mapO F) cl = some r) :
    Calls Try.prog 82 #[.agg #[.slice A l.length c], .func (.func 99) #[] #[cv]] w fun e w' => ∃ v_ : Value, e = .returned (.agg #[v_]) ∧ Kd.S (Kd.slice 85 k85) 82 w' w.heap.size (fun _ => True) v_ r ∧ Below w.heap.size w w' := by
  have HC := am_ hC
  have HF := am_ hcl
  have H1 := am_ h1
  have H2 := am_ h2
  clear hC hcl h1 h2
  go_enter Try.func82, Try.ntmps82
  go_wp2_with (go_at_call 90; refine park ?_)
  refine ⟨?_⟩
  have BR0 := am_ (heap_alloc_new (w.alloc (Obj.cells #[Value.slice A l.length c] 35)) (Obj.cells #[Value.slice none 0 0] 35))
  refine (impl_Prog_copied.calls k A c l cl _ (Kd.C_alloc (Kd.C_alloc HC.out _) _) hc H1.out).mono ?_
  rintro e w1 ⟨v0, rfl, hS, hb⟩
  obtain ⟨Av, cv0, rfl⟩ := Kd.S_slice hS
  have SZ : ((w.alloc (Obj.cells #[Value.slice A l.length c] 35)).alloc (Obj.cells #[Value.slice none 0 0] 35)).heap.size = w.heap.size + 2 := by rw [World.size_alloc, World.size_alloc]
  rw [World.size_alloc] at BR0
  have hcl : cl.length ≤ 9223372036854775807 := (Kd.R_reads' (Kd.S_R hS)).2.2.2.1
  have HB1 := am_ (below_then (below_alloc (below_alloc (Below.refl w.heap.size w) _) _) (below_alloc (below_alloc (Below.refl w.heap.size w) _) _).size hb)
  have BR1 := am_ (blk_below BR0.out hb)
  have hS2 := Kd.S_bound hS
  rw [SZ] at hS2
  have HS1 := am_ (Kd.S_lower (Kd.S_mono (ok' := fun k => w.heap.size + 2 ≤ k ∧ k < w1.heap.size) hS2 (fun k hk => ⟨hk.2.1, hk.2.2.1⟩)) (show w.heap.size ≤ w.heap.size + 2 by omega))
  have LT1 := am_ (show w.heap.size + 2 ≤ w1.heap.size by have := hb.size; omega)
  clear hS hS2 hb BR0 SZ
  have BP2 := am_ (heap_alloc_new w1 (Obj.cells #[Value.slice Av cl.length cv0] 35))
  have HB2 := am_ (below_alloc HB1.out (Obj.cells #[Value.slice Av cl.length cv0] 35))
  have BR2 := am_ (blk_alloc BR1.out (Obj.cells #[Value.slice Av cl.length cv0] 35))
  have HS2 := am_ (Kd.S_alloc HS1.out (Obj.cells #[Value.slice Av cl.length cv0] 35))
  clear HB1 BR1 HS1
  go_wp2_with fail
  go_loopg [15] cl.length (fun kq v15 w' => ∃ (done rest rest' : List (List S85)), v15 = .int .i64 done.length ∧ rest.length = kq ∧ Aside0 (done.length + rest.length = cl.length) ∧ Aside0 (mapO (mapO F) rest = some rest') ∧ Aside0 (r = done ++ rest') ∧
    Aside0 (Kd.S (Kd.slice 85 k85) 82 w' w.heap.size (fun k => w.heap.size + 2 ≤ k ∧ k < w1.heap.size) (.slice Av cl.length cv0) (done ++ rest)) ∧ Aside0 (Below w.heap.size w w') ∧ Aside0 (w'.heap[w.heap.size + 1]? = some (Obj.cells #[Value.slice none 0 0] 35)) ∧ Aside0 (w'.heap[w1.heap.size]? = some (Obj.cells #[Value.slice Av cl.length cv0] 35)))
  case atStart => exact ⟨[], cl, r, rfl, rfl, ⟨by simp⟩, H2, ⟨rfl⟩, HS2, HB2, BR2, BP2⟩
  case round =>
    obtain ⟨done, rest, rest', rfl, hkq, HL, HM, HR, HSr, HBr, BRr, BPr⟩ := hrel
    clear HB2 BR2 BP2 HS2 HC H1 H2
    cases rest with
    | nil =>
      have hrs' : rest' = [] := by have := HM.out; simp only [mapO, Option.some.injEq] at this; exact this.symm
      subst hrs'
      have hge : ¬ (done.length : Int) < (cl.length : Int) := by have := HL.out; simp only [List.length_nil] at this; omega
      have hcp : wr.cell? ⟨w1.heap.size, 0, none⟩ = some (.slice Av cl.length cv0) := (blk_cell BPr.out 0).trans rfl
      have hcr : wr.cell? ⟨w.heap.size + 1, 0, none⟩ = some (.slice none 0 0) := (blk_cell BRr.out 0).trans rfl
      have hfr := blk_frozen BRr.out 0
      go_wp2_with fail
      refine bodyPost_ret (results_cell_row rfl _ _ (w.heap.size + 1) 35 #[.slice Av cl.length cv0] (0, 0) _ rfl (blk_set BRr.out 0 _) Try.underlying35 rfl (by kernel_rfl)) rfl ?_
      refine ⟨_, rfl, ?_, below_set HBr.out (by omega)⟩
      have h := HSr.out
      rw [List.append_nil] at h
      have e := HR.out
      rw [List.append_nil] at e
      rw [e]
      exact Kd.S_mono (Kd.S_far (p := ⟨w.heap.size + 1, 0, none⟩) h (fun k hk => by show k ≠ w.heap.size + 1; omega) _) (fun _ _ => trivial)
    | cons row rest1 =>
      have HMM := HM.out
      clear HM
      simp only [mapO] at HMM
      obtain ⟨row', hm1, HMM⟩ := Option.bind_eq_some_iff.mp HMM
      obtain ⟨rest1', hm2, HMM⟩ := Option.bind_eq_some_iff.mp HMM
      simp only [Option.some.injEq] at HMM
      subst HMM
      have M1 := am_ hm1
      have M2 := am_ hm2
      clear hm1 hm2
      have hlt : (done.length : Int) < (cl.length : Int) := by have := HL.out; simp only [List.length_cons] at this; omega
      obtain ⟨g, cap, eA, hg0, hgl, cells, hcells⟩ := Kd.S_form HSr.out z82_3
      have hS := HSr.out
      have eL : (done ++ row :: rest1).length = cl.length := by have := HL.out; simpa using this
      rw [eL] at eA
      rw [eA] at hS
      obtain ⟨oki, cs, hlen, hM, hcc, hoki, hH⟩ := Kd.S_lend hS [] (done.length : Int) (by omega) (by omega)
      rw [show (done ++ row :: rest1).getD (done.length : Int).toNat [] = row by simp] at hM
      obtain ⟨u, rfl, hRu⟩ := hM
      obtain ⟨Au, cu, rfl⟩ := Kd.R_slice hRu
      have hcu : wr.cell? ⟨g, done.length, none⟩ = some (.slice Au row.length cu) := by have h1 := hcc 0 _ rfl; rwa [show (done.length : Int).toNat * (Kd.slice 85 k85).sz + 0 = done.length from by show (done.length : Int).toNat * 1 + 0 = _; omega] at h1
      have hfu := blk_frozen hcells done.length
      have HRu := am_ hRu
      have HHr := am_ hH
      have HOK := am_ hoki
      clear hcells hRu hH hoki hS hcc
      go_wp2_with fail
      clear hcu hfu
      have hrl : row.length ≤ 9223372036854775807 := (Kd.R_reads' HRu.out).2.2.2.1
      go_loopg [21] row.length (fun jq v21 W => ∃ (dn rs rs' : List S85), v21 = .int .i64 dn.length ∧ rs.length = jq ∧ Aside0 (dn.length + rs.length = row.length) ∧ Aside0 (mapO F rs = some rs') ∧ Aside0 (row' = dn ++ rs') ∧
        Aside0 (Kd.R k85 85 W w.heap.size oki (.slice Au row.length cu) (dn ++ rs)) ∧ Aside0 (Kd.H (Kd.slice 85 k85) 82 W w.heap.size (fun k => w.heap.size + 2 ≤ k ∧ k < w1.heap.size) (.slice (some ⟨g, 0, none⟩) cl.length cv0) (done ++ row :: rest1) done.length oki [.slice Au row.length cu]) ∧
        Aside0 (Below w.heap.size w W) ∧ Aside0 (W.heap[w.heap.size + 1]? = some (Obj.cells #[Value.slice none 0 0] 35)) ∧ Aside0 (W.heap[w1.heap.size]? = some (Obj.cells #[Value.slice (some ⟨g, 0, none⟩) cl.length cv0] 35)))
      case atStart => exact ⟨[], row, row', rfl, rfl, ⟨by simp⟩, M1, ⟨rfl⟩, HRu, HHr, HBr, BRr, BPr⟩
      case round =>
        obtain ⟨dn, rs, rs', rfl, hjq, HLi, HMi, HRi, HRw, HHw, HBw, BRw, BPw⟩ := hrel
        clear HRu HHr HBr BRr BPr M1 HSr
        cases rs with
        | nil =>
          have hrs' : rs' = [] := by have := HMi.out; simp only [mapO, Option.some.injEq] at this; exact this.symm
          subst hrs'
          have hge : ¬ (dn.length : Int) < (row.length : Int) := by have := HLi.out; simp only [List.length_nil] at this; omega
          have HSn := am_ (show Kd.S (Kd.slice 85 k85) 82 wr w.heap.size (fun k => w.heap.size + 2 ≤ k ∧ k < w1.heap.size) (.slice (some ⟨g, 0, none⟩) cl.length cv0) (done ++ [row'] ++ rest1) from by
            have h := Kd.H_back HHw.out (Kd.M_row HRw.out) (fun k hk => hk)
            rw [show (done ++ row :: rest1).set (done.length : Int).toNat (dn ++ []) = done ++ [row'] ++ rest1 from by rw [Int.toNat_natCast, List.set_append_right _ _ (Nat.le_refl _), HRi.out]; simp] at h
            exact h)
          clear HRw HHw
          go_wp2_with fail
          go_roundg rest1.length
          case measure => simp only [List.length_cons] at hkq; omega
          case rel => exact ⟨done ++ [row'], rest1, rest1', by simp, rfl, ⟨by have := HL.out; simp only [List.length_cons] at this; simp only [List.length_append, List.length_singleton]; omega⟩, M2, ⟨by rw [HR.out]; simp⟩, HSn, HBw, BRw, BPw⟩
        | cons d rs1 =>
          have HMM := HMi.out
          clear HMi
          simp only [mapO] at HMM
          obtain ⟨d', hm1, HMM⟩ := Option.bind_eq_some_iff.mp HMM
          obtain ⟨rs1', hm3, HMM⟩ := Option.bind_eq_some_iff.mp HMM
          simp only [Option.some.injEq] at HMM
          subst HMM
          have N1 := am_ hm1
          have N2 := am_ hm3
          clear hm1 hm3
          have hlti : (dn.length : Int) < (row.length : Int) := by have := HLi.out; simp only [List.length_cons] at this; omega
          obtain ⟨gi, capi, eAi, hgi0, hgil, cellsi, hcellsi⟩ := Kd.R_form HRw.out z82_3
          have hR := HRw.out
          have eLi : (dn ++ d :: rs1).length = row.length := by have := HLi.out; simpa using this
          rw [eLi] at eAi
          rw [eAi] at hR
          obtain ⟨ce, hce, hMe, hcce, hfre⟩ := Kd.R_elem hR z85 (dn.length : Int) (by omega) (by omega)
          rw [show (dn ++ d :: rs1).getD (dn.length : Int).toNat z85 = d by simp] at hMe
          obtain rfl := k85_openM hMe
          have hx0 := hcce 0 _ rfl
          have hx1 := hcce 1 _ rfl
          have hx2 := hcce 2 _ rfl
          rw [show (dn.length : Int).toNat * (k85).sz + 0 = dn.length * 3 from by show (dn.length : Int).toNat * 3 + 0 = _; omega] at hx0
          rw [show (dn.length : Int).toNat * (k85).sz + 1 = dn.length * 3 + 1 from by show (dn.length : Int).toNat * 3 + 1 = _; omega] at hx1
          rw [show (dn.length : Int).toNat * (k85).sz + 2 = dn.length * 3 + 2 from by show (dn.length : Int).toNat * 3 + 2 = _; omega] at hx2
          have HRo := am_ hR
          clear hMe hR hcce hfre
          go_wp2_with (go_at_call 99; refine park ?_)
          clear hx0 hx1 hx2
          refine ⟨?_⟩
          refine (HF.out _ d d' (below_alloc HBw.out _) N1.out).mono ?_
          rintro e w2 ⟨rfl, hb⟩
          have HB3 := am_ (below_then (below_alloc HBw.out (Obj.cells #[Value.int IntKind.i64 d.f0, Value.int IntKind.i64 d.f1, Value.int IntKind.i64 d.f2] 85)) (below_alloc HBw.out (Obj.cells #[Value.int IntKind.i64 d.f0, Value.int IntKind.i64 d.f1, Value.int IntKind.i64 d.f2] 85)).size hb)
          have hR3 := Kd.R_below (Kd.R_alloc HRo.out (Obj.cells #[Value.int IntKind.i64 d.f0, Value.int IntKind.i64 d.f1, Value.int IntKind.i64 d.f2] 85)) hb
          have HH3 := am_ (Kd.H_below (Kd.H_alloc HHw.out (Obj.cells #[Value.int IntKind.i64 d.f0, Value.int IntKind.i64 d.f1, Value.int IntKind.i64 d.f2] 85)) hb)
          have BR3 := am_ (blk_below (blk_alloc BRw.out (Obj.cells #[Value.int IntKind.i64 d.f0, Value.int IntKind.i64 d.f1, Value.int IntKind.i64 d.f2] 85)) hb)
          have BP3 := am_ (blk_below (blk_alloc BPw.out (Obj.cells #[Value.int IntKind.i64 d.f0, Value.int IntKind.i64 d.f1, Value.int IntKind.i64 d.f2] 85)) hb)
          have HRn := am_ (HRw.out.1 gi rfl)
          clear HBw HHw BRw BPw HRo HRw hb
          obtain ⟨ce, hce, hMe, hcce, hfre⟩ := Kd.R_elem hR3 z85 (dn.length : Int) (by omega) (by omega)
          rw [show (dn ++ d :: rs1).getD (dn.length : Int).toNat z85 = d by simp] at hMe
          obtain rfl := k85_openM hMe
          have HP := am_ (Kd.R_seg hR3 (dn.length : Int) (by omega) (by omega) (seg := [.int .i64 d'.f0, .int .i64 d'.f1, .int .i64 d'.f2]) (j := 0) hce hcce (show 3 ≤ 3 from by decide) (x' := d') (k85_mkM _ _ _ d') (fun _ hk => hk))
          have hx0 := hcce 0 _ rfl
          have hx1 := hcce 1 _ rfl
          have hx2 := hcce 2 _ rfl
          have hf0 := hfre 0
          have hf1 := hfre 1
          have hf2 := hfre 2
          have e0 : (dn.length : Int).toNat * (k85).sz + 0 = dn.length * 3 := by show (dn.length : Int).toNat * 3 + 0 = _; omega
          have e1 : (dn.length : Int).toNat * (k85).sz + 1 = dn.length * 3 + 1 := by show (dn.length : Int).toNat * 3 + 1 = _; omega
          have e2 : (dn.length : Int).toNat * (k85).sz + 2 = dn.length * 3 + 2 := by show (dn.length : Int).toNat * 3 + 2 = _; omega
          rw [e0] at hx0 hf0
          rw [e1] at hx1 hf1
          rw [e2] at hx2 hf2
          clear e0 e1 e2 hMe hcce hfre hR3
          have HP' := am_ (show Kd.R k85 85 (((w2.setCell ⟨gi, dn.length * 3, none⟩ (.int .i64 d'.f0)).setCell ⟨gi, dn.length * 3 + 1, none⟩ (.int .i64 d'.f1)).setCell ⟨gi, dn.length * 3 + 2, none⟩ (.int .i64 d'.f2)) w.heap.size oki (.slice (some ⟨gi, 0, none⟩) row.length cu) (dn ++ [d'] ++ rs1) ∧ w2.grownBy (((w2.setCell ⟨gi, dn.length * 3, none⟩ (.int .i64 d'.f0)).setCell ⟨gi, dn.length * 3 + 1, none⟩ (.int .i64 d'.f1)).setCell ⟨gi, dn.length * 3 + 2, none⟩ (.int .i64 d'.f2)) (some gi) from by
            have h := HP.out
            rw [show (dn.length : Int).toNat * (k85).sz + 0 = dn.length * 3 from by show (dn.length : Int).toNat * 3 + 0 = _; omega, show (dn ++ d :: rs1).set (dn.length : Int).toNat d' = dn ++ [d'] ++ rs1 from by rw [Int.toNat_natCast, List.set_append_right _ _ (Nat.le_refl _)]; simp] at h
            exact h)
          clear HP
          go_wp2_with fail
          clear hx0 hx1 hx2 hf0 hf1 hf2
          go_roundg rs1.length
          case measure => simp only [List.length_cons] at hjq; omega
          case rel =>
            have hOKn := (HOK.out _ HRn.out).1
            exact ⟨dn ++ [d'], rs1, rs1', by simp, rfl, ⟨by have := HLi.out; simp only [List.length_cons] at this; simp only [List.length_append, List.length_singleton]; omega⟩, N2, ⟨by rw [HRi.out]; simp⟩, ⟨HP'.out.1⟩, ⟨Kd.H_grown HH3.out HP'.out.2 (fun k hk => z82_2)⟩,
              ⟨HB3.out.grown HP'.out.2 HB3.out.size (fun k hk => by injection hk with hk; omega)⟩, ⟨blk_grown BR3.out HP'.out.2 (fun e => z82_1)⟩, ⟨blk_grown BP3.out HP'.out.2 (fun e => z82_1)⟩⟩
set_option maxRecDepth 100000 in
set_option maxHeartbeats 8000000 in
theorem each102 (k : Nat) (F : S85 → Option S85) (cv : Value) (A : Option Addr) (c : Nat) (l cl r : List (List S85)) (w : World) (hC : Kd.C (Kd.slice 85 k85) w A l.length l) (hc : l.length ≤ c)
    (hcl : ∀ (W : World) (d r : S85), Below w.heap.size w W → F d = some r → Calls Try.prog 102 #[.agg #[.int .i64 d.f0, .int .i64 d.f1, .int .i64 d.f2], cv] W fun e W' => e = .returned (.agg #[.int .i64 r.f0, .int .i64 r.f1, .int .i64 r.f2]) ∧ Below W.heap.size W W')
    (h1 : impl_Prog_copied.f k l = some cl) (h2 : mapO (mapO F) cl = some r) :
    Calls Try.prog 82 #[.agg #[.slice A l.length c], .func (.func 102) #[] #[cv]] w fun e w' => ∃ v_ : Value, e = .returned (.agg #[v_]) ∧ Kd.S (Kd.slice 85 k85) 82 w' w.heap.size (fun _ => True) v_ r ∧ Below w.heap.size w w' := by
  have HC := am_ hC
  have HF := am_ hcl
  have H1 := am_ h1
  have H2 := am_ h2
  clear hC hcl h1 h2
  go_enter Try.func82, Try.ntmps82
  go_wp2_with (go_at_call 90; refine park ?_)
  refine ⟨?_⟩
  have BR0 := am_ (heap_alloc_new (w.alloc (Obj.cells #[Value.slice A l.length c] 35)) (Obj.cells #[Value.slice none 0 0] 35))
  refine (impl_Prog_copied.calls k A c l cl _ (Kd.C_alloc (Kd.C_alloc HC.out _) _) hc H1.out).mono ?_
  rintro e w1 ⟨v0, rfl, hS, hb⟩
  obtain ⟨Av, cv0, rfl⟩ := Kd.S_slice hS
  have SZ : ((w.alloc (Obj.cells #[Value.slice A l.length c] 35)).alloc (Obj.cells #[Value.slice none 0 0] 35)).heap.size = w.heap.size + 2 := by rw [World.size_alloc, World.size_alloc]
  rw [World.size_alloc] at BR0
  have hcl : cl.length ≤ 9223372036854775807 := (Kd.R_reads' (Kd.S_R hS)).2.2.2.1
  have HB1 := am_ (below_then (below_alloc (below_alloc (Below.refl w.heap.size w) _) _) (below_alloc (below_alloc (Below.refl w.heap.size w) _) _).size hb)
  have BR1 := am_ (blk_below BR0.out hb)
  have hS2 := Kd.S_bound hS
  rw [SZ] at hS2
  have HS1 := am_ (Kd.S_lower (Kd.S_mono (ok' := fun k => w.heap.size + 2 ≤ k ∧ k < w1.heap.size) hS2 (fun k hk => ⟨hk.2.1, hk.2.2.1⟩)) (show w.heap.size ≤ w.heap.size + 2 by omega))
  have LT1 := am_ (show w.heap.size + 2 ≤ w1.heap.size by have := hb.size; omega)
  clear hS hS2 hb BR0 SZ
  have BP2 := am_ (heap_alloc_new w1 (Obj.cells #[Value.slice Av cl.length cv0] 35))
  have HB2 := am_ (below_alloc HB1.out (Obj.cells #[Value.slice Av cl.length cv0] 35))
  have BR2 := am_ (blk_alloc BR1.out (Obj.cells #[Value.slice Av cl.length cv0] 35))
  have HS2 := am_ (Kd.S_alloc HS1.out (Obj.cells #[Value.slice Av cl.length cv0] 35))
  clear HB1 BR1 HS1
  go_wp2_with fail
  go_loopg [15] cl.length (fun kq v15 w' => ∃ (done rest rest' : List (List S85)), v15 = .int .i64 done.length ∧ rest.length = kq ∧ Aside0 (done.length + rest.length = cl.length) ∧ Aside0 (mapO (mapO F) rest = some rest') ∧ Aside0 (r = done ++ rest') ∧
    Aside0 (Kd.S (Kd.slice 85 k85) 82 w' w.heap.size (fun k => w.heap.size + 2 ≤ k ∧ k < w1.heap.size) (.slice Av cl.length cv0) (done ++ rest)) ∧ Aside0 (Below w.heap.size w w') ∧ Aside0 (w'.heap[w.heap.size + 1]? = some (Obj.cells #[Value.slice none 0 0] 35)) ∧ Aside0 (w'.heap[w1.heap.size]? = some (Obj.cells #[Value.slice Av cl.length cv0] 35)))
  case atStart => exact ⟨[], cl, r, rfl, rfl, ⟨by simp⟩, H2, ⟨rfl⟩, HS2, HB2, BR2, BP2⟩
  case round =>
    obtain ⟨done, rest, rest', rfl, hkq, HL, HM, HR, HSr, HBr, BRr, BPr⟩ := hrel
    clear HB2 BR2 BP2 HS2 HC H1 H2
    cases rest with
    | nil =>
      have hrs' : rest' = [] := by have := HM.out; simp only [mapO, Option.some.injEq] at this; exact this.symm
      subst hrs'
      have hge : ¬ (done.length : Int) < (cl.length : Int) := by have := HL.out; simp only [List.length_nil] at this; omega
      have hcp : wr.cell? ⟨w1.heap.size, 0, none⟩ = some (.slice Av cl.length cv0) := (blk_cell BPr.out 0).trans rfl
      have hcr : wr.cell? ⟨w.heap.size + 1, 0, none⟩ = some (.slice none 0 0) := (blk_cell BRr.out 0).trans rfl
      have hfr := blk_frozen BRr.out 0
      go_wp2_with fail
      refine bodyPost_ret (results_cell_row rfl _ _ (w.heap.size + 1) 35 #[.slice Av cl.length cv0] (0, 0) _ rfl (blk_set BRr.out 0 _) Try.underlying35 rfl (by kernel_rfl)) rfl ?_
      refine ⟨_, rfl, ?_, below_set HBr.out (by omega)⟩
      have h := HSr.out
      rw [List.append_nil] at h
      have e := HR.out
      rw [List.append_nil] at e
      rw [e]
      exact Kd.S_mono (Kd.S_far (p := ⟨w.heap.size + 1, 0, none⟩) h (fun k hk => by show k ≠ w.heap.size + 1; omega) _) (fun _ _ => trivial)
    | cons row rest1 =>
      have HMM := HM.out
      clear HM
      simp only [mapO] at HMM
      obtain ⟨row', hm1, HMM⟩ := Option.bind_eq_some_iff.mp HMM
      obtain ⟨rest1', hm2, HMM⟩ := Option.bind_eq_some_iff.mp HMM
      simp only [Option.some.injEq] at HMM
      subst HMM
      have M1 := am_ hm1
      have M2 := am_ hm2
      clear hm1 hm2
      have hlt : (done.length : Int) < (cl.length : Int) := by have := HL.out; simp only [List.length_cons] at this; omega
      obtain ⟨g, cap, eA, hg0, hgl, cells, hcells⟩ := Kd.S_form HSr.out z82_3
      have hS := HSr.out
      have eL : (done ++ row :: rest1).length = cl.length := by have := HL.out; simpa using this
      rw [eL] at eA
      rw [eA] at hS
      obtain ⟨oki, cs, hlen, hM, hcc, hoki, hH⟩ := Kd.S_lend hS [] (done.length : Int) (by omega) (by omega)
      rw [show (done ++ row :: rest1).getD (done.length : Int).toNat [] = row by simp] at hM
      obtain ⟨u, rfl, hRu⟩ := hM
      obtain ⟨Au, cu, rfl⟩ := Kd.R_slice hRu
      have hcu : wr.cell? ⟨g, done.length, none⟩ = some (.slice Au row.length cu) := by have h1 := hcc 0 _ rfl; rwa [show (done.length : Int).toNat * (Kd.slice 85 k85).sz + 0 = done.length from by show (done.length : Int).toNat * 1 + 0 = _; omega] at h1
      have hfu := blk_frozen hcells done.length
      have HRu := am_ hRu
      have HHr := am_ hH
      have HOK := am_ hoki
      clear hcells hRu hH hoki hS hcc
      go_wp2_with fail
      clear hcu hfu
      have hrl : row.length ≤ 9223372036854775807 := (Kd.R_reads' HRu.out).2.2.2.1
      go_loopg [21] row.length (fun jq v21 W => ∃ (dn rs rs' : List S85), v21 = .int .i64 dn.length ∧ rs.length = jq ∧ Aside0 (dn.length + rs.length = row.length) ∧ Aside0 (mapO F rs = some rs') ∧ Aside0 (row' = dn ++ rs') ∧
        Aside0 (Kd.R k85 85 W w.heap.size oki (.slice Au row.length cu) (dn ++ rs)) ∧ Aside0 (Kd.H (Kd.slice 85 k85) 82 W w.heap.size (fun k => w.heap.size + 2 ≤ k ∧ k < w1.heap.size) (.slice (some ⟨g, 0, none⟩) cl.length cv0) (done ++ row :: rest1) done.length oki [.slice Au row.length cu]) ∧
        Aside0 (Below w.heap.size w W) ∧ Aside0 (W.heap[w.heap.size + 1]? = some (Obj.cells #[Value.slice none 0 0] 35)) ∧ Aside0 (W.heap[w1.heap.size]? = some (Obj.cells #[Value.slice (some ⟨g, 0, none⟩) cl.length cv0] 35)))
      case atStart => exact ⟨[], row, row', rfl, rfl, ⟨by simp⟩, M1, ⟨rfl⟩, HRu, HHr, HBr, BRr, BPr⟩
      case round =>
        obtain ⟨dn, rs, rs', rfl, hjq, HLi, HMi, HRi, HRw, HHw, HBw, BRw, BPw⟩ := hrel
        clear HRu HHr HBr BRr BPr M1 HSr
        cases rs with
        | nil =>
          have hrs' : rs' = [] := by have := HMi.out; simp only [mapO, Option.some.injEq] at this; exact this.symm
          subst hrs'
          have hge : ¬ (dn.length : Int) < (row.length : Int) := by have := HLi.out; simp only [List.length_nil] at this; omega
          have HSn := am_ (show Kd.S (Kd.slice 85 k85) 82 wr w.heap.size (fun k => w.heap.size + 2 ≤ k ∧ k < w1.heap.size) (.slice (some ⟨g, 0, none⟩) cl.length cv0) (done ++ [row'] ++ rest1) from by
            have h := Kd.H_back HHw.out (Kd.M_row HRw.out) (fun k hk => hk)
            rw [show (done ++ row :: rest1).set (done.length : Int).toNat (dn ++ []) = done ++ [row'] ++ rest1 from by rw [Int.toNat_natCast, List.set_append_right _ _ (Nat.le_refl _), HRi.out]; simp] at h
            exact h)
          clear HRw HHw
          go_wp2_with fail
          go_roundg rest1.length
          case measure => simp only [List.length_cons] at hkq; omega
          case rel => exact ⟨done ++ [row'], rest1, rest1', by simp, rfl, ⟨by have := HL.out; simp only [List.length_cons] at this; simp only [List.length_append, List.length_singleton]; omega⟩, M2, ⟨by rw [HR.out]; simp⟩, HSn, HBw, BRw, BPw⟩
        | cons d rs1 =>
          have HMM := HMi.out
          clear HMi
          simp only [mapO] at HMM
          obtain ⟨d', hm1, HMM⟩ := Option.bind_eq_some_iff.mp HMM
          obtain ⟨rs1', hm3, HMM⟩ := Option.bind_eq_some_iff.mp HMM
          simp only [Option.some.injEq] at HMM
          subst HMM
          have N1 := am_ hm1
          have N2 := am_ hm3
          clear hm1 hm3
          have hlti : (dn.length : Int) < (row.length : Int) := by have := HLi.out; simp only [List.length_cons] at this; omega
          obtain ⟨gi, capi, eAi, hgi0, hgil, cellsi, hcellsi⟩ := Kd.R_form HRw.out z82_3
          have hR := HRw.out
          have eLi : (dn ++ d :: rs1).length = row.length := by have := HLi.out; simpa using this
          rw [eLi] at eAi
          rw [eAi] at hR
          obtain ⟨ce, hce, hMe, hcce, hfre⟩ := Kd.R_elem hR z85 (dn.length : Int) (by omega) (by omega)
          rw [show (dn ++ d :: rs1).getD (dn.length : Int).toNat z85 = d by simp] at hMe
          obtain rfl := k85_openM hMe
          have hx0 := hcce 0 _ rfl
          have hx1 := hcce 1 _ rfl
          have hx2 := hcce 2 _ rfl
          rw [show (dn.length : Int).toNat * (k85).sz + 0 = dn.length * 3 from by show (dn.length : Int).toNat * 3 + 0 = _; omega] at hx0
          rw [show (dn.length : Int).toNat * (k85).sz + 1 = dn.length * 3 + 1 from by show (dn.length : Int).toNat * 3 + 1 = _; omega] at hx1
          rw [show (dn.length : Int).toNat * (k85).sz + 2 = dn.length * 3 + 2 from by show (dn.length : Int).toNat * 3 + 2 = _; omega] at hx2
          have HRo := am_ hR
          clear hMe hR hcce hfre
          go_wp2_with (go_at_call 102; refine park ?_)
          clear hx0 hx1 hx2
          refine ⟨?_⟩
          refine (HF.out _ d d' (below_alloc HBw.out _) N1.out).mono ?_
          rintro e w2 ⟨rfl, hb⟩
          have HB3 := am_ (below_then (below_alloc HBw.out (Obj.cells #[Value.int IntKind.i64 d.f0, Value.int IntKind.i64 d.f1, Value.int IntKind.i64 d.f2] 85)) (below_alloc HBw.out (Obj.cells #[Value.int IntKind.i64 d.f0, Value.int IntKind.i64 d.f1, Value.int IntKind.i64 d.f2] 85)).size hb)
          have hR3 := Kd.R_below (Kd.R_alloc HRo.out (Obj.cells #[Value.int IntKind.i64 d.f0, Value.int IntKind.i64 d.f1, Value.int IntKind.i64 d.f2] 85)) hb
          have HH3 := am_ (Kd.H_below (Kd.H_alloc HHw.out (Obj.cells #[Value.int IntKind.i64 d.f0, Value.int IntKind.i64 d.f1, Value.int IntKind.i64 d.f2] 85)) hb)
          have BR3 := am_ (blk_below (blk_alloc BRw.out (Obj.cells #[Value.int IntKind.i64 d.f0, Value.int IntKind.i64 d.f1, Value.int IntKind.i64 d.f2] 85)) hb)
          have BP3 := am_ (blk_below (blk_alloc BPw.out (Obj.cells #[Value.int IntKind.i64 d.f0, Value.int IntKind.i64 d.f1, Value.int IntKind.i64 d.f2] 85)) hb)
          have HRn := am_ (HRw.out.1 gi rfl)
          clear HBw HHw BRw BPw HRo HRw hb
          obtain ⟨ce, hce, hMe, hcce, hfre⟩ := Kd.R_elem hR3 z85 (dn.length : Int) (by omega) (by omega)
          rw [show (dn ++ d :: rs1).getD (dn.length : Int).toNat z85 = d by simp] at hMe
          obtain rfl := k85_openM hMe
          have HP := am_ (Kd.R_seg hR3 (dn.length : Int) (by omega) (by omega) (seg := [.int .i64 d'.f0, .int .i64 d'.f1, .int .i64 d'.f2]) (j := 0) hce hcce (show 3 ≤ 3 from by decide) (x' := d') (k85_mkM _ _ _ d') (fun _ hk => hk))
          have hx0 := hcce 0 _ rfl
          have hx1 := hcce 1 _ rfl
          have hx2 := hcce 2 _ rfl
          have hf0 := hfre 0
          have hf1 := hfre 1
          have hf2 := hfre 2
          have e0 : (dn.length : Int).toNat * (k85).sz + 0 = dn.length * 3 := by show (dn.length : Int).toNat * 3 + 0 = _; omega
          have e1 : (dn.length : Int).toNat * (k85).sz + 1 = dn.length * 3 + 1 := by show (dn.length : Int).toNat * 3 + 1 = _; omega
          have e2 : (dn.length : Int).toNat * (k85).sz + 2 = dn.length * 3 + 2 := by show (dn.length : Int).toNat * 3 + 2 = _; omega
          rw [e0] at hx0 hf0
          rw [e1] at hx1 hf1
          rw [e2] at hx2 hf2
          clear e0 e1 e2 hMe hcce hfre hR3
          have HP' := am_ (show Kd.R k85 85 (((w2.setCell ⟨gi, dn.length * 3, none⟩ (.int .i64 d'.f0)).setCell ⟨gi, dn.length * 3 + 1, none⟩ (.int .i64 d'.f1)).setCell ⟨gi, dn.length * 3 + 2, none⟩ (.int .i64 d'.f2)) w.heap.size oki (.slice (some ⟨gi, 0, none⟩) row.length cu) (dn ++ [d'] ++ rs1) ∧ w2.grownBy (((w2.setCell ⟨gi, dn.length * 3, none⟩ (.int .i64 d'.f0)).setCell ⟨gi, dn.length * 3 + 1, none⟩ (.int .i64 d'.f1)).setCell ⟨gi, dn.length * 3 + 2, none⟩ (.int .i64 d'.f2)) (some gi) from by
            have h := HP.out
            rw [show (dn.length : Int).toNat * (k85).sz + 0 = dn.length * 3 from by show (dn.length : Int).toNat * 3 + 0 = _; omega, show (dn ++ d :: rs1).set (dn.length : Int).toNat d' = dn ++ [d'] ++ rs1 from by rw [Int.toNat_natCast, List.set_append_right _ _ (Nat.le_refl _)]; simp] at h
            exact h)
          clear HP
          go_wp2_with fail
          clear hx0 hx1 hx2 hf0 hf1 hf2
          go_roundg rs1.length
          case measure => simp only [List.length_cons] at hjq; omega
          case rel =>
            have hOKn := (HOK.out _ HRn.out).1
            exact ⟨dn ++ [d'], rs1, rs1', by simp, rfl, ⟨by have := HLi.out; simp only [List.length_cons] at this; simp only [List.length_append, List.length_singleton]; omega⟩, N2, ⟨by rw [HRi.out]; simp⟩, ⟨HP'.out.1⟩, ⟨Kd.H_grown HH3.out HP'.out.2 (fun k hk => z82_2)⟩,
              ⟨HB3.out.grown HP'.out.2 HB3.out.size (fun k hk => by injection hk with hk; omega)⟩, ⟨blk_grown BR3.out HP'.out.2 (fun e => z82_1)⟩, ⟨blk_grown BP3.out HP'.out.2 (fun e => z82_1)⟩⟩


end Go.Proofs.Ytefkbmhkhpekjaa.PB
