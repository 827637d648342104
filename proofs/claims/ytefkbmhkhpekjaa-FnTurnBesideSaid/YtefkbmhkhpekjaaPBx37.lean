-- Written by this session's wip/myprint.py (the kit's print.py, with hand-written chunks). Lean checks it.
import Derived.Test.YtefkbmhkhpekjaaPBx0
import Derived.Test.YtefkbmhkhpekjaaPBx70
import Derived.Test.YtefkbmhkhpekjaaPBx71
import Derived.Test.YtefkbmhkhpekjaaPBx82
import Derived.Test.YtefkbmhkhpekjaaPBx86
import Derived.Test.YtefkbmhkhpekjaaPBx87
import Derived.Test.YtefkbmhkhpekjaaPBx88
namespace Go.Proofs.Ytefkbmhkhpekjaa.PB
open Go.RowKit Go.Proofs.YtefkbmhkhpekjaaW.PrintWords Go.Proofs.YtefkbmhkhpekjaaW.PrintLast Go.Proofs.YtefkbmhkhpekjaaW.PrintMore
attribute [local go_sem] max2_int min2_int max_two min_two max_three min_three max_four min_four   -- for this text's walks alone
open Go.Proofs.YtefkbmhkhpekjaaMine
set_option linter.unusedVariables false
set_option linter.unusedSimpArgs false

/-! ### spec_DrawTurnBeside: function 37 -/
def spec_DrawTurnBeside.T4 : Bool × List (List Nat × List Nat) := (true, [([], []), ([0], [0]), ([], []), ([2], [2]), ([3], [3]), ([1, 4, 3], [1, 4]), ([0, 1, 2, 3, 4, 5], []), ([6, 5, 5, 0, 1, 2, 3, 4, 5], [5, 6])])
def spec_DrawTurnBeside.B4 : List Nat := [0, 1, 0, 4, 12, 31, 63, 127]
theorem spec_DrawTurnBeside.tab4 : rtab .any (opsOf Try.f37 4) = spec_DrawTurnBeside.T4 := by kernel_rfl
theorem spec_DrawTurnBeside.bits4 : waitsOk spec_DrawTurnBeside.T4.2 spec_DrawTurnBeside.B4 = true := by kernel_rfl
def spec_DrawTurnBeside.T7 : Bool × List (List Nat × List Nat) := (true, [([], []), ([0], [0]), ([], []), ([2], [2]), ([3], [3]), ([1, 4, 3], [1, 4]), ([0, 1, 2, 3, 4, 5], []), ([6, 5, 5, 0, 1, 2, 3, 4, 5], [5, 6])])
def spec_DrawTurnBeside.B7 : List Nat := [0, 1, 0, 4, 12, 31, 63, 127]
theorem spec_DrawTurnBeside.tab7 : rtab .any (opsOf Try.f37 7) = spec_DrawTurnBeside.T7 := by kernel_rfl
theorem spec_DrawTurnBeside.bits7 : waitsOk spec_DrawTurnBeside.T7.2 spec_DrawTurnBeside.B7 = true := by kernel_rfl
def spec_DrawTurnBeside.T16 : Bool × List (List Nat × List Nat) := (true, [([], []), ([0], [0]), ([], []), ([1, 2], [1, 2]), ([3], [3]), ([], []), ([], []), ([6], [6]), ([], []), ([7, 8], [7, 8]), ([9], [9]), ([], []), ([10, 11], [10, 11]), ([12], [12]), ([13], [13]), ([14], [14]), ([4, 5, 0, 1, 2, 3, 4, 5, 6, 7, 8, 9, 10, 11, 12, 13, 14, 15], [4, 5]), ([16, 0, 1, 2, 3, 4, 5, 6, 7, 8, 9, 10, 11, 12, 13, 14, 15], [16]), ([17, 15, 0, 1, 2, 3, 4, 5, 6, 7, 8, 9, 10, 11, 12, 13, 14, 15], [15, 17])])
def spec_DrawTurnBeside.B16 : List Nat := [0, 1, 0, 7, 15, 0, 0, 64, 0, 448, 960, 0, 4032, 8128, 16320, 32704, 65535, 131071, 262143]
theorem spec_DrawTurnBeside.tab16 : rtab .any (opsOf Try.f37 16) = spec_DrawTurnBeside.T16 := by kernel_rfl
theorem spec_DrawTurnBeside.bits16 : waitsOk spec_DrawTurnBeside.T16.2 spec_DrawTurnBeside.B16 = true := by kernel_rfl
def spec_DrawTurnBeside.T17 : Bool × List (List Nat × List Nat) := (true, [([], []), ([], []), ([0, 0], [0]), ([1, 2, 0, 1, 2], [1])])
def spec_DrawTurnBeside.B17 : List Nat := [0, 0, 1, 7]
theorem spec_DrawTurnBeside.tab17 : rtab .any (opsOf Try.f37 17) = spec_DrawTurnBeside.T17 := by kernel_rfl
theorem spec_DrawTurnBeside.bits17 : waitsOk spec_DrawTurnBeside.T17.2 spec_DrawTurnBeside.B17 = true := by kernel_rfl
/-- One step at the next place. -/
def spec_DrawTurnBeside.sh (d : S85) : Option S85 := (spec_l1Reads.f d.f0 d.f1 d.f2).bind fun a => if a = true then some ⟨d.f0, wrap64 (d.f1 + 1), d.f2⟩ else (spec_l1Writes.f d.f0 d.f1 d.f2).bind fun b => if b = true then some ⟨d.f0, wrap64 (d.f1 + 1), d.f2⟩ else some d
/-- One or two threads. -/
def spec_DrawTurnBeside.one (k : Nat) (pl c : Int) (s0 : List Int) (s : Int) : Option (List (List S85) × Int) := (spec_l71Thread.f k s0 s 3 pl).bind fun a => (spec_l6Rd_pick.f k s0 a.2 c).bind fun b => if b.1 = 0 then (spec_l71Thread.f k s0 b.2 2 pl).bind fun d => some ([a.1, d.1], d.2) else some ([a.1], b.2)
def spec_DrawTurnBeside.f (k : Nat) (l0 : List Int) : Option (List (List S85) × List (List S85)) := (spec_l6Open.f l0).bind fun o => (spec_DrawTurnBeside.one k 1 2 o.1 o.2).bind fun p => (spec_DrawTurnBeside.one k 2 3 o.1 p.2).bind fun q => (spec_l6Rd_pick.f k o.1 q.2 6).bind fun c => if c.1 > 0 then (mapO (mapO spec_DrawTurnBeside.sh) q.1).bind fun r => some (p.1, r) else some (p.1, q.1)
theorem spec_DrawTurnBeside.one_mono (k : Nat) (pl c : Int) (s0 : List Int) (s : Int) : LeO (spec_DrawTurnBeside.one k pl c s0 s) (spec_DrawTurnBeside.one (k + 1) pl c s0 s) := by
  unfold spec_DrawTurnBeside.one
  exact LeO.bind (spec_l71Thread.mono _ _ _ _ _) (fun _ => LeO.bind (spec_l6Rd_pick.mono _ _ _ _) (fun _ => LeO.ite (LeO.bind (spec_l71Thread.mono _ _ _ _ _) (fun _ => LeO.refl _)) (LeO.refl _)))
theorem spec_DrawTurnBeside.mono : ∀ a0 k, LeO (spec_DrawTurnBeside.f k a0) (spec_DrawTurnBeside.f (k + 1) a0) := by
  intro a0 k
  unfold spec_DrawTurnBeside.f
  exact LeO.bind (LeO.refl _) (fun _ => LeO.bind (spec_DrawTurnBeside.one_mono _ _ _ _ _) (fun _ => LeO.bind (spec_DrawTurnBeside.one_mono _ _ _ _ _) (fun _ => LeO.bind (spec_l6Rd_pick.mono _ _ _ _) (fun _ => LeO.refl _))))
set_option maxRecDepth 100000 in
set_option maxHeartbeats 8000000 in
theorem spec_DrawTurnBeside.calls (k : Nat) (A0 : Option Addr) (c0 : Nat) (l0 : List Int) (p r : List (List S85)) (w : World) (hr0 : Kd.C (Kd.int .u8) w A0 l0.length l0) (hc0 : l0.length ≤ c0) (h : spec_DrawTurnBeside.f k l0 = some (p, r)) :
    Calls Try.prog 37 #[.slice A0 l0.length c0] w fun e w' => ∃ v0_ v1_ : Value, e = .returned (.tuple #[.agg #[v0_], .agg #[v1_]]) ∧ Kd.S (Kd.slice 85 k85) 82 w' w.heap.size (fun k_ => some k_ ≠ (v1_ : Value).ownBlock) v0_ p ∧ Kd.S (Kd.slice 85 k85) 82 w' w.heap.size (fun k_ => some k_ ≠ (v0_ : Value).ownBlock) v1_ r ∧ Below w.heap.size w w' := by
  have HR0 := am_ hr0
  have HC0 := am_ hc0
  obtain ⟨⟨s0, s⟩, e0, h⟩ := Option.bind_eq_some_iff.mp h
  obtain ⟨⟨p', s1⟩, e1, h⟩ := Option.bind_eq_some_iff.mp h
  obtain ⟨⟨q, s2⟩, e2, h⟩ := Option.bind_eq_some_iff.mp h
  obtain ⟨⟨c, s3⟩, e3, h⟩ := Option.bind_eq_some_iff.mp h
  have hp : p' = p := by
    by_cases hc : c > 0
    · rw [if_pos hc] at h
      obtain ⟨r', _, h⟩ := Option.bind_eq_some_iff.mp h
      simp only [Option.some.injEq, Prod.mk.injEq] at h
      exact h.1
    · rw [if_neg hc] at h
      simp only [Option.some.injEq, Prod.mk.injEq] at h
      exact h.1
  subst hp
  have E0 := am_ e0
  have E1 := am_ e1
  have E2 := am_ e2
  have E3 := am_ e3
  have H := am_ h
  clear hr0 hc0 e0 e1 e2 e3 h
  go_enter Try.func37, Try.ntmps37
  go_wp2_with (go_at_call 70; refine park ?_)
  refine ⟨?_⟩
  have hb0 := blk_alloc (heap_alloc_new w (Obj.cells #[Value.slice none 0 0] 35)) (Obj.cells #[Value.slice none 0 0] 35)
  have hb1 := heap_alloc_new (w.alloc (Obj.cells #[Value.slice none 0 0] 35)) (Obj.cells #[Value.slice none 0 0] 35)
  rw [World.size_alloc] at hb1
  have HU := am_ (below_alloc (below_alloc (Below.refl w.heap.size w) (Obj.cells #[Value.slice none 0 0] 35)) (Obj.cells #[Value.slice none 0 0] 35))
  have hsz : ((w.alloc (Obj.cells #[Value.slice none 0 0] 35)).alloc (Obj.cells #[Value.slice none 0 0] 35)).heap.size = w.heap.size + 2 := by rw [World.size_alloc, World.size_alloc]
  have HRu := am_ (Kd.C_below HR0.out HU.out)
  generalize (w.alloc (Obj.cells #[Value.slice none 0 0] 35)).alloc (Obj.cells #[Value.slice none 0 0] 35) = U at *
  refine (spec_l6Open.calls A0 c0 l0 s0 s U U (Below.refl _ _) HRu.out HC0.out E0.out).mono ?_
  rintro e W0 ⟨g, rfl, hi, hb, hb'⟩
  have NG := am_ (show w.heap.size + 2 ≤ g ∧ g < W0.heap.size from ⟨by have := IsS116.ge hi; omega, IsS116.lt hi⟩)
  have HI := am_ hi
  have HB := am_ hb
  have B0 := am_ (blk_below hb0 hb')
  have B1 := am_ (blk_below hb1 hb')
  have NU := am_ hsz
  clear hi hb hb' hb0 hb1 hsz HR0 HRu HC0 E0
  have NLU := am_ (show U.heap.size ≤ W0.heap.size from HB.out.size)
  have LB_1 := am_ (Nat.le_refl W0.heap.size)
  have e := E1.out
  obtain ⟨⟨t1, u1⟩, ea, e⟩ := Option.bind_eq_some_iff.mp e
  obtain ⟨⟨b, u2⟩, eb, e⟩ := Option.bind_eq_some_iff.mp e
  have EA := am_ ea
  have EB := am_ eb
  have EC := am_ e
  clear ea eb e E1
  go_wp2_with (go_at_call 86; refine park ?_)
  refine ⟨?_⟩
  refine (spec_l71Thread.calls k g s0 s 3 1 t1 u1 U _ HI.out HB.out EA.out).mono ?_
  rintro e P1 ⟨v, rfl, hR, hi, hb, hk⟩
  obtain ⟨A1, c1, rfl⟩ := Kd.R_slice hR
  have HIo := HI.out
  have hle := LB_1.out
  have HI_2 := am_ (hi)
  have HB_3 := am_ (hb)
  have B0_4 := am_ (hk.blk B0.out (Ne.symm (IsS116.ne_blk HIo B0.out (by decide))) (by simp))
  have B1_5 := am_ (hk.blk B1.out (Ne.symm (IsS116.ne_blk HIo B1.out (by decide))) (by simp))
  have LB_6 := am_ (Nat.le_trans LB_1.out hk.1)
  clear HI HB B0 B1 LB_1
  have RT_7 := am_ (Kd.R_lower hR hle)
  clear hR hi hb hk HIo EA hle
  go_wp2_with ((with_reducible refine gate_dst (N := 13) rfl ?_); refine park ?_)
  refine ⟨?_⟩
  refine Kd.S_lits (Kd.slice 85 k85) (w0 := P1) W0.heap.size 82 rfl (N := 13) rfl (xs := ([t1] : List (List S85))) (inner := [.slice A1 t1.length c1]) (ok := fun _ => True) (fun j k => j = 0) ?hrun rfl ?hrep ?hap ?hok ?hfresh ?hB ?hbase (by simp) ?_
  case hrun => first | (go_simp; done) | (go_simp; rfl)
  case hrep =>
    intro j x hj
    match j, hj with
    | 0, hj => obtain rfl : t1 = x := by simpa using hj
               exact Kd.M_row (Kd.R_mono RT_7.out (fun k hk => rfl))
    | j + 1, hj => exact absurd hj (by simp)
  case hap => intro i j k h1 h2; omega
  case hok => intro j k hk; trivial
  case hfresh => trivial
  case hB => exact Below.refl _ _
  case hbase => exact LB_6.out
  intro v5 P2 hS hBw hgr hat
  obtain ⟨AP, cP, rfl⟩ := Kd.S_slice hS
  have HI_8 := am_ (IsS116.grown HI_2.out hgr (by simp))
  have HB_9 := am_ (HB_3.out.grown hgr HB_3.out.size (by simp))
  have B0_10 := am_ (blk_grown B0_4.out hgr (by simp))
  have B1_11 := am_ (blk_grown B1_5.out hgr (by simp))
  have LB_12 := am_ (Nat.le_trans LB_6.out hgr.size)
  clear HI_2 HB_3 B0_4 B1_5 LB_6
  have SP_13 := am_ (hS)
  clear hS hBw hgr hat RT_7
  go_wp2_with (go_at_call 71; refine park ?_)
  refine ⟨?_⟩
  have hbx := heap_alloc_new P2 (Obj.cells #[Value.slice AP 1 cP] 35)
  have hl2 := LB_12.out
  have HI_14 := am_ (IsS116.alloc HI_8.out (Obj.cells #[Value.slice AP 1 cP] 35))
  have HB_15 := am_ (below_alloc HB_9.out (Obj.cells #[Value.slice AP 1 cP] 35))
  have B0_16 := am_ (blk_alloc B0_10.out (Obj.cells #[Value.slice AP 1 cP] 35))
  have B1_17 := am_ (blk_alloc B1_11.out (Obj.cells #[Value.slice AP 1 cP] 35))
  have LB_18 := am_ (Nat.le_trans LB_12.out (below_alloc (Below.refl _ _) (Obj.cells #[Value.slice AP 1 cP] 35)).size)
  have SP_19 := am_ (Kd.S_alloc SP_13.out (Obj.cells #[Value.slice AP 1 cP] 35))
  clear HI_8 HB_9 B0_10 B1_11 LB_12 SP_13
  have BP_20 := am_ (hbx)
  have NBP := am_ (show W0.heap.size ≤ P2.heap.size from hl2)
  clear hbx hl2
  generalize P2.heap.size = gp at *
  generalize P2.alloc (Obj.cells #[Value.slice AP 1 cP] 35) = P3 at *
  refine (spec_l6Rd_pick.calls k g s0 u1 2 b u2 U _ HI_14.out HB_15.out EB.out).mono ?_
  rintro e P4 ⟨rfl, hi, hb, hk⟩
  have HIo := HI_14.out
  have HI_21 := am_ (hi)
  have HB_22 := am_ (hb)
  have B0_23 := am_ (hk.blk B0_16.out (Ne.symm (IsS116.ne_blk HIo B0_16.out (by decide))) (by simp))
  have B1_24 := am_ (hk.blk B1_17.out (Ne.symm (IsS116.ne_blk HIo B1_17.out (by decide))) (by simp))
  have LB_25 := am_ (Nat.le_trans LB_18.out hk.1)
  have SP_26 := am_ (Kd.S_mono (Kd.S_keep (IsS116.apartS HIo SP_19.out (by decide)) hk (fun k hk => hk.2)) (fun _ hk => hk.1))
  have BP_27 := am_ (hk.blk BP_20.out (Ne.symm (IsS116.ne_blk HIo BP_20.out (by decide))) (by simp))
  clear HI_14 HB_15 B0_16 B1_17 LB_18 SP_19 BP_20 hi hb hk HIo EB
  go_upto_if 17 with fail
  go_cut [] from 9 to 98 (fun wc => ∃ (A : Option Addr) (cc : Nat), Aside0 (IsS116 U wc g s0 s1) ∧ Aside0 (Below U.heap.size U wc) ∧ Aside0 (wc.heap[w.heap.size]? = some (Obj.cells #[Value.slice none 0 0] 35)) ∧ Aside0 (wc.heap[w.heap.size + 1]? = some (Obj.cells #[Value.slice none 0 0] 35)) ∧ Aside0 (wc.heap[gp]? = some (Obj.cells #[.slice A p'.length cc] 35)) ∧ Aside0 (Kd.S (Kd.slice 85 k85) 82 wc W0.heap.size (fun _ => True) (.slice A p'.length cc) p') ∧ Aside0 (W0.heap.size ≤ wc.heap.size))
  case first =>
    by_cases hb0 : b = 0
    · subst hb0
      have e := EC.out
      rw [if_pos rfl] at e
      obtain ⟨⟨t2, u3⟩, ed, e⟩ := Option.bind_eq_some_iff.mp e
      simp only [Option.some.injEq, Prod.mk.injEq] at e
      obtain ⟨rfl, rfl⟩ := e
      have ED := am_ ed
      clear ed EC
      go_wp2_with fail
      have HI_28 := am_ (IsS116.drew HI_21.out)
      have HB_29 := am_ (below_drew HB_22.out)
      have B0_30 := am_ (blk_drew B0_23.out)
      have B1_31 := am_ (blk_drew B1_24.out)
      have LB_32 := am_ ((show W0.heap.size ≤ P4.drew.heap.size from LB_25.out))
      have SP_33 := am_ (Kd.S_drew SP_26.out)
      have BP_34 := am_ (blk_drew BP_27.out)
      clear HI_21 HB_22 B0_23 B1_24 LB_25 SP_26 BP_27
      refine start_ (n := 8) (S := fun w' => w'.cell? ⟨gp, 0, none⟩ = some (.slice AP 1 cP)) (ds := [7]) #[false, false, false, false, false, false, false, false] (by kernel_rfl) rfl rfl ((blk_cell BP_34.out 0).trans rfl) (fun hHeld => ?_)
      refine with_tabW spec_DrawTurnBeside.tab4 spec_DrawTurnBeside.bits4 (fun HT_ HW_ => ?_)
      generalize P4.drew = P5 at *
      refine pure_ (i := 0) (N := some 18) (v := ?_) (a' := ?_) #[true, false, false, false, false, false, false, false] rfl rfl (any_of HT_.out (by kernel_rfl)) (fun _ _ _ h => h) (Or.inl ⟨by rfl, ?_⟩) ?_ ?_
      rotate_left
      · intro w'
        go_simp
        with_reducible rfl
      rotate_left
      · simp only [Act.put, List.setIfInBounds_toArray, List.set_cons_zero, List.set_cons_succ, i64_w, i32_w]
        rfl
      refine pure_ (i := 2) (N := some 20) (v := ?_) (a' := ?_) #[true, false, true, false, false, false, false, false] rfl rfl (any_of HT_.out (by kernel_rfl)) (fun _ _ _ h => h) (Or.inl ⟨by rfl, ?_⟩) ?_ ?_
      rotate_left
      · intro w'
        go_simp
        with_reducible rfl
      rotate_left
      · simp only [Act.put, List.setIfInBounds_toArray, List.set_cons_zero, List.set_cons_succ, i64_w, i32_w]
        rfl
      refine take_ (i := 1) (N := some 19) (v := ?_) (a' := ?_) #[true, true, true, false, false, false, false, false] rfl rfl (take_ofW HT_.out HW_.out (by kernel_rfl)) (fun _ _ _ h => h) (Or.inl ⟨by rfl, ?_⟩) hHeld ?_ ?_
      rotate_left
      · intro w' s0
        have s1 := s0
        go_simp
        with_reducible rfl
      rotate_left
      · simp only [Act.put, List.setIfInBounds_toArray, List.set_cons_zero, List.set_cons_succ, i64_w, i32_w]
        rfl
      refine one_ (i := 3) (N := some 21) #[true, true, true, true, false, false, false, false] rfl rfl (one_of HT_.out (by kernel_rfl)) (by decide) (fun K hK => ?_)
      refine goes_ Try.func86 (by kernel_rfl) rfl #[.pointer (some ⟨g, 0, none⟩), .int .i64 2, .int .i64 1] (by rfl) rfl rfl (by (try simp only [List.map_toArray, List.map_cons, List.map_nil]); first | done | rfl) ?_
      with_reducible refine (spec_l71Thread.calls k g s0 u2 2 1 t2 u3 U _ HI_28.out HB_29.out ED.out).mono ?_
      rintro e P6 ⟨v, rfl, hR, hi, hb, hk⟩
      refine ⟨_, rfl, ?_⟩
      obtain ⟨A2, c2, rfl⟩ := Kd.R_slice hR
      have HIo := HI_28.out
      have hle := LB_32.out
      have hSX := Kd.S_mono (ok' := fun k => k < P5.heap.size) (Kd.S_bound SP_33.out) (fun k hk => hk.2.2.1)
      clear SP_33
      have HI_35 := am_ (hi)
      have HB_36 := am_ (hb)
      have B0_37 := am_ (hk.blk B0_30.out (Ne.symm (IsS116.ne_blk HIo B0_30.out (by decide))) (by simp))
      have B1_38 := am_ (hk.blk B1_31.out (Ne.symm (IsS116.ne_blk HIo B1_31.out (by decide))) (by simp))
      have LB_39 := am_ (Nat.le_trans LB_32.out hk.1)
      have BP_40 := am_ (hk.blk BP_34.out (Ne.symm (IsS116.ne_blk HIo BP_34.out (by decide))) (by simp))
      clear HI_28 HB_29 B0_30 B1_31 LB_32 BP_34
      have SP_41 := am_ (Kd.S_mono (Kd.S_keep (IsS116.apartS HIo hSX (by decide)) hk (fun k hk => hk.2)) (fun _ hk => hk.1))
      have RT_42 := am_ (Kd.R_lower (Kd.R_mono (ok' := fun k => P5.heap.size ≤ k) (Kd.R_bound hR) (fun k hk => hk.2.1)) hle)
      clear hSX hR hi hb hk HIo hle ED
      refine hK.out _ _ ((blk_cell BP_40.out 0).trans rfl) (fun hHeld => ?_)
      clear hK K
      refine norm_ (a' := ?_) ?_ ?_
      rotate_left
      · show Act.put _ (some 21) _ = _
        simp only [Act.put, List.setIfInBounds_toArray, List.set_cons_zero, List.set_cons_succ, i64_w, i32_w]
        rfl
      refine one_ (i := 4) (N := some 22) #[true, true, true, true, true, false, false, false] rfl rfl (one_of HT_.out (by kernel_rfl)) (by decide) (fun K hK => ?_)
      refine value_ (w1 := ?_) (v := ?_) (by rfl) rfl ?_ ?_
      rotate_left 2
      · go_simp
        constructor
        · rfl
        · rfl
      refine hK.out _ _ ((blk_cell (blk_alloc BP_40.out _) 0).trans rfl) (fun hHeld => ?_)
      clear hK K
      refine norm_ (a' := ?_) ?_ ?_
      rotate_left
      · show Act.put _ (some 22) _ = _
        simp only [Act.put, List.setIfInBounds_toArray, List.set_cons_zero, List.set_cons_succ, i64_w, i32_w]
        rfl
      refine one_ (i := 5) (N := some 23) #[true, true, true, true, true, true, false, false] rfl rfl (one_of HT_.out (by kernel_rfl)) (by decide) (fun K hK => ?_)
      have hro : ∀ k, (Value.slice AP 1 cP).ownBlock = some k → W0.heap.size ≤ k ∧ k < P5.heap.size := fun k hk => ⟨Kd.S_base SP_41.out k hk, SP_41.out.choose_spec.1 k hk⟩
      refine Kd.S_append_step (Kd.slice 85 k85) (w0 := P6) W0.heap.size (by rfl) (.tmp 19) (.tmp 22) 33 82 (.slice none 0 0) 24 rfl Try.underlying33 info82 rfl (by decide) (by omega) (.slice AP 1 cP) [t1] t2 [.slice A2 t2.length c2] (fun _ => True) (fun k_ => P5.heap.size ≤ k_) rfl rfl ?aP ?aK ?aF ?aO ?aB ?aS ?aL ?_
      (case aP => exact Kd.M_row RT_42.out)
      (case aK => exact (fun k_ hk_ => ⟨trivial, fun e_ => by have := (hro k_ e_.symm).2; omega⟩))
      (case aB => exact Below.refl _ _)
      (case aF => exact (fun _ _ => trivial))
      (case aO => exact Kd.S_mono SP_41.out (fun k_ hk => ⟨trivial, fun h_ => by omega⟩))
      (case aS => exact LB_39.out)
      (case aL => simp)
      intro v9 P9 ho hb hg hat
      obtain ⟨A9, c9, e9⟩ := Kd.S_slice ho
      have e9' : v9 = .slice A9 2 c9 := e9
      subst e9'
      clear e9
      have hog : some g ≠ (Value.slice AP 1 cP).ownBlock := fun e => IsS116.own_neS HI_35.out SP_41.out (by decide) e
      have HI_43 := am_ (IsS116.grown HI_35.out hg hog)
      have HB_44 := am_ (HB_36.out.grown hg HB_36.out.size (fun k hk => by have := (hro k hk).1; have := NLU.out; have := NLU.out; omega))
      have B0_45 := am_ (blk_grown B0_37.out hg (Kd.S_ne SP_41.out B0_37.out (by decide)))
      have B1_46 := am_ (blk_grown B1_38.out hg (Kd.S_ne SP_41.out B1_38.out (by decide)))
      have LB_47 := am_ (Nat.le_trans LB_39.out hg.size)
      have BP_48 := am_ (blk_grown BP_40.out hg (Kd.S_ne SP_41.out BP_40.out (by decide)))
      clear HI_35 HB_36 B0_37 B1_38 LB_39 BP_40
      have SP_49 := am_ (ho)
      clear ho hb hg hat hro hog RT_42 SP_41
      refine hK.out _ _ ((blk_cell BP_48.out 0).trans rfl) (fun hHeld => ?_)
      clear hK K
      refine norm_ (a' := ?_) ?_ ?_
      rotate_left
      · show Act.put _ (some 23) _ = _
        simp only [Act.put, List.setIfInBounds_toArray, List.set_cons_zero, List.set_cons_succ, i64_w, i32_w]
        rfl
      refine pure_ (i := 6) (N := some 24) (v := ?_) (a' := ?_) #[true, true, true, true, true, true, true, false] rfl rfl (any_of HT_.out (by kernel_rfl)) (fun _ _ _ h => h) (Or.inl ⟨by rfl, ?_⟩) ?_ ?_
      rotate_left
      · intro w'
        go_simp
        with_reducible rfl
      rotate_left
      · simp only [Act.put, List.setIfInBounds_toArray, List.set_cons_zero, List.set_cons_succ, i64_w, i32_w]
        rfl
      refine last_ (i := 7) (N := none) #[true, true, true, true, true, true, true, true] rfl rfl (one_of HT_.out (by kernel_rfl)) (by decide) (fun K hK => ?_)
      have hs18 : P9.cell? ⟨gp, 0, none⟩ = some (.slice AP 1 cP) := (blk_cell BP_48.out 0).trans rfl
      have hfs18 := blk_frozen BP_48.out 0
      refine skip_ (w1 := ?_) (by rfl) rfl ?_ ?_
      rotate_left
      · go_simp
        rfl
      refine hK.out _ _ ?_
      clear hK K
      refine done_ (done_of HT_.out (by kernel_rfl)) ?_
      clear hs18 hfs18 HT_ HW_ hHeld
      try go_wp2
      have hbl := BP_48.out
      have HI_50 := am_ (IsS116.far (p := ⟨gp, 0, none⟩) HI_43.out (IsS116.ne_blk HI_43.out hbl (by decide)) (.slice A9 2 c9))
      have HB_51 := am_ (below_set (g := gp) (j := 0) (v := .slice A9 2 c9) HB_44.out (by have := NU.out; have := NLU.out; have := NLU.out; have := NBP.out; omega))
      have B0_52 := am_ (blk_far B0_45.out (p := ⟨gp, 0, none⟩) (by have := NU.out; have := NLU.out; have := NLU.out; have := NBP.out; show w.heap.size ≠ gp; omega) (.slice A9 2 c9))
      have B1_53 := am_ (blk_far B1_46.out (p := ⟨gp, 0, none⟩) (by have := NU.out; have := NLU.out; have := NLU.out; have := NBP.out; show w.heap.size + 1 ≠ gp; omega) (.slice A9 2 c9))
      have LB_54 := am_ ((show W0.heap.size ≤ (P9.setCell ⟨gp, 0, none⟩ (.slice A9 2 c9)).heap.size from by rw [World.size_setCell]; exact LB_47.out))
      have BP_55 := am_ (blk_set BP_48.out 0 (.slice A9 2 c9))
      have SP_56 := am_ (Kd.S_set SP_49.out hbl (by decide) 0 (.slice A9 2 c9))
      clear HI_43 HB_44 B0_45 B1_46 LB_47 BP_48 SP_49 hbl
      go_meet
      case rel => exact ⟨A9, c9, HI_50, HB_51, B0_52, B1_53, BP_55, SP_56, LB_54⟩
    · have hb0f : (b == 0) = false := by simpa using hb0
      have e := EC.out
      rw [if_neg hb0] at e
      simp only [Option.some.injEq, Prod.mk.injEq] at e
      obtain ⟨rfl, rfl⟩ := e
      clear EC
      go_wp2_with fail
      go_meet
      case rel => exact ⟨AP, cP, HI_21, HB_22, B0_23, B1_24, BP_27, SP_26, LB_25⟩
  case rest =>
    clear EC HI_21 HB_22 B0_23 B1_24 LB_25 SP_26 BP_27
    obtain ⟨AP, cP, HI_cP, HB_cP, B0_cP, B1_cP, BP_cP, SP_cP, LB_cP⟩ := hcut
    generalize wc = W5 at *
    have LB_28 := am_ (Nat.le_refl W5.heap.size)
    have NLW := am_ (show U.heap.size ≤ W5.heap.size from HB_cP.out.size)
    have NGP := am_ (show gp < W5.heap.size from blk_lt BP_cP.out)
    have SP_29 := am_ (Kd.S_mono (ok' := fun k => k < W5.heap.size) (Kd.S_bound SP_cP.out) (fun k hk => hk.2.2.1))
    clear SP_cP
    have e := E2.out
    obtain ⟨⟨t1, u1⟩, ea, e⟩ := Option.bind_eq_some_iff.mp e
    obtain ⟨⟨b, u2⟩, eb, e⟩ := Option.bind_eq_some_iff.mp e
    have EA := am_ ea
    have EB := am_ eb
    have EC := am_ e
    clear ea eb e E2
    go_wp2_with (go_at_call 86; refine park ?_)
    refine ⟨?_⟩
    refine (spec_l71Thread.calls k g s0 s1 3 2 t1 u1 U _ HI_cP.out HB_cP.out EA.out).mono ?_
    rintro e Q1 ⟨v, rfl, hR, hi, hb, hk⟩
    obtain ⟨A1, c1, rfl⟩ := Kd.R_slice hR
    have HIo := HI_cP.out
    have hle := LB_28.out
    have HI_30 := am_ (hi)
    have HB_31 := am_ (hb)
    have B0_32 := am_ (hk.blk B0_cP.out (Ne.symm (IsS116.ne_blk HIo B0_cP.out (by decide))) (by simp))
    have B1_33 := am_ (hk.blk B1_cP.out (Ne.symm (IsS116.ne_blk HIo B1_cP.out (by decide))) (by simp))
    have BP_34 := am_ (hk.blk BP_cP.out (Ne.symm (IsS116.ne_blk HIo BP_cP.out (by decide))) (by simp))
    have SP_35 := am_ (Kd.S_mono (Kd.S_keep (IsS116.apartS HIo SP_29.out (by decide)) hk (fun k hk => hk.2)) (fun _ hk => hk.1))
    have LB_36 := am_ (Nat.le_trans LB_28.out hk.1)
    clear HI_cP HB_cP B0_cP B1_cP BP_cP SP_29 LB_28
    have RT_37 := am_ (Kd.R_lower hR hle)
    clear hR hi hb hk HIo EA hle
    go_wp2_with ((with_reducible refine gate_dst (N := 27) rfl ?_); refine park ?_)
    refine ⟨?_⟩
    refine Kd.S_lits (Kd.slice 85 k85) (w0 := Q1) W5.heap.size 82 rfl (N := 27) rfl (xs := ([t1] : List (List S85))) (inner := [.slice A1 t1.length c1]) (ok := fun _ => True) (fun j k => j = 0) ?hrun rfl ?hrep ?hap ?hok ?hfresh ?hB ?hbase (by simp) ?_
    case hrun => first | (go_simp; done) | (go_simp; rfl)
    case hrep =>
      intro j x hj
      match j, hj with
      | 0, hj => obtain rfl : t1 = x := by simpa using hj
                 exact Kd.M_row (Kd.R_mono RT_37.out (fun k hk => rfl))
      | j + 1, hj => exact absurd hj (by simp)
    case hap => intro i j k h1 h2; omega
    case hok => intro j k hk; trivial
    case hfresh => trivial
    case hB => exact Below.refl _ _
    case hbase => exact LB_36.out
    intro v5 Q2 hS hBw hgr hat
    obtain ⟨AQ, cQ, rfl⟩ := Kd.S_slice hS
    have HI_38 := am_ (IsS116.grown HI_30.out hgr (by simp))
    have HB_39 := am_ (HB_31.out.grown hgr HB_31.out.size (by simp))
    have B0_40 := am_ (blk_grown B0_32.out hgr (by simp))
    have B1_41 := am_ (blk_grown B1_33.out hgr (by simp))
    have BP_42 := am_ (blk_grown BP_34.out hgr (by simp))
    have SP_43 := am_ (Kd.S_step SP_35.out (fun k _ hk => hgr.block k hk (by simp)))
    have LB_44 := am_ (Nat.le_trans LB_36.out hgr.size)
    clear HI_30 HB_31 B0_32 B1_33 BP_34 SP_35 LB_36
    have SQ_45 := am_ (hS)
    clear hS hBw hgr hat RT_37
    go_wp2_with (go_at_call 71; refine park ?_)
    refine ⟨?_⟩
    have hbx := heap_alloc_new Q2 (Obj.cells #[Value.slice AQ 1 cQ] 35)
    have hl2 := LB_44.out
    have HI_46 := am_ (IsS116.alloc HI_38.out (Obj.cells #[Value.slice AQ 1 cQ] 35))
    have HB_47 := am_ (below_alloc HB_39.out (Obj.cells #[Value.slice AQ 1 cQ] 35))
    have B0_48 := am_ (blk_alloc B0_40.out (Obj.cells #[Value.slice AQ 1 cQ] 35))
    have B1_49 := am_ (blk_alloc B1_41.out (Obj.cells #[Value.slice AQ 1 cQ] 35))
    have BP_50 := am_ (blk_alloc BP_42.out (Obj.cells #[Value.slice AQ 1 cQ] 35))
    have SP_51 := am_ (Kd.S_alloc SP_43.out (Obj.cells #[Value.slice AQ 1 cQ] 35))
    have LB_52 := am_ (Nat.le_trans LB_44.out (below_alloc (Below.refl _ _) (Obj.cells #[Value.slice AQ 1 cQ] 35)).size)
    have SQ_53 := am_ (Kd.S_alloc SQ_45.out (Obj.cells #[Value.slice AQ 1 cQ] 35))
    clear HI_38 HB_39 B0_40 B1_41 BP_42 SP_43 LB_44 SQ_45
    have BQ_54 := am_ (hbx)
    have NBQ := am_ (show W5.heap.size ≤ Q2.heap.size from hl2)
    clear hbx hl2
    generalize Q2.heap.size = gq at *
    generalize Q2.alloc (Obj.cells #[Value.slice AQ 1 cQ] 35) = Q3 at *
    refine (spec_l6Rd_pick.calls k g s0 u1 3 b u2 U _ HI_46.out HB_47.out EB.out).mono ?_
    rintro e Q4 ⟨rfl, hi, hb, hk⟩
    have HIo := HI_46.out
    have HI_55 := am_ (hi)
    have HB_56 := am_ (hb)
    have B0_57 := am_ (hk.blk B0_48.out (Ne.symm (IsS116.ne_blk HIo B0_48.out (by decide))) (by simp))
    have B1_58 := am_ (hk.blk B1_49.out (Ne.symm (IsS116.ne_blk HIo B1_49.out (by decide))) (by simp))
    have BP_59 := am_ (hk.blk BP_50.out (Ne.symm (IsS116.ne_blk HIo BP_50.out (by decide))) (by simp))
    have SP_60 := am_ (Kd.S_mono (Kd.S_keep (IsS116.apartS HIo SP_51.out (by decide)) hk (fun k hk => hk.2)) (fun _ hk => hk.1))
    have LB_61 := am_ (Nat.le_trans LB_52.out hk.1)
    have SQ_62 := am_ (Kd.S_mono (Kd.S_keep (IsS116.apartS HIo SQ_53.out (by decide)) hk (fun k hk => hk.2)) (fun _ hk => hk.1))
    have BQ_63 := am_ (hk.blk BQ_54.out (Ne.symm (IsS116.ne_blk HIo BQ_54.out (by decide))) (by simp))
    clear HI_46 HB_47 B0_48 B1_49 BP_50 SP_51 LB_52 SQ_53 BQ_54 hi hb hk HIo EB
    go_upto_if 31 with fail
    go_cut [] from 9 to 98 (fun wc => ∃ (A : Option Addr) (cc : Nat), Aside0 (IsS116 U wc g s0 s2) ∧ Aside0 (Below U.heap.size U wc) ∧ Aside0 (wc.heap[w.heap.size]? = some (Obj.cells #[Value.slice none 0 0] 35)) ∧ Aside0 (wc.heap[w.heap.size + 1]? = some (Obj.cells #[Value.slice none 0 0] 35)) ∧ Aside0 (wc.heap[gp]? = some (Obj.cells #[.slice AP p'.length cP] 35)) ∧ Aside0 (Kd.S (Kd.slice 85 k85) 82 wc W0.heap.size (fun k => k < W5.heap.size) (.slice AP p'.length cP) p') ∧ Aside0 (wc.heap[gq]? = some (Obj.cells #[.slice A q.length cc] 35)) ∧ Aside0 (Kd.S (Kd.slice 85 k85) 82 wc W5.heap.size (fun _ => True) (.slice A q.length cc) q) ∧ Aside0 (W5.heap.size ≤ wc.heap.size))
    case first =>
      by_cases hb0 : b = 0
      · subst hb0
        have e := EC.out
        rw [if_pos rfl] at e
        obtain ⟨⟨t2, u3⟩, ed, e⟩ := Option.bind_eq_some_iff.mp e
        simp only [Option.some.injEq, Prod.mk.injEq] at e
        obtain ⟨rfl, rfl⟩ := e
        have ED := am_ ed
        clear ed EC
        go_wp2_with fail
        have HI_64 := am_ (IsS116.drew HI_55.out)
        have HB_65 := am_ (below_drew HB_56.out)
        have B0_66 := am_ (blk_drew B0_57.out)
        have B1_67 := am_ (blk_drew B1_58.out)
        have BP_68 := am_ (blk_drew BP_59.out)
        have SP_69 := am_ (Kd.S_drew SP_60.out)
        have LB_70 := am_ ((show W5.heap.size ≤ Q4.drew.heap.size from LB_61.out))
        have SQ_71 := am_ (Kd.S_drew SQ_62.out)
        have BQ_72 := am_ (blk_drew BQ_63.out)
        clear HI_55 HB_56 B0_57 B1_58 BP_59 SP_60 LB_61 SQ_62 BQ_63
        refine start_ (n := 8) (S := fun w' => w'.cell? ⟨gq, 0, none⟩ = some (.slice AQ 1 cQ)) (ds := [7]) #[false, false, false, false, false, false, false, false] (by kernel_rfl) rfl rfl ((blk_cell BQ_72.out 0).trans rfl) (fun hHeld => ?_)
        refine with_tabW spec_DrawTurnBeside.tab7 spec_DrawTurnBeside.bits7 (fun HT_ HW_ => ?_)
        generalize Q4.drew = Q5 at *
        refine pure_ (i := 0) (N := some 32) (v := ?_) (a' := ?_) #[true, false, false, false, false, false, false, false] rfl rfl (any_of HT_.out (by kernel_rfl)) (fun _ _ _ h => h) (Or.inl ⟨by rfl, ?_⟩) ?_ ?_
        rotate_left
        · intro w'
          go_simp
          with_reducible rfl
        rotate_left
        · simp only [Act.put, List.setIfInBounds_toArray, List.set_cons_zero, List.set_cons_succ, i64_w, i32_w]
          rfl
        refine pure_ (i := 2) (N := some 34) (v := ?_) (a' := ?_) #[true, false, true, false, false, false, false, false] rfl rfl (any_of HT_.out (by kernel_rfl)) (fun _ _ _ h => h) (Or.inl ⟨by rfl, ?_⟩) ?_ ?_
        rotate_left
        · intro w'
          go_simp
          with_reducible rfl
        rotate_left
        · simp only [Act.put, List.setIfInBounds_toArray, List.set_cons_zero, List.set_cons_succ, i64_w, i32_w]
          rfl
        refine take_ (i := 1) (N := some 33) (v := ?_) (a' := ?_) #[true, true, true, false, false, false, false, false] rfl rfl (take_ofW HT_.out HW_.out (by kernel_rfl)) (fun _ _ _ h => h) (Or.inl ⟨by rfl, ?_⟩) hHeld ?_ ?_
        rotate_left
        · intro w' s0
          have s1 := s0
          go_simp
          with_reducible rfl
        rotate_left
        · simp only [Act.put, List.setIfInBounds_toArray, List.set_cons_zero, List.set_cons_succ, i64_w, i32_w]
          rfl
        refine one_ (i := 3) (N := some 35) #[true, true, true, true, false, false, false, false] rfl rfl (one_of HT_.out (by kernel_rfl)) (by decide) (fun K hK => ?_)
        refine goes_ Try.func86 (by kernel_rfl) rfl #[.pointer (some ⟨g, 0, none⟩), .int .i64 2, .int .i64 2] (by rfl) rfl rfl (by (try simp only [List.map_toArray, List.map_cons, List.map_nil]); first | done | rfl) ?_
        with_reducible refine (spec_l71Thread.calls k g s0 u2 2 2 t2 u3 U _ HI_64.out HB_65.out ED.out).mono ?_
        rintro e Q6 ⟨v, rfl, hR, hi, hb, hk⟩
        refine ⟨_, rfl, ?_⟩
        obtain ⟨A2, c2, rfl⟩ := Kd.R_slice hR
        have HIo := HI_64.out
        have hle := LB_70.out
        have hSX := Kd.S_mono (ok' := fun k => k < Q5.heap.size) (Kd.S_bound SQ_71.out) (fun k hk => hk.2.2.1)
        clear SQ_71
        have HI_73 := am_ (hi)
        have HB_74 := am_ (hb)
        have B0_75 := am_ (hk.blk B0_66.out (Ne.symm (IsS116.ne_blk HIo B0_66.out (by decide))) (by simp))
        have B1_76 := am_ (hk.blk B1_67.out (Ne.symm (IsS116.ne_blk HIo B1_67.out (by decide))) (by simp))
        have BP_77 := am_ (hk.blk BP_68.out (Ne.symm (IsS116.ne_blk HIo BP_68.out (by decide))) (by simp))
        have SP_78 := am_ (Kd.S_mono (Kd.S_keep (IsS116.apartS HIo SP_69.out (by decide)) hk (fun k hk => hk.2)) (fun _ hk => hk.1))
        have LB_79 := am_ (Nat.le_trans LB_70.out hk.1)
        have BQ_80 := am_ (hk.blk BQ_72.out (Ne.symm (IsS116.ne_blk HIo BQ_72.out (by decide))) (by simp))
        clear HI_64 HB_65 B0_66 B1_67 BP_68 SP_69 LB_70 BQ_72
        have SQ_81 := am_ (Kd.S_mono (Kd.S_keep (IsS116.apartS HIo hSX (by decide)) hk (fun k hk => hk.2)) (fun _ hk => hk.1))
        have RT_82 := am_ (Kd.R_lower (Kd.R_mono (ok' := fun k => Q5.heap.size ≤ k) (Kd.R_bound hR) (fun k hk => hk.2.1)) hle)
        clear hSX hR hi hb hk HIo hle ED
        refine hK.out _ _ ((blk_cell BQ_80.out 0).trans rfl) (fun hHeld => ?_)
        clear hK K
        refine norm_ (a' := ?_) ?_ ?_
        rotate_left
        · show Act.put _ (some 35) _ = _
          simp only [Act.put, List.setIfInBounds_toArray, List.set_cons_zero, List.set_cons_succ, i64_w, i32_w]
          rfl
        refine one_ (i := 4) (N := some 36) #[true, true, true, true, true, false, false, false] rfl rfl (one_of HT_.out (by kernel_rfl)) (by decide) (fun K hK => ?_)
        refine value_ (w1 := ?_) (v := ?_) (by rfl) rfl ?_ ?_
        rotate_left 2
        · go_simp
          constructor
          · rfl
          · rfl
        refine hK.out _ _ ((blk_cell (blk_alloc BQ_80.out _) 0).trans rfl) (fun hHeld => ?_)
        clear hK K
        refine norm_ (a' := ?_) ?_ ?_
        rotate_left
        · show Act.put _ (some 36) _ = _
          simp only [Act.put, List.setIfInBounds_toArray, List.set_cons_zero, List.set_cons_succ, i64_w, i32_w]
          rfl
        refine one_ (i := 5) (N := some 37) #[true, true, true, true, true, true, false, false] rfl rfl (one_of HT_.out (by kernel_rfl)) (by decide) (fun K hK => ?_)
        have hro : ∀ k, (Value.slice AQ 1 cQ).ownBlock = some k → W5.heap.size ≤ k ∧ k < Q5.heap.size := fun k hk => ⟨Kd.S_base SQ_81.out k hk, SQ_81.out.choose_spec.1 k hk⟩
        refine Kd.S_append_step (Kd.slice 85 k85) (w0 := Q6) W5.heap.size (by rfl) (.tmp 33) (.tmp 36) 33 82 (.slice none 0 0) 24 rfl Try.underlying33 info82 rfl (by decide) (by omega) (.slice AQ 1 cQ) [t1] t2 [.slice A2 t2.length c2] (fun _ => True) (fun k_ => Q5.heap.size ≤ k_) rfl rfl ?aP ?aK ?aF ?aO ?aB ?aS ?aL ?_
        (case aP => exact Kd.M_row RT_82.out)
        (case aK => exact (fun k_ hk_ => ⟨trivial, fun e_ => by have := (hro k_ e_.symm).2; omega⟩))
        (case aB => exact Below.refl _ _)
        (case aF => exact (fun _ _ => trivial))
        (case aO => exact Kd.S_mono SQ_81.out (fun k_ hk => ⟨trivial, fun h_ => by omega⟩))
        (case aS => exact LB_79.out)
        (case aL => simp)
        intro v9 Q9 ho hb hg hat
        obtain ⟨A9, c9, e9⟩ := Kd.S_slice ho
        have e9' : v9 = .slice A9 2 c9 := e9
        subst e9'
        clear e9
        have hog : some g ≠ (Value.slice AQ 1 cQ).ownBlock := fun e => IsS116.own_neS HI_73.out SQ_81.out (by decide) e
        have HI_83 := am_ (IsS116.grown HI_73.out hg hog)
        have HB_84 := am_ (HB_74.out.grown hg HB_74.out.size (fun k hk => by have := (hro k hk).1; have := NLU.out; have := NLW.out; omega))
        have B0_85 := am_ (blk_grown B0_75.out hg (Kd.S_ne SQ_81.out B0_75.out (by decide)))
        have B1_86 := am_ (blk_grown B1_76.out hg (Kd.S_ne SQ_81.out B1_76.out (by decide)))
        have BP_87 := am_ (blk_grown BP_77.out hg (Kd.S_ne SQ_81.out BP_77.out (by decide)))
        have SP_88 := am_ (Kd.S_step SP_78.out (fun k ho hk => hg.block k hk (fun e => by have := (hro k e.symm).1; omega)))
        have LB_89 := am_ (Nat.le_trans LB_79.out hg.size)
        have BQ_90 := am_ (blk_grown BQ_80.out hg (Kd.S_ne SQ_81.out BQ_80.out (by decide)))
        clear HI_73 HB_74 B0_75 B1_76 BP_77 SP_78 LB_79 BQ_80
        have SQ_91 := am_ (ho)
        clear ho hb hg hat hro hog RT_82 SQ_81
        refine hK.out _ _ ((blk_cell BQ_90.out 0).trans rfl) (fun hHeld => ?_)
        clear hK K
        refine norm_ (a' := ?_) ?_ ?_
        rotate_left
        · show Act.put _ (some 37) _ = _
          simp only [Act.put, List.setIfInBounds_toArray, List.set_cons_zero, List.set_cons_succ, i64_w, i32_w]
          rfl
        refine pure_ (i := 6) (N := some 38) (v := ?_) (a' := ?_) #[true, true, true, true, true, true, true, false] rfl rfl (any_of HT_.out (by kernel_rfl)) (fun _ _ _ h => h) (Or.inl ⟨by rfl, ?_⟩) ?_ ?_
        rotate_left
        · intro w'
          go_simp
          with_reducible rfl
        rotate_left
        · simp only [Act.put, List.setIfInBounds_toArray, List.set_cons_zero, List.set_cons_succ, i64_w, i32_w]
          rfl
        refine last_ (i := 7) (N := none) #[true, true, true, true, true, true, true, true] rfl rfl (one_of HT_.out (by kernel_rfl)) (by decide) (fun K hK => ?_)
        have hs18 : Q9.cell? ⟨gq, 0, none⟩ = some (.slice AQ 1 cQ) := (blk_cell BQ_90.out 0).trans rfl
        have hfs18 := blk_frozen BQ_90.out 0
        refine skip_ (w1 := ?_) (by rfl) rfl ?_ ?_
        rotate_left
        · go_simp
          rfl
        refine hK.out _ _ ?_
        clear hK K
        refine done_ (done_of HT_.out (by kernel_rfl)) ?_
        clear hs18 hfs18 HT_ HW_ hHeld
        try go_wp2
        have hbl := BQ_90.out
        have HI_92 := am_ (IsS116.far (p := ⟨gq, 0, none⟩) HI_83.out (IsS116.ne_blk HI_83.out hbl (by decide)) (.slice A9 2 c9))
        have HB_93 := am_ (below_set (g := gq) (j := 0) (v := .slice A9 2 c9) HB_84.out (by have := NU.out; have := NLU.out; have := NLW.out; have := NBQ.out; omega))
        have B0_94 := am_ (blk_far B0_85.out (p := ⟨gq, 0, none⟩) (by have := NU.out; have := NLU.out; have := NLW.out; have := NBQ.out; have := NGP.out; show w.heap.size ≠ gq; omega) (.slice A9 2 c9))
        have B1_95 := am_ (blk_far B1_86.out (p := ⟨gq, 0, none⟩) (by have := NU.out; have := NLU.out; have := NLW.out; have := NBQ.out; have := NGP.out; show w.heap.size + 1 ≠ gq; omega) (.slice A9 2 c9))
        have BP_96 := am_ (blk_far BP_87.out (p := ⟨gq, 0, none⟩) (by have := NU.out; have := NLU.out; have := NLW.out; have := NBQ.out; have := NGP.out; show gp ≠ gq; omega) (.slice A9 2 c9))
        have SP_97 := am_ (Kd.S_set SP_88.out hbl (by decide) 0 (.slice A9 2 c9))
        have LB_98 := am_ ((show W5.heap.size ≤ (Q9.setCell ⟨gq, 0, none⟩ (.slice A9 2 c9)).heap.size from by rw [World.size_setCell]; exact LB_89.out))
        have BQ_99 := am_ (blk_set BQ_90.out 0 (.slice A9 2 c9))
        have SQ_100 := am_ (Kd.S_set SQ_91.out hbl (by decide) 0 (.slice A9 2 c9))
        clear HI_83 HB_84 B0_85 B1_86 BP_87 SP_88 LB_89 BQ_90 SQ_91 hbl
        go_meet
        case rel => exact ⟨A9, c9, HI_92, HB_93, B0_94, B1_95, BP_96, SP_97, BQ_99, SQ_100, LB_98⟩
      · have hb0f : (b == 0) = false := by simpa using hb0
        have e := EC.out
        rw [if_neg hb0] at e
        simp only [Option.some.injEq, Prod.mk.injEq] at e
        obtain ⟨rfl, rfl⟩ := e
        clear EC
        go_wp2_with fail
        go_meet
        case rel => exact ⟨AQ, cQ, HI_55, HB_56, B0_57, B1_58, BP_59, SP_60, BQ_63, SQ_62, LB_61⟩
    case rest =>
      clear EC HI_55 HB_56 B0_57 B1_58 BP_59 SP_60 LB_61 SQ_62 BQ_63
      obtain ⟨AQ, cQ, HI_cQ, HB_cQ, B0_cQ, B1_cQ, BP_cQ, SP_cQ, BQ_cQ, SQ_cQ, LB_cQ⟩ := hcut
      generalize wc = W6 at *
      go_wp2_with (go_at_call 71; refine park ?_)
      refine ⟨?_⟩
      refine (spec_l6Rd_pick.calls k g s0 s2 6 c s3 U _ HI_cQ.out HB_cQ.out E3.out).mono ?_
      rintro e W7 ⟨rfl, hi, hb, hk⟩
      have HIo := HI_cQ.out
      have HI_64 := am_ (hi)
      have HB_65 := am_ (hb)
      have B0_66 := am_ (hk.blk B0_cQ.out (Ne.symm (IsS116.ne_blk HIo B0_cQ.out (by decide))) (by simp))
      have B1_67 := am_ (hk.blk B1_cQ.out (Ne.symm (IsS116.ne_blk HIo B1_cQ.out (by decide))) (by simp))
      have BP_68 := am_ (hk.blk BP_cQ.out (Ne.symm (IsS116.ne_blk HIo BP_cQ.out (by decide))) (by simp))
      have SP_69 := am_ (Kd.S_mono (Kd.S_keep (IsS116.apartS HIo SP_cQ.out (by decide)) hk (fun k hk => hk.2)) (fun _ hk => hk.1))
      have BQ_70 := am_ (hk.blk BQ_cQ.out (Ne.symm (IsS116.ne_blk HIo BQ_cQ.out (by decide))) (by simp))
      have SQ_71 := am_ (Kd.S_mono (Kd.S_keep (IsS116.apartS HIo SQ_cQ.out (by decide)) hk (fun k hk => hk.2)) (fun _ hk => hk.1))
      have LB_72 := am_ (Nat.le_trans LB_cQ.out hk.1)
      clear HI_cQ HB_cQ B0_cQ B1_cQ BP_cQ SP_cQ BQ_cQ SQ_cQ LB_cQ hi hb hk HIo E3
      have NQ := am_ (show U.heap.size ≤ W5.heap.size ∧ W5.heap.size ≤ gq ∧ gq < W7.heap.size from ⟨NLW.out, NBQ.out, blk_lt BQ_70.out⟩)
      go_upto_if 41 with fail
      go_cut [] from 7 to 98 (fun wc => ∃ (A : Option Addr) (cc : Nat), Aside0 (Below U.heap.size U wc) ∧ Aside0 (wc.heap[w.heap.size]? = some (Obj.cells #[Value.slice none 0 0] 35)) ∧ Aside0 (wc.heap[w.heap.size + 1]? = some (Obj.cells #[Value.slice none 0 0] 35)) ∧ Aside0 (wc.heap[gp]? = some (Obj.cells #[.slice AP p'.length cP] 35)) ∧ Aside0 (Kd.S (Kd.slice 85 k85) 82 wc W0.heap.size (fun k => k < W5.heap.size) (.slice AP p'.length cP) p') ∧ Aside0 (wc.heap[gq]? = some (Obj.cells #[.slice A r.length cc] 35)) ∧ Aside0 (Kd.S (Kd.slice 85 k85) 82 wc W5.heap.size (fun _ => True) (.slice A r.length cc) r))
      case first =>
        by_cases hc : c > 0
        rotate_left
        · have hcb : decide (0 < c) = false := decide_eq_false hc
          have h := H.out
          rw [if_neg hc] at h
          simp only [Option.some.injEq, Prod.mk.injEq] at h
          obtain ⟨-, rfl⟩ := h
          go_wp2_with fail
          go_meet
          case rel => exact ⟨AQ, cQ, HB_65, B0_66, B1_67, BP_68, SP_69, BQ_70, SQ_71⟩
        have hcb : decide (0 < c) = true := decide_eq_true hc
        have h := H.out
        rw [if_pos hc] at h
        obtain ⟨r', hm, h⟩ := Option.bind_eq_some_iff.mp h
        simp only [Option.some.injEq, Prod.mk.injEq] at h
        obtain ⟨-, rfl⟩ := h
        have HM0 := am_ hm
        clear hm H
        go_wp2_with fail
        generalize decide (0 < c) = bc at hcb ⊢
        clear hcb hc
        have hql : q.length ≤ 9223372036854775807 := (Kd.R_reads' (Kd.S_R SQ_71.out)).2.2.2.1
        go_loopg [7, 8] q.length (fun kq v7 v8 w' => ∃ (done rest rest' : List (List S85)) (u8 : Value), v7 = .int .i64 done.length ∧ v8 = u8 ∧ rest.length = kq ∧ Aside0 (done.length + rest.length = q.length) ∧ Aside0 (mapO (mapO spec_DrawTurnBeside.sh) rest = some rest') ∧ Aside0 (r' = done ++ rest') ∧ Aside0 (Below U.heap.size U w') ∧ Aside0 (w'.heap[w.heap.size]? = some (Obj.cells #[Value.slice none 0 0] 35)) ∧ Aside0 (w'.heap[w.heap.size + 1]? = some (Obj.cells #[Value.slice none 0 0] 35)) ∧ Aside0 (w'.heap[gp]? = some (Obj.cells #[.slice AP p'.length cP] 35)) ∧ Aside0 (Kd.S (Kd.slice 85 k85) 82 w' W0.heap.size (fun k => k < W5.heap.size) (.slice AP p'.length cP) p') ∧ Aside0 (w'.heap[gq]? = some (Obj.cells #[.slice AQ q.length cQ] 35)) ∧ Aside0 (Kd.S (Kd.slice 85 k85) 82 w' W5.heap.size (fun _ => True) (.slice AQ q.length cQ) (done ++ rest)))
        case atStart => exact ⟨[], q, r', _, rfl, rfl, rfl, ⟨by simp⟩, HM0, ⟨rfl⟩, HB_65, B0_66, B1_67, BP_68, SP_69, BQ_70, SQ_71⟩
        case round =>
          obtain ⟨done, rest, rest', u8, rfl, rfl, hkq, HL, HM, HR, HBr, B0r, B1r, BPr, SPr, BQr, SQr⟩ := hrel
          clear HM0 HB_65 B0_66 B1_67 BP_68 SP_69 HI_64 BQ_70 SQ_71 LB_72
          have hcq : wr.cell? ⟨gq, 0, none⟩ = some (.slice AQ q.length cQ) := (blk_cell BQr.out 0).trans rfl
          cases rest with
          | nil =>
            have hrs' : rest' = [] := by have := HM.out; simp only [mapO, Option.some.injEq] at this; exact this.symm
            subst hrs'
            have hge : ¬ (done.length : Int) < (q.length : Int) := by have := HL.out; simp only [List.length_nil] at this; omega
            have hSn := SQr.out
            have e := HR.out
            rw [List.append_nil] at e hSn
            subst e
            have hlq : r'.length = q.length := by have := HL.out; simp only [List.length_nil] at this; omega
            rw [← hlq] at hSn
            go_wp2_with fail
            go_meet
            case rel => exact ⟨AQ, cQ, HBr, B0r, B1r, BPr, SPr, ⟨by have h := BQr.out; rw [← hlq] at h; exact h⟩, ⟨hSn⟩⟩
          | cons row rest1 =>
            have HMM := HM.out
            clear HM
            simp only [mapO] at HMM
            obtain ⟨row', hm1, HMM⟩ := Option.bind_eq_some_iff.mp HMM
            obtain ⟨rest1', hm2, HMM⟩ := Option.bind_eq_some_iff.mp HMM
            simp only [Option.some.injEq] at HMM
            subst HMM
            have M1 := am_ hm1
            have M2 := am_ hm2
            clear hm1 hm2
            have hlt : (done.length : Int) < (q.length : Int) := by have := HL.out; simp only [List.length_cons] at this; omega
            obtain ⟨gr, cap, eA, hg0, hgl, cells, hcells⟩ := Kd.S_form SQr.out (by simp only [List.length_append, List.length_cons]; omega)
            have hS := SQr.out
            have eL : (done ++ row :: rest1).length = q.length := by have := HL.out; simpa using this
            rw [eL] at eA
            injection eA with eA1 eA2 eA3
            subst eA1
            obtain ⟨oki, cs, hlen, hM, hcc, hoki, hH⟩ := Kd.S_lend hS [] (done.length : Int) (by omega) (by omega)
            rw [show (done ++ row :: rest1).getD (done.length : Int).toNat [] = row by simp] at hM
            obtain ⟨u, rfl, hRu⟩ := (show ((Kd.slice 85 k85)).M wr W5.heap.size oki row cs from hM)
            obtain ⟨Au, cu, rfl⟩ := Kd.R_slice hRu
            have HRu := am_ hRu
            have HHr := am_ hH
            have HOK := am_ hoki
            have HGR := am_ (show W5.heap.size ≤ gr ∧ gr ≠ gq from ⟨hg0, fun e => by rw [e] at hcells; have := BQr.out; rw [hcells] at this; injection this with this; injection this with h1 h2; exact absurd h2 (by decide)⟩)
            clear hcells hRu hH hoki hS hcc hM hlen hg0 hgl SQr
            have hrl : row.length ≤ 9223372036854775807 := (Kd.R_reads' HRu.out).2.2.2.1
            go_wp2_with fail
            clear hcq
            go_loopg [8] row.length (fun jq v8 W => ∃ (dn rs rs' : List S85), v8 = .int .i64 dn.length ∧ rs.length = jq ∧ Aside0 (dn.length + rs.length = row.length) ∧ Aside0 (mapO spec_DrawTurnBeside.sh rs = some rs') ∧ Aside0 (row' = dn ++ rs') ∧ Aside0 (Below U.heap.size U W) ∧ Aside0 (W.heap[w.heap.size]? = some (Obj.cells #[Value.slice none 0 0] 35)) ∧ Aside0 (W.heap[w.heap.size + 1]? = some (Obj.cells #[Value.slice none 0 0] 35)) ∧ Aside0 (W.heap[gp]? = some (Obj.cells #[.slice AP p'.length cP] 35)) ∧ Aside0 (Kd.S (Kd.slice 85 k85) 82 W W0.heap.size (fun k => k < W5.heap.size) (.slice AP p'.length cP) p') ∧ Aside0 (W.heap[gq]? = some (Obj.cells #[.slice (some ⟨gr, 0, none⟩) q.length cQ] 35)) ∧
              Aside0 (Kd.R k85 85 W W5.heap.size oki (.slice Au row.length cu) (dn ++ rs)) ∧ Aside0 (Kd.H (Kd.slice 85 k85) 82 W W5.heap.size (fun _ => True) (.slice (some ⟨gr, 0, none⟩) q.length cQ) (done ++ row :: rest1) done.length oki [.slice Au row.length cu]))
            case atStart => exact ⟨[], row, row', rfl, rfl, ⟨by simp⟩, M1, ⟨rfl⟩, HBr, B0r, B1r, BPr, SPr, BQr, HRu, HHr⟩
            case round =>
              obtain ⟨dn, rs, rs', rfl, hjq, HLi, HMi, HRi, HBw, B0w, B1w, BPw, SPw, BQw, HRw, HHw⟩ := hrel
              clear HRu HHr HBr B0r B1r BPr SPr BQr M1
              have hcq : wr.cell? ⟨gq, 0, none⟩ = some (.slice (some ⟨gr, 0, none⟩) q.length cQ) := (blk_cell BQw.out 0).trans rfl
              have hcu : wr.cell? ⟨gr, done.length, none⟩ = some (.slice Au row.length cu) := by
                have h1 := (Kd.H_at HHw.out (by omega) (by omega)).1 0 _ rfl
                rwa [show (done.length : Int).toNat * ((Kd.slice 85 k85)).sz + 0 = done.length from by show (done.length : Int).toNat * 1 + 0 = _; omega] at h1
              cases rs with
              | nil =>
                have hrs' : rs' = [] := by have := HMi.out; simp only [mapO, Option.some.injEq] at this; exact this.symm
                subst hrs'
                have hge : ¬ (dn.length : Int) < (row.length : Int) := by have := HLi.out; simp only [List.length_nil] at this; omega
                have HSn := am_ (show Kd.S (Kd.slice 85 k85) 82 wr W5.heap.size (fun _ => True) (.slice (some ⟨gr, 0, none⟩) q.length cQ) (done ++ [row'] ++ rest1) from by
                  have h := Kd.H_back HHw.out (Kd.M_row HRw.out) (fun k hk => hk)
                  rw [show (done ++ row :: rest1).set (done.length : Int).toNat (dn ++ []) = done ++ [row'] ++ rest1 from by rw [Int.toNat_natCast, List.set_append_right _ _ (Nat.le_refl _), HRi.out]; simp] at h
                  exact h)
                clear HRw HHw
                go_wp2_with fail
                go_roundg rest1.length
                case measure => simp only [List.length_cons] at hkq; omega
                case rel => exact ⟨done ++ [row'], rest1, rest1', _, by simp, rfl, rfl, ⟨by have := HL.out; simp only [List.length_cons] at this; simp only [List.length_append, List.length_singleton]; omega⟩, M2, ⟨by rw [HR.out]; simp⟩, HBw, B0w, B1w, BPw, SPw, BQw, HSn⟩
              | cons d rs1 =>
                have HMM := HMi.out
                clear HMi
                simp only [mapO] at HMM
                obtain ⟨d', hm1, HMM⟩ := Option.bind_eq_some_iff.mp HMM
                obtain ⟨rs1', hm3, HMM⟩ := Option.bind_eq_some_iff.mp HMM
                simp only [Option.some.injEq] at HMM
                subst HMM
                have N2 := am_ hm3
                clear hm3
                have hlti : (dn.length : Int) < (row.length : Int) := by have := HLi.out; simp only [List.length_cons] at this; omega
                obtain ⟨gi, capi, eAi, hgi0, hgil, cellsi, hcellsi⟩ := Kd.R_form HRw.out (by simp only [List.length_append, List.length_cons]; omega)
                have hR := HRw.out
                have eLi : (dn ++ d :: rs1).length = row.length := by have := HLi.out; simpa using this
                rw [eLi] at eAi
                injection eAi with eAi1 eAi2 eAi3
                subst eAi1
                have HRn := am_ (HRw.out.1 gi rfl)
                have hel : ∀ W : World, Kd.R k85 85 W W5.heap.size oki (.slice (some ⟨gi, 0, none⟩) row.length cu) (dn ++ d :: rs1) → (W.cell? ⟨gi, dn.length * 3, none⟩ = some (.int .i64 d.f0) ∧ W.cell? ⟨gi, dn.length * 3 + 1, none⟩ = some (.int .i64 d.f1) ∧ W.cell? ⟨gi, dn.length * 3 + 2, none⟩ = some (.int .i64 d.f2)) ∧ W.frozen? ⟨gi, dn.length * 3 + 1, none⟩ = false ∧ (Kd.R k85 85 (W.setCell ⟨gi, dn.length * 3 + 1, none⟩ (.int .i64 (wrap64 (d.f1 + 1)))) W5.heap.size oki (.slice (some ⟨gi, 0, none⟩) row.length cu) (dn ++ [⟨d.f0, wrap64 (d.f1 + 1), d.f2⟩] ++ rs1) ∧ W.grownBy (W.setCell ⟨gi, dn.length * 3 + 1, none⟩ (.int .i64 (wrap64 (d.f1 + 1)))) (some gi)) := by
                  intro W hR
                  obtain ⟨ce, hce, hMe, hcce, hfre⟩ := Kd.R_elem hR z85 (dn.length : Int) (by omega) (by omega)
                  rw [show (dn ++ d :: rs1).getD (dn.length : Int).toNat z85 = d by simp] at hMe
                  obtain rfl := k85_openM hMe
                  have hx0 := hcce 0 _ rfl
                  have hx1 := hcce 1 _ rfl
                  have hx2 := hcce 2 _ rfl
                  have hf1 := hfre 1
                  have e0 : (dn.length : Int).toNat * (k85).sz + 0 = dn.length * 3 := by show (dn.length : Int).toNat * 3 + 0 = _; omega
                  have e1 : (dn.length : Int).toNat * (k85).sz + 1 = dn.length * 3 + 1 := by show (dn.length : Int).toNat * 3 + 1 = _; omega
                  have e2 : (dn.length : Int).toNat * (k85).sz + 2 = dn.length * 3 + 2 := by show (dn.length : Int).toNat * 3 + 2 = _; omega
                  have h := Kd.R_seg hR (dn.length : Int) (by omega) (by omega) (seg := [.int .i64 (wrap64 (d.f1 + 1))]) (j := 1) hce hcce (show 2 ≤ 3 from by decide) (x' := (⟨d.f0, wrap64 (d.f1 + 1), d.f2⟩ : S85)) (k85_mkM _ _ _ (⟨d.f0, wrap64 (d.f1 + 1), d.f2⟩ : S85)) (fun _ hk => hk)
                  rw [e1, show (dn ++ d :: rs1).set (dn.length : Int).toNat (⟨d.f0, wrap64 (d.f1 + 1), d.f2⟩ : S85) = dn ++ [⟨d.f0, wrap64 (d.f1 + 1), d.f2⟩] ++ rs1 from by rw [Int.toNat_natCast, List.set_append_right _ _ (Nat.le_refl _)]; simp] at h
                  rw [e0] at hx0
                  rw [e1] at hx1 hf1
                  rw [e2] at hx2
                  exact ⟨⟨hx0, hx1, hx2⟩, hf1, h⟩
                have HEL := am_ hel
                clear hel hR hcellsi hgi0 hgil hcq hcu
                have hcq : wr.cell? ⟨gq, 0, none⟩ = some (.slice (some ⟨gr, 0, none⟩) q.length cQ) := (blk_cell BQw.out 0).trans rfl
                have hcu : wr.cell? ⟨gr, done.length, none⟩ = some (.slice (some ⟨gi, 0, none⟩) row.length cu) := by
                  have h1 := (Kd.H_at HHw.out (by omega) (by omega)).1 0 _ rfl
                  rwa [show (done.length : Int).toNat * ((Kd.slice 85 k85)).sz + 0 = done.length from by show (done.length : Int).toNat * 1 + 0 = _; omega] at h1
                obtain ⟨⟨hx0, hx1, hx2⟩, hf1, -⟩ := HEL.out _ HRw.out
                unfold spec_DrawTurnBeside.sh at hm1
                obtain ⟨a, ea, hm1⟩ := Option.bind_eq_some_iff.mp hm1
                have EA := am_ ea
                have N1 := am_ hm1
                clear ea hm1
                go_wp2_with (go_at_call 87; refine park ?_)
                refine ⟨?_⟩
                clear hcq hcu hx0 hx1 hx2 hf1
                refine (spec_l1Reads.calls d.f0 d.f1 d.f2 a _ EA.out).mono ?_
                rintro e X1 ⟨rfl, hb⟩
                have HBx := am_ (below_then HBw.out HBw.out.size hb)
                have B0x := am_ (blk_below B0w.out hb)
                have B1x := am_ (blk_below B1w.out hb)
                have BPx := am_ (blk_below BPw.out hb)
                have SPx := am_ (Kd.S_below SPw.out hb)
                have BQx := am_ (blk_below BQw.out hb)
                have HRx := am_ (Kd.R_below HRw.out hb)
                have HHx := am_ (Kd.H_below HHw.out hb)
                clear HBw B0w B1w BPw SPw BQw HRw HHw hb EA
                have hn := N1.out
                clear N1
                rcases a with _ | _
                rotate_left
                · rw [if_pos rfl] at hn
                  simp only [Option.some.injEq] at hn
                  subst hn
                  go_wp2_with fail
                  have hb := below_drew (Below.refl X1.heap.size X1)
                  have HBd := am_ (below_then HBx.out HBx.out.size hb)
                  have B0d := am_ (blk_below B0x.out hb)
                  have B1d := am_ (blk_below B1x.out hb)
                  have BPd := am_ (blk_below BPx.out hb)
                  have SPd := am_ (Kd.S_below SPx.out hb)
                  have BQd := am_ (blk_below BQx.out hb)
                  have HRd := am_ (Kd.R_below HRx.out hb)
                  have HHd := am_ (Kd.H_below HHx.out hb)
                  clear hb HBx B0x B1x BPx SPx BQx HRx HHx
                  have hcq : X1.drew.cell? ⟨gq, 0, none⟩ = some (.slice (some ⟨gr, 0, none⟩) q.length cQ) := (blk_cell BQd.out 0).trans rfl
                  have hcu : X1.drew.cell? ⟨gr, done.length, none⟩ = some (.slice (some ⟨gi, 0, none⟩) row.length cu) := by
                    have h1 := (Kd.H_at HHd.out (by omega) (by omega)).1 0 _ rfl
                    rwa [show (done.length : Int).toNat * ((Kd.slice 85 k85)).sz + 0 = done.length from by show (done.length : Int).toNat * 1 + 0 = _; omega] at h1
                  obtain ⟨⟨hx0, hx1, hx2⟩, hf1, hst⟩ := HEL.out _ HRd.out
                  clear hx0 hx2
                  refine start_ (n := 19) (S := fun w' => w'.cell? ⟨gq, 0, none⟩ = some (.slice (some ⟨gr, 0, none⟩) q.length cQ) ∧ w'.cell? ⟨gr, done.length, none⟩ = some (.slice (some ⟨gi, 0, none⟩) row.length cu) ∧ w'.cell? ⟨gi, dn.length * 3 + 1, none⟩ = some (.int .i64 d.f1)) (ds := [18]) #[false, false, false, false, false, false, false, false, false, false, false, false, false, false, false, false, false, false, false] (by kernel_rfl) rfl rfl ⟨hcq, hcu, hx1⟩ (fun hHeld => ?_)
                  refine with_tabW spec_DrawTurnBeside.tab16 spec_DrawTurnBeside.bits16 (fun HT_ HW_ => ?_)
                  generalize X1.drew = XD at *
                  clear hcq hcu
                  refine pure_ (i := 0) (N := some 79) (v := ?_) (a' := ?_) #[true, false, false, false, false, false, false, false, false, false, false, false, false, false, false, false, false, false, false] rfl rfl (any_of HT_.out (by kernel_rfl)) (fun _ _ _ h => h) (Or.inl ⟨by rfl, ?_⟩) ?_ ?_
                  rotate_left
                  · intro w'
                    go_simp
                    with_reducible rfl
                  rotate_left
                  · simp only [Act.put, List.setIfInBounds_toArray, List.set_cons_zero, List.set_cons_succ, i64_w, i32_w]
                    rfl
                  refine pure_ (i := 2) (N := some 81) (v := ?_) (a' := ?_) #[true, false, true, false, false, false, false, false, false, false, false, false, false, false, false, false, false, false, false] rfl rfl (any_of HT_.out (by kernel_rfl)) (fun _ _ _ h => h) (Or.inl ⟨by rfl, ?_⟩) ?_ ?_
                  rotate_left
                  · intro w'
                    go_simp
                    with_reducible rfl
                  rotate_left
                  · simp only [Act.put, List.setIfInBounds_toArray, List.set_cons_zero, List.set_cons_succ, i64_w, i32_w]
                    rfl
                  refine pure_ (i := 5) (N := some 84) (v := ?_) (a' := ?_) #[true, false, true, false, false, true, false, false, false, false, false, false, false, false, false, false, false, false, false] rfl rfl (any_of HT_.out (by kernel_rfl)) (fun _ _ _ h => h) (Or.inl ⟨by rfl, ?_⟩) ?_ ?_
                  rotate_left
                  · intro w'
                    go_simp
                    with_reducible rfl
                  rotate_left
                  · simp only [Act.put, List.setIfInBounds_toArray, List.set_cons_zero, List.set_cons_succ, i64_w, i32_w]
                    rfl
                  refine pure_ (i := 6) (N := some 85) (v := ?_) (a' := ?_) #[true, false, true, false, false, true, true, false, false, false, false, false, false, false, false, false, false, false, false] rfl rfl (any_of HT_.out (by kernel_rfl)) (fun _ _ _ h => h) (Or.inl ⟨by rfl, ?_⟩) ?_ ?_
                  rotate_left
                  · intro w'
                    go_simp
                    with_reducible rfl
                  rotate_left
                  · simp only [Act.put, List.setIfInBounds_toArray, List.set_cons_zero, List.set_cons_succ, i64_w, i32_w]
                    rfl
                  refine pure_ (i := 8) (N := some 87) (v := ?_) (a' := ?_) #[true, false, true, false, false, true, true, false, true, false, false, false, false, false, false, false, false, false, false] rfl rfl (any_of HT_.out (by kernel_rfl)) (fun _ _ _ h => h) (Or.inl ⟨by rfl, ?_⟩) ?_ ?_
                  rotate_left
                  · intro w'
                    go_simp
                    with_reducible rfl
                  rotate_left
                  · simp only [Act.put, List.setIfInBounds_toArray, List.set_cons_zero, List.set_cons_succ, i64_w, i32_w]
                    rfl
                  refine pure_ (i := 11) (N := some 90) (v := ?_) (a' := ?_) #[true, false, true, false, false, true, true, false, true, false, false, true, false, false, false, false, false, false, false] rfl rfl (any_of HT_.out (by kernel_rfl)) (fun _ _ _ h => h) (Or.inl ⟨by rfl, ?_⟩) ?_ ?_
                  rotate_left
                  · intro w'
                    go_simp
                    with_reducible rfl
                  rotate_left
                  · simp only [Act.put, List.setIfInBounds_toArray, List.set_cons_zero, List.set_cons_succ, i64_w, i32_w]
                    rfl
                  refine take_ (i := 1) (N := some 80) (v := ?_) (a' := ?_) #[true, true, true, false, false, true, true, false, true, false, false, true, false, false, false, false, false, false, false] rfl rfl (take_ofW HT_.out HW_.out (by kernel_rfl)) (fun _ _ _ h => h) (Or.inl ⟨by rfl, ?_⟩) hHeld ?_ ?_
                  rotate_left
                  · intro w' s0
                    have s1 := s0.1
                    go_simp
                    with_reducible rfl
                  rotate_left
                  · simp only [Act.put, List.setIfInBounds_toArray, List.set_cons_zero, List.set_cons_succ, i64_w, i32_w]
                    rfl
                  refine pure_ (i := 3) (N := some 82) (v := ?_) (a' := ?_) #[true, true, true, true, false, true, true, false, true, false, false, true, false, false, false, false, false, false, false] rfl rfl (any_of HT_.out (by kernel_rfl)) (fun _ _ _ h => h) (Or.inl ⟨by rfl, ?_⟩) ?_ ?_
                  rotate_left
                  · intro w'
                    go_simp
                    with_reducible rfl
                  rotate_left
                  · simp only [Act.put, List.setIfInBounds_toArray, List.set_cons_zero, List.set_cons_succ, i64_w, i32_w]
                    rfl
                  refine take_ (i := 4) (N := some 83) (v := ?_) (a' := ?_) #[true, true, true, true, true, true, true, false, true, false, false, true, false, false, false, false, false, false, false] rfl rfl (take_ofW HT_.out HW_.out (by kernel_rfl)) (fun _ _ _ h => h) (Or.inl ⟨by rfl, ?_⟩) hHeld ?_ ?_
                  rotate_left
                  · intro w' s0
                    have s1 := s0.2.1
                    go_simp
                    with_reducible rfl
                  rotate_left
                  · simp only [Act.put, List.setIfInBounds_toArray, List.set_cons_zero, List.set_cons_succ, i64_w, i32_w]
                    rfl
                  refine take_ (i := 7) (N := some 86) (v := ?_) (a' := ?_) #[true, true, true, true, true, true, true, true, true, false, false, true, false, false, false, false, false, false, false] rfl rfl (take_ofW HT_.out HW_.out (by kernel_rfl)) (fun _ _ _ h => h) (Or.inl ⟨by rfl, ?_⟩) hHeld ?_ ?_
                  rotate_left
                  · intro w' s0
                    have s1 := s0.1
                    go_simp
                    with_reducible rfl
                  rotate_left
                  · simp only [Act.put, List.setIfInBounds_toArray, List.set_cons_zero, List.set_cons_succ, i64_w, i32_w]
                    rfl
                  refine pure_ (i := 9) (N := some 88) (v := ?_) (a' := ?_) #[true, true, true, true, true, true, true, true, true, true, false, true, false, false, false, false, false, false, false] rfl rfl (any_of HT_.out (by kernel_rfl)) (fun _ _ _ h => h) (Or.inl ⟨by rfl, ?_⟩) ?_ ?_
                  rotate_left
                  · intro w'
                    go_simp
                    with_reducible rfl
                  rotate_left
                  · simp only [Act.put, List.setIfInBounds_toArray, List.set_cons_zero, List.set_cons_succ, i64_w, i32_w]
                    rfl
                  refine take_ (i := 10) (N := some 89) (v := ?_) (a' := ?_) #[true, true, true, true, true, true, true, true, true, true, true, true, false, false, false, false, false, false, false] rfl rfl (take_ofW HT_.out HW_.out (by kernel_rfl)) (fun _ _ _ h => h) (Or.inl ⟨by rfl, ?_⟩) hHeld ?_ ?_
                  rotate_left
                  · intro w' s0
                    have s1 := s0.2.1
                    go_simp
                    with_reducible rfl
                  rotate_left
                  · simp only [Act.put, List.setIfInBounds_toArray, List.set_cons_zero, List.set_cons_succ, i64_w, i32_w]
                    rfl
                  refine pure_ (i := 12) (N := some 91) (v := ?_) (a' := ?_) #[true, true, true, true, true, true, true, true, true, true, true, true, true, false, false, false, false, false, false] rfl rfl (any_of HT_.out (by kernel_rfl)) (fun _ _ _ h => h) (Or.inl ⟨by rfl, ?_⟩) ?_ ?_
                  rotate_left
                  · intro w'
                    go_simp
                    with_reducible rfl
                  rotate_left
                  · simp only [Act.put, List.setIfInBounds_toArray, List.set_cons_zero, List.set_cons_succ, i64_w, i32_w]
                    rfl
                  refine pure_ (i := 13) (N := some 92) (v := ?_) (a' := ?_) #[true, true, true, true, true, true, true, true, true, true, true, true, true, true, false, false, false, false, false] rfl rfl (any_of HT_.out (by kernel_rfl)) (fun _ _ _ h => h) (Or.inl ⟨by rfl, ?_⟩) ?_ ?_
                  rotate_left
                  · intro w'
                    go_simp
                    with_reducible rfl
                  rotate_left
                  · simp only [Act.put, List.setIfInBounds_toArray, List.set_cons_zero, List.set_cons_succ, i64_w, i32_w]
                    rfl
                  refine take_ (i := 14) (N := some 93) (v := ?_) (a' := ?_) #[true, true, true, true, true, true, true, true, true, true, true, true, true, true, true, false, false, false, false] rfl rfl (take_ofW HT_.out HW_.out (by kernel_rfl)) (fun _ _ _ h => h) (Or.inl ⟨by rfl, ?_⟩) hHeld ?_ ?_
                  rotate_left
                  · intro w' s0
                    have s1 := s0.2.2
                    go_simp
                    with_reducible rfl
                  rotate_left
                  · simp only [Act.put, List.setIfInBounds_toArray, List.set_cons_zero, List.set_cons_succ, i64_w, i32_w]
                    rfl
                  refine pure_ (i := 15) (N := some 94) (v := ?_) (a' := ?_) #[true, true, true, true, true, true, true, true, true, true, true, true, true, true, true, true, false, false, false] rfl rfl (any_of HT_.out (by kernel_rfl)) (fun _ _ _ h => h) (Or.inl ⟨by rfl, ?_⟩) ?_ ?_
                  rotate_left
                  · intro w'
                    go_simp
                    with_reducible rfl
                  rotate_left
                  · simp only [Act.put, List.setIfInBounds_toArray, List.set_cons_zero, List.set_cons_succ, i64_w, i32_w]
                    rfl
                  refine pure_ (i := 16) (N := some 95) (v := ?_) (a' := ?_) #[true, true, true, true, true, true, true, true, true, true, true, true, true, true, true, true, true, false, false] rfl rfl (any_of HT_.out (by kernel_rfl)) (fun _ _ _ h => h) (Or.inl ⟨by rfl, ?_⟩) ?_ ?_
                  rotate_left
                  · intro w'
                    go_simp
                    with_reducible rfl
                  rotate_left
                  · simp only [Act.put, List.setIfInBounds_toArray, List.set_cons_zero, List.set_cons_succ, i64_w, i32_w]
                    rfl
                  refine pure_ (i := 17) (N := some 96) (v := ?_) (a' := ?_) #[true, true, true, true, true, true, true, true, true, true, true, true, true, true, true, true, true, true, false] rfl rfl (any_of HT_.out (by kernel_rfl)) (fun _ _ _ h => h) (Or.inl ⟨by rfl, ?_⟩) ?_ ?_
                  rotate_left
                  · intro w'
                    go_simp
                    with_reducible rfl
                  rotate_left
                  · simp only [Act.put, List.setIfInBounds_toArray, List.set_cons_zero, List.set_cons_succ, i64_w, i32_w]
                    rfl
                  refine last_ (i := 18) (N := none) #[true, true, true, true, true, true, true, true, true, true, true, true, true, true, true, true, true, true, true] rfl rfl (one_of HT_.out (by kernel_rfl)) (by decide) (fun K hK => ?_)
                  have hs18 := hx1
                  have hfs18 := hf1
                  refine skip_ (w1 := ?_) (by rfl) rfl ?_ ?_
                  rotate_left
                  · go_simp
                    rfl
                  refine hK.out _ _ ?_
                  clear hK K
                  refine done_ (done_of HT_.out (by kernel_rfl)) ?_
                  clear hs18 hfs18 HT_ HW_ hHeld hx1 hf1
                  try go_wp2
                  go_roundg rs1.length
                  case measure => simp only [List.length_cons] at hjq; omega
                  case rel =>
                    have hgi := HRn.out
                    have hgb := (HOK.out _ hgi)
                    have hgb2 := Kd.R_base HRd.out gi rfl
                    exact ⟨dn ++ [⟨d.f0, wrap64 (d.f1 + 1), d.f2⟩], rs1, rs1', by simp, rfl, ⟨by have := HLi.out; simp only [List.length_cons] at this; simp only [List.length_append, List.length_singleton]; omega⟩, N2, ⟨by rw [HRi.out]; simp⟩, ⟨HBd.out.grown hst.2 HBd.out.size (fun k hk => by injection hk with hk; have := NQ.out; omega)⟩, ⟨blk_grown B0d.out hst.2 (Kd.R_ne HRd.out B0d.out (by decide))⟩, ⟨blk_grown B1d.out hst.2 (Kd.R_ne HRd.out B1d.out (by decide))⟩, ⟨blk_grown BPd.out hst.2 (Kd.R_ne HRd.out BPd.out (by decide))⟩, ⟨Kd.S_step SPd.out (fun k ho hk => hst.2.block k hk (fun e => by injection e with e; omega))⟩, ⟨blk_grown BQd.out hst.2 (Kd.R_ne HRd.out BQd.out (by decide))⟩, ⟨hst.1⟩, ⟨Kd.H_grown HHd.out hst.2 (fun k hk => by injection hk with hk; rw [← hk]; exact hgi)⟩⟩
                rw [if_neg (by simp)] at hn
                obtain ⟨b, eb, hn⟩ := Option.bind_eq_some_iff.mp hn
                have EB := am_ eb
                clear eb
                have hcq : X1.cell? ⟨gq, 0, none⟩ = some (.slice (some ⟨gr, 0, none⟩) q.length cQ) := (blk_cell BQx.out 0).trans rfl
                have hcu : X1.cell? ⟨gr, done.length, none⟩ = some (.slice (some ⟨gi, 0, none⟩) row.length cu) := by
                  have h1 := (Kd.H_at HHx.out (by omega) (by omega)).1 0 _ rfl
                  rwa [show (done.length : Int).toNat * ((Kd.slice 85 k85)).sz + 0 = done.length from by show (done.length : Int).toNat * 1 + 0 = _; omega] at h1
                obtain ⟨⟨hx0, hx1, hx2⟩, hf1, -⟩ := HEL.out _ HRx.out
                go_wp2_with (go_at_call 88; refine park ?_)
                refine ⟨?_⟩
                clear hcq hcu hx0 hx1 hx2 hf1
                refine (spec_l1Writes.calls d.f0 d.f1 d.f2 b _ EB.out).mono ?_
                rintro e X2 ⟨rfl, hb⟩
                have HBy := am_ (below_then HBx.out HBx.out.size hb)
                have B0y := am_ (blk_below B0x.out hb)
                have B1y := am_ (blk_below B1x.out hb)
                have BPy := am_ (blk_below BPx.out hb)
                have SPy := am_ (Kd.S_below SPx.out hb)
                have BQy := am_ (blk_below BQx.out hb)
                have HRy := am_ (Kd.R_below HRx.out hb)
                have HHy := am_ (Kd.H_below HHx.out hb)
                clear HBx B0x B1x BPx SPx BQx HRx HHx hb EB
                rcases b with _ | _
                rotate_left
                · rw [if_pos rfl] at hn
                  simp only [Option.some.injEq] at hn
                  subst hn
                  go_wp2_with fail
                  have hb := below_drew (Below.refl X2.heap.size X2)
                  have HBd := am_ (below_then HBy.out HBy.out.size hb)
                  have B0d := am_ (blk_below B0y.out hb)
                  have B1d := am_ (blk_below B1y.out hb)
                  have BPd := am_ (blk_below BPy.out hb)
                  have SPd := am_ (Kd.S_below SPy.out hb)
                  have BQd := am_ (blk_below BQy.out hb)
                  have HRd := am_ (Kd.R_below HRy.out hb)
                  have HHd := am_ (Kd.H_below HHy.out hb)
                  clear hb HBy B0y B1y BPy SPy BQy HRy HHy
                  have hcq : X2.drew.cell? ⟨gq, 0, none⟩ = some (.slice (some ⟨gr, 0, none⟩) q.length cQ) := (blk_cell BQd.out 0).trans rfl
                  have hcu : X2.drew.cell? ⟨gr, done.length, none⟩ = some (.slice (some ⟨gi, 0, none⟩) row.length cu) := by
                    have h1 := (Kd.H_at HHd.out (by omega) (by omega)).1 0 _ rfl
                    rwa [show (done.length : Int).toNat * ((Kd.slice 85 k85)).sz + 0 = done.length from by show (done.length : Int).toNat * 1 + 0 = _; omega] at h1
                  obtain ⟨⟨hx0, hx1, hx2⟩, hf1, hst⟩ := HEL.out _ HRd.out
                  clear hx0 hx2
                  refine start_ (n := 19) (S := fun w' => w'.cell? ⟨gq, 0, none⟩ = some (.slice (some ⟨gr, 0, none⟩) q.length cQ) ∧ w'.cell? ⟨gr, done.length, none⟩ = some (.slice (some ⟨gi, 0, none⟩) row.length cu) ∧ w'.cell? ⟨gi, dn.length * 3 + 1, none⟩ = some (.int .i64 d.f1)) (ds := [18]) #[false, false, false, false, false, false, false, false, false, false, false, false, false, false, false, false, false, false, false] (by kernel_rfl) rfl rfl ⟨hcq, hcu, hx1⟩ (fun hHeld => ?_)
                  refine with_tabW spec_DrawTurnBeside.tab16 spec_DrawTurnBeside.bits16 (fun HT_ HW_ => ?_)
                  generalize X2.drew = XD at *
                  clear hcq hcu
                  refine pure_ (i := 0) (N := some 79) (v := ?_) (a' := ?_) #[true, false, false, false, false, false, false, false, false, false, false, false, false, false, false, false, false, false, false] rfl rfl (any_of HT_.out (by kernel_rfl)) (fun _ _ _ h => h) (Or.inl ⟨by rfl, ?_⟩) ?_ ?_
                  rotate_left
                  · intro w'
                    go_simp
                    with_reducible rfl
                  rotate_left
                  · simp only [Act.put, List.setIfInBounds_toArray, List.set_cons_zero, List.set_cons_succ, i64_w, i32_w]
                    rfl
                  refine pure_ (i := 2) (N := some 81) (v := ?_) (a' := ?_) #[true, false, true, false, false, false, false, false, false, false, false, false, false, false, false, false, false, false, false] rfl rfl (any_of HT_.out (by kernel_rfl)) (fun _ _ _ h => h) (Or.inl ⟨by rfl, ?_⟩) ?_ ?_
                  rotate_left
                  · intro w'
                    go_simp
                    with_reducible rfl
                  rotate_left
                  · simp only [Act.put, List.setIfInBounds_toArray, List.set_cons_zero, List.set_cons_succ, i64_w, i32_w]
                    rfl
                  refine pure_ (i := 5) (N := some 84) (v := ?_) (a' := ?_) #[true, false, true, false, false, true, false, false, false, false, false, false, false, false, false, false, false, false, false] rfl rfl (any_of HT_.out (by kernel_rfl)) (fun _ _ _ h => h) (Or.inl ⟨by rfl, ?_⟩) ?_ ?_
                  rotate_left
                  · intro w'
                    go_simp
                    with_reducible rfl
                  rotate_left
                  · simp only [Act.put, List.setIfInBounds_toArray, List.set_cons_zero, List.set_cons_succ, i64_w, i32_w]
                    rfl
                  refine pure_ (i := 6) (N := some 85) (v := ?_) (a' := ?_) #[true, false, true, false, false, true, true, false, false, false, false, false, false, false, false, false, false, false, false] rfl rfl (any_of HT_.out (by kernel_rfl)) (fun _ _ _ h => h) (Or.inl ⟨by rfl, ?_⟩) ?_ ?_
                  rotate_left
                  · intro w'
                    go_simp
                    with_reducible rfl
                  rotate_left
                  · simp only [Act.put, List.setIfInBounds_toArray, List.set_cons_zero, List.set_cons_succ, i64_w, i32_w]
                    rfl
                  refine pure_ (i := 8) (N := some 87) (v := ?_) (a' := ?_) #[true, false, true, false, false, true, true, false, true, false, false, false, false, false, false, false, false, false, false] rfl rfl (any_of HT_.out (by kernel_rfl)) (fun _ _ _ h => h) (Or.inl ⟨by rfl, ?_⟩) ?_ ?_
                  rotate_left
                  · intro w'
                    go_simp
                    with_reducible rfl
                  rotate_left
                  · simp only [Act.put, List.setIfInBounds_toArray, List.set_cons_zero, List.set_cons_succ, i64_w, i32_w]
                    rfl
                  refine pure_ (i := 11) (N := some 90) (v := ?_) (a' := ?_) #[true, false, true, false, false, true, true, false, true, false, false, true, false, false, false, false, false, false, false] rfl rfl (any_of HT_.out (by kernel_rfl)) (fun _ _ _ h => h) (Or.inl ⟨by rfl, ?_⟩) ?_ ?_
                  rotate_left
                  · intro w'
                    go_simp
                    with_reducible rfl
                  rotate_left
                  · simp only [Act.put, List.setIfInBounds_toArray, List.set_cons_zero, List.set_cons_succ, i64_w, i32_w]
                    rfl
                  refine take_ (i := 1) (N := some 80) (v := ?_) (a' := ?_) #[true, true, true, false, false, true, true, false, true, false, false, true, false, false, false, false, false, false, false] rfl rfl (take_ofW HT_.out HW_.out (by kernel_rfl)) (fun _ _ _ h => h) (Or.inl ⟨by rfl, ?_⟩) hHeld ?_ ?_
                  rotate_left
                  · intro w' s0
                    have s1 := s0.1
                    go_simp
                    with_reducible rfl
                  rotate_left
                  · simp only [Act.put, List.setIfInBounds_toArray, List.set_cons_zero, List.set_cons_succ, i64_w, i32_w]
                    rfl
                  refine pure_ (i := 3) (N := some 82) (v := ?_) (a' := ?_) #[true, true, true, true, false, true, true, false, true, false, false, true, false, false, false, false, false, false, false] rfl rfl (any_of HT_.out (by kernel_rfl)) (fun _ _ _ h => h) (Or.inl ⟨by rfl, ?_⟩) ?_ ?_
                  rotate_left
                  · intro w'
                    go_simp
                    with_reducible rfl
                  rotate_left
                  · simp only [Act.put, List.setIfInBounds_toArray, List.set_cons_zero, List.set_cons_succ, i64_w, i32_w]
                    rfl
                  refine take_ (i := 4) (N := some 83) (v := ?_) (a' := ?_) #[true, true, true, true, true, true, true, false, true, false, false, true, false, false, false, false, false, false, false] rfl rfl (take_ofW HT_.out HW_.out (by kernel_rfl)) (fun _ _ _ h => h) (Or.inl ⟨by rfl, ?_⟩) hHeld ?_ ?_
                  rotate_left
                  · intro w' s0
                    have s1 := s0.2.1
                    go_simp
                    with_reducible rfl
                  rotate_left
                  · simp only [Act.put, List.setIfInBounds_toArray, List.set_cons_zero, List.set_cons_succ, i64_w, i32_w]
                    rfl
                  refine take_ (i := 7) (N := some 86) (v := ?_) (a' := ?_) #[true, true, true, true, true, true, true, true, true, false, false, true, false, false, false, false, false, false, false] rfl rfl (take_ofW HT_.out HW_.out (by kernel_rfl)) (fun _ _ _ h => h) (Or.inl ⟨by rfl, ?_⟩) hHeld ?_ ?_
                  rotate_left
                  · intro w' s0
                    have s1 := s0.1
                    go_simp
                    with_reducible rfl
                  rotate_left
                  · simp only [Act.put, List.setIfInBounds_toArray, List.set_cons_zero, List.set_cons_succ, i64_w, i32_w]
                    rfl
                  refine pure_ (i := 9) (N := some 88) (v := ?_) (a' := ?_) #[true, true, true, true, true, true, true, true, true, true, false, true, false, false, false, false, false, false, false] rfl rfl (any_of HT_.out (by kernel_rfl)) (fun _ _ _ h => h) (Or.inl ⟨by rfl, ?_⟩) ?_ ?_
                  rotate_left
                  · intro w'
                    go_simp
                    with_reducible rfl
                  rotate_left
                  · simp only [Act.put, List.setIfInBounds_toArray, List.set_cons_zero, List.set_cons_succ, i64_w, i32_w]
                    rfl
                  refine take_ (i := 10) (N := some 89) (v := ?_) (a' := ?_) #[true, true, true, true, true, true, true, true, true, true, true, true, false, false, false, false, false, false, false] rfl rfl (take_ofW HT_.out HW_.out (by kernel_rfl)) (fun _ _ _ h => h) (Or.inl ⟨by rfl, ?_⟩) hHeld ?_ ?_
                  rotate_left
                  · intro w' s0
                    have s1 := s0.2.1
                    go_simp
                    with_reducible rfl
                  rotate_left
                  · simp only [Act.put, List.setIfInBounds_toArray, List.set_cons_zero, List.set_cons_succ, i64_w, i32_w]
                    rfl
                  refine pure_ (i := 12) (N := some 91) (v := ?_) (a' := ?_) #[true, true, true, true, true, true, true, true, true, true, true, true, true, false, false, false, false, false, false] rfl rfl (any_of HT_.out (by kernel_rfl)) (fun _ _ _ h => h) (Or.inl ⟨by rfl, ?_⟩) ?_ ?_
                  rotate_left
                  · intro w'
                    go_simp
                    with_reducible rfl
                  rotate_left
                  · simp only [Act.put, List.setIfInBounds_toArray, List.set_cons_zero, List.set_cons_succ, i64_w, i32_w]
                    rfl
                  refine pure_ (i := 13) (N := some 92) (v := ?_) (a' := ?_) #[true, true, true, true, true, true, true, true, true, true, true, true, true, true, false, false, false, false, false] rfl rfl (any_of HT_.out (by kernel_rfl)) (fun _ _ _ h => h) (Or.inl ⟨by rfl, ?_⟩) ?_ ?_
                  rotate_left
                  · intro w'
                    go_simp
                    with_reducible rfl
                  rotate_left
                  · simp only [Act.put, List.setIfInBounds_toArray, List.set_cons_zero, List.set_cons_succ, i64_w, i32_w]
                    rfl
                  refine take_ (i := 14) (N := some 93) (v := ?_) (a' := ?_) #[true, true, true, true, true, true, true, true, true, true, true, true, true, true, true, false, false, false, false] rfl rfl (take_ofW HT_.out HW_.out (by kernel_rfl)) (fun _ _ _ h => h) (Or.inl ⟨by rfl, ?_⟩) hHeld ?_ ?_
                  rotate_left
                  · intro w' s0
                    have s1 := s0.2.2
                    go_simp
                    with_reducible rfl
                  rotate_left
                  · simp only [Act.put, List.setIfInBounds_toArray, List.set_cons_zero, List.set_cons_succ, i64_w, i32_w]
                    rfl
                  refine pure_ (i := 15) (N := some 94) (v := ?_) (a' := ?_) #[true, true, true, true, true, true, true, true, true, true, true, true, true, true, true, true, false, false, false] rfl rfl (any_of HT_.out (by kernel_rfl)) (fun _ _ _ h => h) (Or.inl ⟨by rfl, ?_⟩) ?_ ?_
                  rotate_left
                  · intro w'
                    go_simp
                    with_reducible rfl
                  rotate_left
                  · simp only [Act.put, List.setIfInBounds_toArray, List.set_cons_zero, List.set_cons_succ, i64_w, i32_w]
                    rfl
                  refine pure_ (i := 16) (N := some 95) (v := ?_) (a' := ?_) #[true, true, true, true, true, true, true, true, true, true, true, true, true, true, true, true, true, false, false] rfl rfl (any_of HT_.out (by kernel_rfl)) (fun _ _ _ h => h) (Or.inl ⟨by rfl, ?_⟩) ?_ ?_
                  rotate_left
                  · intro w'
                    go_simp
                    with_reducible rfl
                  rotate_left
                  · simp only [Act.put, List.setIfInBounds_toArray, List.set_cons_zero, List.set_cons_succ, i64_w, i32_w]
                    rfl
                  refine pure_ (i := 17) (N := some 96) (v := ?_) (a' := ?_) #[true, true, true, true, true, true, true, true, true, true, true, true, true, true, true, true, true, true, false] rfl rfl (any_of HT_.out (by kernel_rfl)) (fun _ _ _ h => h) (Or.inl ⟨by rfl, ?_⟩) ?_ ?_
                  rotate_left
                  · intro w'
                    go_simp
                    with_reducible rfl
                  rotate_left
                  · simp only [Act.put, List.setIfInBounds_toArray, List.set_cons_zero, List.set_cons_succ, i64_w, i32_w]
                    rfl
                  refine last_ (i := 18) (N := none) #[true, true, true, true, true, true, true, true, true, true, true, true, true, true, true, true, true, true, true] rfl rfl (one_of HT_.out (by kernel_rfl)) (by decide) (fun K hK => ?_)
                  have hs18 := hx1
                  have hfs18 := hf1
                  refine skip_ (w1 := ?_) (by rfl) rfl ?_ ?_
                  rotate_left
                  · go_simp
                    rfl
                  refine hK.out _ _ ?_
                  clear hK K
                  refine done_ (done_of HT_.out (by kernel_rfl)) ?_
                  clear hs18 hfs18 HT_ HW_ hHeld hx1 hf1
                  try go_wp2
                  go_roundg rs1.length
                  case measure => simp only [List.length_cons] at hjq; omega
                  case rel =>
                    have hgi := HRn.out
                    have hgb := (HOK.out _ hgi)
                    have hgb2 := Kd.R_base HRd.out gi rfl
                    exact ⟨dn ++ [⟨d.f0, wrap64 (d.f1 + 1), d.f2⟩], rs1, rs1', by simp, rfl, ⟨by have := HLi.out; simp only [List.length_cons] at this; simp only [List.length_append, List.length_singleton]; omega⟩, N2, ⟨by rw [HRi.out]; simp⟩, ⟨HBd.out.grown hst.2 HBd.out.size (fun k hk => by injection hk with hk; have := NQ.out; omega)⟩, ⟨blk_grown B0d.out hst.2 (Kd.R_ne HRd.out B0d.out (by decide))⟩, ⟨blk_grown B1d.out hst.2 (Kd.R_ne HRd.out B1d.out (by decide))⟩, ⟨blk_grown BPd.out hst.2 (Kd.R_ne HRd.out BPd.out (by decide))⟩, ⟨Kd.S_step SPd.out (fun k ho hk => hst.2.block k hk (fun e => by injection e with e; omega))⟩, ⟨blk_grown BQd.out hst.2 (Kd.R_ne HRd.out BQd.out (by decide))⟩, ⟨hst.1⟩, ⟨Kd.H_grown HHd.out hst.2 (fun k hk => by injection hk with hk; rw [← hk]; exact hgi)⟩⟩
                rw [if_neg (by simp)] at hn
                simp only [Option.some.injEq] at hn
                subst hn
                go_wp2_with fail
                go_roundg rs1.length
                case measure => simp only [List.length_cons] at hjq; omega
                case rel => exact ⟨dn ++ [d], rs1, rs1', by simp, rfl, ⟨by have := HLi.out; simp only [List.length_cons] at this; simp only [List.length_append, List.length_singleton]; omega⟩, N2, ⟨by rw [HRi.out]; simp⟩, HBy, B0y, B1y, BPy, SPy, BQy, ⟨by have h := HRy.out; rwa [show dn ++ d :: rs1 = dn ++ [d] ++ rs1 by simp] at h⟩, HHy⟩
      case rest =>
        clear HB_65 B0_66 B1_67 BP_68 SP_69 HI_64 BQ_70 SQ_71 LB_72
        obtain ⟨AR, cR, HBc, B0c, B1c, BPc, SPc, BQc, SQc⟩ := hcut
        go_wp2_with fail
        have hb := below_drew (Below.refl wc.heap.size wc)
        have HBd := am_ (below_then HBc.out HBc.out.size hb)
        have B0d := am_ (blk_below B0c.out hb)
        have B1d := am_ (blk_below B1c.out hb)
        have BPd := am_ (blk_below BPc.out hb)
        have BQd := am_ (blk_below BQc.out hb)
        have SPd := am_ (Kd.S_below SPc.out hb)
        have SQd := am_ (Kd.S_below SQc.out hb)
        clear hb HBc B0c B1c BPc BQc SPc SQc
        refine start_ (n := 4) (S := fun w' => w'.cell? ⟨gp, 0, none⟩ = some (.slice AP p'.length cP) ∧ w'.cell? ⟨gq, 0, none⟩ = some (.slice AR r.length cR)) (ds := [3]) #[false, false, false, false] (by kernel_rfl) rfl rfl ⟨(blk_cell BPd.out 0).trans rfl, (blk_cell BQd.out 0).trans rfl⟩ (fun hHeld => ?_)
        refine with_tabW spec_DrawTurnBeside.tab17 spec_DrawTurnBeside.bits17 (fun HT_ HW_ => ?_)
        generalize wc.drew = XD at *
        have NEP := am_ (show gp ≠ w.heap.size from by have := NBP.out; have := NU.out; have := NLU.out; omega)
        have NEQ := am_ (show gq ≠ w.heap.size from by have := NQ.out; have := NU.out; omega)
        refine take_ (i := 0) (N := some 97) (v := ?_) (a' := ?_) #[true, false, false, false] rfl rfl (take_ofW HT_.out HW_.out (by kernel_rfl)) (fun _ _ _ h => h) (Or.inl ⟨by rfl, ?_⟩) hHeld ?_ ?_
        rotate_left
        · intro w' s0
          have s1 := s0.1
          go_simp
          with_reducible rfl
        rotate_left
        · simp only [Act.put, List.setIfInBounds_toArray, List.set_cons_zero, List.set_cons_succ, i64_w, i32_w]
          rfl
        refine take_ (i := 1) (N := some 98) (v := ?_) (a' := ?_) #[true, true, false, false] rfl rfl (take_ofW HT_.out HW_.out (by kernel_rfl)) (fun _ _ _ h => h) (Or.inl ⟨by rfl, ?_⟩) hHeld ?_ ?_
        rotate_left
        · intro w' s0
          have s1 := s0.2
          go_simp
          with_reducible rfl
        rotate_left
        · simp only [Act.put, List.setIfInBounds_toArray, List.set_cons_zero, List.set_cons_succ, i64_w, i32_w]
          rfl
        refine one_ (i := 2) (N := none) #[true, true, true, false] rfl rfl (one_of HT_.out (by kernel_rfl)) (by decide) (fun K hK => ?_)
        have hs18 : XD.cell? ⟨w.heap.size, 0, none⟩ = some (.slice none 0 0) := (blk_cell B0d.out 0).trans rfl
        have hfs18 := blk_frozen B0d.out 0
        refine skip_ (w1 := ?_) (by rfl) rfl ?_ ?_
        rotate_left
        · go_simp
          rfl
        refine hK.out _ _ ⟨(blk_cell (blk_far BPd.out (p := ⟨w.heap.size, 0, none⟩) NEP.out _) 0).trans rfl, (blk_cell (blk_far BQd.out (p := ⟨w.heap.size, 0, none⟩) NEQ.out _) 0).trans rfl⟩ (fun hHeld => ?_)
        clear hK K hs18 hfs18
        have S0 := blk_set B0d.out 0 (.slice AP p'.length cP)
        have S1 := blk_far B1d.out (p := ⟨w.heap.size, 0, none⟩) (by show w.heap.size + 1 ≠ w.heap.size; omega) (.slice AP p'.length cP)
        have SPe := Kd.S_set SPd.out B0d.out (by decide) 0 (.slice AP p'.length cP)
        have SQe := Kd.S_set SQd.out B0d.out (by decide) 0 (.slice AP p'.length cP)
        have HBw := below_set (g := w.heap.size) (j := 0) (v := .slice AP p'.length cP) (below_then HU.out HU.out.size HBd.out) (Nat.le_refl _)
        generalize XD.setCell ⟨w.heap.size, 0, none⟩ (.slice AP p'.length cP) = XE at *
        refine last_ (i := 3) (N := none) #[true, true, true, true] rfl rfl (one_of HT_.out (by kernel_rfl)) (by decide) (fun K hK => ?_)
        have hs18 : XE.cell? ⟨w.heap.size + 1, 0, none⟩ = some (.slice none 0 0) := (blk_cell S1 0).trans rfl
        have hfs18 := blk_frozen S1 0
        refine skip_ (w1 := ?_) (by rfl) rfl ?_ ?_
        rotate_left
        · go_simp
          rfl
        refine hK.out _ _ ?_
        clear hK K
        refine done_ (done_of HT_.out (by kernel_rfl)) ?_
        clear hs18 hfs18 HT_ HW_ hHeld
        have T0 := blk_far S0 (p := ⟨w.heap.size + 1, 0, none⟩) (by show w.heap.size ≠ w.heap.size + 1; omega) (.slice AR r.length cR)
        have T1 := blk_set S1 0 (.slice AR r.length cR)
        have SPf := Kd.S_set SPe S1 (by decide) 0 (.slice AR r.length cR)
        have SQf := Kd.S_set SQe S1 (by decide) 0 (.slice AR r.length cR)
        have HBf := below_set (g := w.heap.size + 1) (j := 0) (v := .slice AR r.length cR) HBw (by omega)
        go_wp2_with fail
        refine bodyPost_ret (results_cc rfl _ _ w.heap.size (w.heap.size + 1) 35 35 #[.slice AP p'.length cP] #[.slice AR r.length cR] (0, 0) (0, 0) _ _ rfl T0 Try.underlying35 rfl (by kernel_rfl) rfl T1 Try.underlying35 rfl (by kernel_rfl)) rfl ?_
        have n1 := NQ.out; have n2 := NU.out; have n3 := NLU.out
        exact ⟨_, _, rfl, Kd.S_mono (Kd.S_lower SPf (by omega)) (fun k hk e => by have := Kd.S_base SQf k e.symm; omega), Kd.S_mono (Kd.S_lower (Kd.S_bound SQf) (by omega)) (fun k hk e => by have := SPf.choose_spec.1 k e.symm; have := hk.2.1; omega), HBf⟩


end Go.Proofs.Ytefkbmhkhpekjaa.PB
