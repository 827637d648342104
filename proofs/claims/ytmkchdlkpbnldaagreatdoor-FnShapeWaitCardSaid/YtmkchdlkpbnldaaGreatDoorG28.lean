/- What the laws share, part 28: PBx11 Sort. -/
import Derived.Test.YtmkchdlkpbnldaaGreatDoorG4
import Derived.Test.YtmkchdlkpbnldaaGreatDoorG5
import Derived.Test.YtmkchdlkpbnldaaGreatDoorG7
import Derived.Test.YtmkchdlkpbnldaaGreatDoorG25
import Derived.Test.YtmkchdlkpbnldaaGreatDoorG23
import Derived.Test.YtmkchdlkpbnldaaGreatDoorG15
import Derived.CallsIn
namespace Go.Proofs.YtmkchdlkpbnldaaGreatDoor.PB
open Go.RowKit Go.Proofs.YtmkchdlkpbnldaaGreatDoorW.PrintWords Go.Proofs.YtmkchdlkpbnldaaGreatDoorW.PrintLast Go.Proofs.YtmkchdlkpbnldaaGreatDoorW.PrintMore
attribute [local go_sem] max2_int min2_int max_two min_two max_three min_three max_four min_four
open Go.Proofs.YtmkchdlkpbnldaaGreatDoorMine
set_option linter.unusedVariables false
set_option linter.unusedSimpArgs false
theorem z11_1 {p : Prop} (h : p := by unfold impl_in.f; rw [if_pos (by omega)]; simp; omega) : p := h
def impl_ShapeOf.T7 : Bool × List (List Nat × List Nat) := (true, [([], []), ([0], [0]), ([], []), ([], []), ([2, 3], [2, 3]), ([4], [4]), ([1, 5, 4], [1, 5]), ([0, 1, 2, 3, 4, 5, 6], []), ([7, 6, 6, 0, 1, 2, 3, 4, 5, 6], [6, 7])])
def impl_ShapeOf.B7 : List Nat := [0, 1, 0, 0, 12, 28, 63, 127, 255]
theorem impl_ShapeOf.tab7 : rtab .any (opsOf Tryz.f11 7) = impl_ShapeOf.T7 := by kernel_rfl
theorem impl_ShapeOf.bits7 : waitsOk impl_ShapeOf.T7.2 impl_ShapeOf.B7 = true := by kernel_rfl
def ShapeRel (w w1 : World) (gr gb : Nat) (m1 m2 : List S45) (i : Value) (wr : World) : Prop :=
  ∃ (x : Int) (u : Value), i = .int .i64 x ∧ 0 ≤ x ∧ x ≤ 2 ∧ Aside0 (Kd.S (Kd.slice 45 k45) 42 wr w1.heap.size (fun _ => True) u (([m1, m2] : List (List S45)).take x.toNat)) ∧ Aside0 (Below w.heap.size w wr) ∧
    Aside0 (KeepBut w1 wr gb none) ∧ Aside0 (wr.heap[gb]? = some (.cells #[u] 27 (0, 0)))
theorem part_ne {w : World} {A : Option Addr} {n : Nat} {xs : List S79} {g t : Nat} (h : Kd.C k79 w A n xs) (hg : w.heap[g]? = some (.cells #[.slice none 0 0] t (0, 0))) : ∀ ad, A = some ad → 0 < n → ad.block ≠ g := by
  rintro ad rfl hn rfl
  obtain ⟨ad', e, h0, -⟩ := at_T79 h 0 (by omega) (by omega)
  injection e with e; subst e
  have e1 : ad.add ((0 : Int).toNat * 4) = ad := by unfold Addr.add; simp
  rw [e1] at h0
  unfold World.cell? at h0
  rw [hg] at h0
  simp only at h0
  split at h0
  · cases h0
  rcases Nat.eq_zero_or_pos ad.off with z | z
  · rw [z] at h0; simp at h0
  rw [Array.getElem?_eq_none (by simp; omega)] at h0; cases h0
set_option maxRecDepth 100000 in
set_option maxHeartbeats 8000000 in
theorem shapeOf_case (n : Nat) (how : Int) (p1 p2 : List S79) (m1 m2 : List S45) (hn : 1 ≤ n) (h6 : n ≤ 6) (ha0 : 0 ≤ how) (ha3 : how ≤ 3) (hx : (shapesL.getD n default).1 = p1) (hy : (shapesL.getD n default).2.1 = p2) (hm1 : impl_made.f p1 how = some m1) (hm2 : impl_made.f p2 how = some m2) (w : World) :
    Calls Tryz.prog 11 #[.int .i64 n, .int .i64 how] w fun e w' => ∃ v0_ : Value, e = .returned (.tuple #[.agg #[v0_], .bool true]) ∧ Kd.S (Kd.slice 45 k45) 42 w' w.heap.size (fun _ => True) v0_ [m1, m2] ∧ Below w.heap.size w w' := by
  have hi := impl_in.calls n 1 6 true
  have hj := impl_in.calls how 0 3 true
  go_enter Tryz.func11, Tryz.ntmps11
  go_wp2_with (go_at_call 21; refine park ?_)
  refine ⟨?_⟩
  refine (hi _ z11_1).mono ?_
  rintro e w' ⟨rfl, hd⟩
  obtain ⟨m, rfl⟩ := hd.out
  clear hi hd
  go_wp2_with (go_at_call 21; refine park ?_)
  refine ⟨?_⟩
  refine (hj _ z11_1).mono ?_
  rintro e w' ⟨rfl, hd⟩
  obtain ⟨m', rfl⟩ := hd.out
  clear hj hd
  go_wp2_with (go_at_call 22; refine park ?_)
  refine ⟨?_⟩
  have e0 : (((w.alloc (Obj.cells #[Value.slice none 0 0] 27)).drewN (m + m')).alloc (Obj.cells #[Value.slice none 0 0] 27)).heap[w.heap.size]? = some (.cells #[.slice none 0 0] 27 (0, 0)) := blk_alloc (blk_drewN (heap_alloc_new w _) _) _
  have e1 : (((w.alloc (Obj.cells #[Value.slice none 0 0] 27)).drewN (m + m')).alloc (Obj.cells #[Value.slice none 0 0] 27)).heap[w.heap.size + 1]? = some (.cells #[.slice none 0 0] 27 (0, 0)) := by
    have := heap_alloc_new ((w.alloc (Obj.cells #[Value.slice none 0 0] 27)).drewN (m + m')) (Obj.cells #[Value.slice none 0 0] 27)
    simpa using this
  have e2 : Below w.heap.size w (((w.alloc (Obj.cells #[Value.slice none 0 0] 27)).drewN (m + m')).alloc (Obj.cells #[Value.slice none 0 0] 27)) := below_alloc (pw_below_drewN (below_alloc (Below.refl _ _) _) _) _
  generalize (((w.alloc (Obj.cells #[Value.slice none 0 0] 27)).drewN (m + m')).alloc (Obj.cells #[Value.slice none 0 0] 27)) = W0 at *
  refine (shapes_calls _).mono ?_
  rintro e w1 ⟨g, rfl, hb, hs⟩
  obtain ⟨A1, A2, A3, A4, h1, h2, -, -, c1, c2, -, -⟩ := hs n (by omega)
  clear hs
  rw [hx] at h1 c1
  rw [hy] at h2 c2
  rw [show 4 * n = n * 4 by omega] at h1
  rw [show 4 * n + 1 = n * 4 + 1 by omega] at h2
  clear hx hy
  have BR := am_ (blk_below e0 hb)
  have BB := am_ (blk_below e1 hb)
  have HB := am_ (below_then e2 e2.size hb)
  have C1 := am_ c1
  have C2 := am_ c2
  have HM1 := am_ hm1
  have HM2 := am_ hm2
  clear e0 e1 e2 hb c1 c2 hm1 hm2
  go_wp2_with fail
  clear h1 h2
  go_loopw [23] (fun i wr => ShapeRel w w1 w.heap.size (w.heap.size + 1) m1 m2 i wr) (fun i _ => ((2 : Int) - intOf i).toNat)
  case atStart => exact ⟨0, .slice none 0 0, rfl, by omega, by omega, ⟨by simpa using Kd.S_nil _ _ _ _ _⟩, HB, ⟨KeepBut.refl _ _ _⟩, BB⟩
  case round =>
    obtain ⟨x, u, rfl, x0, x2, HO, HBr, HKr, BBr⟩ := hrel
    rename_i wr
    by_cases hlt : x < 2
    · obtain ⟨A, p, mm, xs, hidx, Ca, Hm, Hx0, Hx1⟩ : ∃ (A : Option Addr) (p : List S79) (mm : List S45) (xs : List (List S45)), (∀ W : World, (Instr.index 49 (.agg #[.slice A1 p1.length p1.length, .slice A2 p2.length p2.length]) (.int .i64 x)).run Tryz.prog W = .ok (.slice A p.length p.length) W) ∧ Aside0 (Kd.C k79 w1 A p.length p) ∧ Aside0 (impl_made.f p how = some mm) ∧ Aside0 (([m1, m2] : List (List S45)).take x.toNat = xs) ∧ Aside0 (([m1, m2] : List (List S45)).take (x + 1).toNat = xs ++ [mm]) := by
        have : x = 0 ∨ x = 1 := by omega
        rcases this with rfl | rfl
        · exact ⟨A1, p1, m1, [], fun W => by kernel_rfl, C1, HM1, ⟨rfl⟩, ⟨rfl⟩⟩
        exact ⟨A2, p2, m2, [m1], fun W => by kernel_rfl, C2, HM2, ⟨rfl⟩, ⟨rfl⟩⟩
      have HO1 := am_ (show Kd.S (Kd.slice 45 k45) 42 wr w1.heap.size (fun _ => True) u xs from by rw [← Hx0.out]; exact HO.out)
      have HLX := am_ (show xs.length ≤ 2 from by rw [← Hx0.out, List.length_take]; simp; omega)
      clear HO
      go_wp2_with fail
      have CW := am_ (Kd.C_foot_ne (fun hk => hk) Ca.out (part_ne Ca.out BB.out) wr HKr.out)
      have hbw : wr.cell? ⟨w.heap.size + 1, 0, none⟩ = some u := blk_cell BBr.out 0
      have hgb : w.heap.size + 1 < w1.heap.size := blk_lt BB.out
      have HGB := am_ hgb
      clear hgb
      have HO2 := am_ (Kd.S_drew HO1.out)
      have BB2 := am_ (blk_drew BBr.out)
      have HB2 := am_ (below_drew HBr.out)
      have HK2 := am_ (keep_drew HKr.out)
      have CW2 := am_ (Kd.C_drew CW.out)
      refine start_ (n := 9) (S := fun w' => w'.cell? ⟨w.heap.size + 1, 0, none⟩ = some u) (ds := [8]) #[false, false, false, false, false, false, false, false, false] (by kernel_rfl) rfl rfl ((blk_cell BB2.out 0).trans rfl) (fun hHeld => ?_)
      refine with_tabW impl_ShapeOf.tab7 impl_ShapeOf.bits7 (fun HT_ HW_ => ?_)
      clear hbw
      generalize wr.drew = wq at HO2 BB2 HB2 HK2 CW2 hHeld ⊢
      refine pure_ (i := 0) (N := some 26) (v := ?_) (a' := ?_) #[true, false, false, false, false, false, false, false, false] rfl rfl (any_of HT_.out (by kernel_rfl)) (fun _ _ _ h => h) (Or.inl ⟨by rfl, ?_⟩) ?_ ?_
      rotate_left
      · intro w'
        go_simp
        with_reducible rfl
      rotate_left
      · simp only [Act.put, List.setIfInBounds_toArray, List.set_cons_zero, List.set_cons_succ, i64_w, i32_w]
        rfl
      refine pure_ (i := 2) (N := some 28) (v := ?_) (a' := ?_) #[true, false, true, false, false, false, false, false, false] rfl rfl (any_of HT_.out (by kernel_rfl)) (fun _ _ _ h => h) (Or.inl ⟨by rfl, ?_⟩) ?_ ?_
      rotate_left
      · intro w'
        go_simp
        with_reducible rfl
      rotate_left
      · simp only [Act.put, List.setIfInBounds_toArray, List.set_cons_zero, List.set_cons_succ, i64_w, i32_w]
        rfl
      refine pure_ (i := 3) (N := some 29) (v := ?_) (a' := ?_) #[true, false, true, true, false, false, false, false, false] rfl rfl (any_of HT_.out (by kernel_rfl)) (fun _ _ _ h => h) (Or.inl ⟨by rfl, ?_⟩) ?_ ?_
      rotate_left
      · intro w'
        go_simp
        with_reducible rfl
      rotate_left
      · simp only [Act.put, List.setIfInBounds_toArray, List.set_cons_zero, List.set_cons_succ, i64_w, i32_w]
        rfl
      refine take_ (i := 1) (N := some 27) (v := ?_) (a' := ?_) #[true, true, true, true, false, false, false, false, false] rfl rfl (take_ofW HT_.out HW_.out (by kernel_rfl)) (fun _ _ _ h => h) (Or.inl ⟨by rfl, ?_⟩) hHeld ?_ ?_
      rotate_left
      · intro w' s0
        go_simp
        with_reducible rfl
      rotate_left
      · simp only [Act.put, List.setIfInBounds_toArray, List.set_cons_zero, List.set_cons_succ, i64_w, i32_w]
        rfl
      refine one_ (i := 4) (N := some 30) #[true, true, true, true, true, false, false, false, false] rfl rfl (one_of HT_.out (by kernel_rfl)) (by decide) (fun K hK => ?_)
      refine goes_ Tryz.func23 (by kernel_rfl) rfl #[.slice A p.length p.length, .int .i64 how] (by rfl) rfl rfl (by (try simp only [List.map_toArray, List.map_cons, List.map_nil]); first | done | rfl) ?_
      with_reducible refine (impl_made.calls _ _ p how mm _ CW2.out (Nat.le_refl _) Hm.out).mono ?_
      rintro e w3 ⟨v3, rfl, ho0, hb3⟩
      refine ⟨_, rfl, ?_⟩
      have HO3 := am_ (Kd.S_elder' HO2.out (Kd.R_base ho0) hb3)
      have HN3 := am_ (Kd.R_lower ho0 HK2.out.1)
      have BB3 := am_ (blk_below BB2.out hb3)
      have HB3 := am_ (below_then HB2.out HB2.out.size hb3)
      have HK3 := am_ (KeepBut.trans HK2.out (KeepBut.of_below hb3 (w.heap.size + 1) none) (.inl rfl))
      clear ho0 hb3
      obtain ⟨Ao, co, eo⟩ := Kd.R_slice HN3.out
      subst eo
      refine hK.out _ _ ((blk_cell BB3.out 0).trans rfl) (fun hHeld => ?_)
      clear hK K
      refine norm_ (a' := ?_) ?_ ?_
      rotate_left
      · show Act.put _ (some 30) _ = _
        simp only [Act.put, List.setIfInBounds_toArray, List.set_cons_zero, List.set_cons_succ, i64_w, i32_w]
        rfl
      refine one_ (i := 5) (N := some 31) #[true, true, true, true, true, true, false, false, false] rfl rfl (one_of HT_.out (by kernel_rfl)) (by decide) (fun K hK => ?_)
      refine value_ (w1 := ?_) (v := ?_) (by rfl) rfl ?_ ?_
      rotate_left 2
      · go_simp
        constructor
        · rfl
        rfl
      refine hK.out _ _ ((blk_cell (blk_alloc BB3.out _) 0).trans rfl) (fun hHeld => ?_)
      clear hK K
      refine norm_ (a' := ?_) ?_ ?_
      rotate_left
      · show Act.put _ (some 31) _ = _
        simp only [Act.put, List.setIfInBounds_toArray, List.set_cons_zero, List.set_cons_succ, i64_w, i32_w]
        rfl
      refine one_ (i := 6) (N := some 32) #[true, true, true, true, true, true, true, false, false] rfl rfl (one_of HT_.out (by kernel_rfl)) (by decide) (fun K hK => ?_)
      refine Kd.S_append_step (Kd.slice 45 k45) (w0 := w3) w1.heap.size (by rfl) (.tmp 27) (.tmp 31) 25 42 (.slice none 0 0) 24 rfl Tryz.underlying25 info42 rfl (by decide) (by omega) u xs mm [.slice Ao mm.length co] (fun _ => True) (fun k_ => some k_ = (.slice Ao mm.length co : Value).ownBlock) rfl rfl ?aP (fun k_ hk_ => ((Kd.R_mono (ok' := fun k_ => ((fun _ => True)) k_ ∧ some k_ ≠ (u : Value).ownBlock) (Kd.R_apart' (HN3.out) (Kd.S_typed HO3.out) (by decide)) (fun k_ hk => ⟨trivial, hk.2⟩))).1 k_ hk_.symm) ?aF ?aO ?aB ?aS ?aL ?_
      (case aP => exact Kd.M_row (Kd.R_mono (Kd.R_tight rfl (Kd.R_mono (ok' := fun k_ => ((fun _ => True)) k_ ∧ some k_ ≠ (u : Value).ownBlock) (Kd.R_apart' (HN3.out) (Kd.S_typed HO3.out) (by decide)) (fun k_ hk => ⟨trivial, hk.2⟩))) (fun _ h_ => h_)))
      (case aB => exact Below.refl _ _)
      (case aF => exact (fun _ _ => trivial))
      (case aO => exact Kd.S_mono HO3.out (fun k_ hk => ⟨trivial, fun e_ => hk.2 e_⟩))
      (case aS => exact HK3.out.1)
      (case aL => have := HLX.out; omega)
      intro v9 w9 ho hb hg hat
      have hne : some (w.heap.size + 1) ≠ u.ownBlock := fun e => by have := Kd.S_base HO3.out _ e.symm; have := HGB.out; omega
      have BB9 := am_ (blk_grown BB3.out hg hne)
      have HK9 := am_ (KeepBut.trans HK3.out (KeepBut.of_grown hg (w.heap.size + 1)) (Kd.S_base2 HO3.out))
      have HB9 := am_ (HB3.out.grown hg HB3.out.size (fun k hk => by have := Kd.S_base HO3.out k hk; have := HGB.out; omega))
      have HO9 := am_ ho
      clear ho hb hg hat hne
      obtain ⟨Ao9, co9, eo9⟩ := Kd.S_slice HO9.out
      subst eo9
      refine hK.out _ _ ((blk_cell BB9.out 0).trans rfl) (fun hHeld => ?_)
      clear hK K
      refine norm_ (a' := ?_) ?_ ?_
      rotate_left
      · show Act.put _ (some 32) _ = _
        simp only [Act.put, List.setIfInBounds_toArray, List.set_cons_zero, List.set_cons_succ, i64_w, i32_w]
        rfl
      refine pure_ (i := 7) (N := some 33) (v := ?_) (a' := ?_) #[true, true, true, true, true, true, true, true, false] rfl rfl (any_of HT_.out (by kernel_rfl)) (fun _ _ _ h => h) (Or.inl ⟨by rfl, ?_⟩) ?_ ?_
      rotate_left
      · intro w'
        go_simp
        with_reducible rfl
      rotate_left
      · simp only [Act.put, List.setIfInBounds_toArray, List.set_cons_zero, List.set_cons_succ, i64_w, i32_w]
        rfl
      refine last_ (i := 8) (N := none) #[true, true, true, true, true, true, true, true, true] rfl rfl (one_of HT_.out (by kernel_rfl)) (by decide) (fun K hK => ?_)
      have hs18 : w9.cell? ⟨w.heap.size + 1, 0, none⟩ = some u := (blk_cell BB9.out 0).trans rfl
      have hfs18 := blk_frozen BB9.out 0
      refine skip_ (w1 := ?_) (by rfl) rfl ?_ ?_
      rotate_left
      · go_simp
        rfl
      refine hK.out _ _ ?_
      clear hK K
      refine done_ (done_of HT_.out (by kernel_rfl)) ?_
      try go_wp2
      go_roundw
      case measure => simp [intOf]; omega
      case rel =>
        have HO10 := HO9.out
        rw [List.length_append, List.length_singleton] at HO10
        refine ⟨x + 1, .slice Ao9 (xs.length + 1) co9, rfl, by omega, by omega, ⟨?_⟩, ⟨below_set HB9.out (by omega)⟩, ⟨HK9.out.set_ 0 _⟩, ⟨?_⟩⟩
        · rw [Hx1.out]
          exact Kd.S_mono (Kd.S_far (p := ⟨w.heap.size + 1, 0, none⟩) (Kd.S_types HO10 BB9.out (by decide)) (fun _ hk => hk.2) (.slice Ao9 (xs.length + 1) co9)) (fun _ hk => trivial)
        exact blk_set BB9.out 0 _
    obtain rfl : x = 2 := by omega
    have hgr : w.heap.size < w1.heap.size := blk_lt BR.out
    have BRr := am_ (HKr.out.blk BR.out (by omega) (by simp))
    have hr0 : wr.cell? ⟨w.heap.size, 0, none⟩ = some (.slice none 0 0) := (blk_cell BRr.out 0).trans rfl
    have hr1 := blk_frozen BRr.out 0
    have hr2 : wr.cell? ⟨w.heap.size + 1, 0, none⟩ = some u := (blk_cell BBr.out 0).trans rfl
    have HGR := am_ hgr
    clear hgr
    obtain ⟨Ao, co, eo⟩ := Kd.S_slice HO.out
    subst eo
    go_wp2_with fail
    refine bodyPost_ret (results_ct rfl _ _ w.heap.size 27 #[.slice Ao (([m1, m2] : List (List S45)).take (2 : Int).toNat).length co] (0, 0) _ rfl (blk_set BRr.out 0 _) Tryz.underlying27 rfl (by kernel_rfl)) rfl ?_
    refine ⟨_, rfl, ?_, below_set HBr.out (Nat.le_refl _)⟩
    have h1 := Kd.S_lower HO.out (Nat.le_of_lt HGR.out)
    exact Kd.S_mono (Kd.S_far (p := ⟨w.heap.size, 0, none⟩) (Kd.S_types h1 BRr.out (by decide)) (fun _ hk => hk.2) _) (fun _ hk => trivial)
def impl_ShapeOf.f (a0 : Int) (a1 : Int) : Option (List (List S45) × Bool) := if (1 ≤ a0 ∧ a0 ≤ 6) ∧ (0 ≤ a1 ∧ a1 ≤ 3) then (impl_made.f (shapesL.getD a0.toNat default).1 a1).bind fun m1 => (impl_made.f (shapesL.getD a0.toNat default).2.1 a1).bind fun m2 => some ([m1, m2], true) else some ([], false)
set_option maxRecDepth 100000 in
set_option maxHeartbeats 8000000 in
theorem impl_ShapeOf.callsS (a0 : Int) (a1 : Int) (r1 : List (List S45)) (r2 : Bool) (w : World) (h : impl_ShapeOf.f a0 a1 = some (r1, r2)) :
    Calls Tryz.prog 11 #[.int .i64 a0, .int .i64 a1] w fun e w' => ∃ v0_ : Value, e = .returned (.tuple #[.agg #[v0_], .bool r2]) ∧ Kd.S (Kd.slice 45 k45) 42 w' w.heap.size (fun _ => True) v0_ r1 ∧ Below w.heap.size w w' := by
  unfold impl_ShapeOf.f at h
  split at h
  · rename_i hc
    obtain ⟨⟨h1, h6⟩, h0, h3⟩ := hc
    obtain ⟨m1, e1, h⟩ := Option.bind_eq_some_iff.mp h
    obtain ⟨m2, e2, h⟩ := Option.bind_eq_some_iff.mp h
    simp only [Option.some.injEq, Prod.mk.injEq] at h
    obtain ⟨rfl, rfl⟩ := h
    obtain ⟨n, rfl⟩ := Int.eq_ofNat_of_zero_le (show 0 ≤ a0 by omega)
    simp only [Int.toNat_natCast] at e1 e2
    exact shapeOf_case n a1 _ _ m1 m2 (by omega) (by omega) h0 h3 rfl rfl e1 e2 w
  rename_i hc
  simp only [Option.some.injEq, Prod.mk.injEq] at h
  obtain ⟨rfl, rfl⟩ := h
  by_cases hs : 1 ≤ a0 ∧ a0 ≤ 6
  · have hi := impl_in.calls a0 1 6 true
    have hj := impl_in.calls a1 0 3 false
    go_enter Tryz.func11, Tryz.ntmps11
    go_wp2_with (go_at_call 21; refine park ?_)
    refine ⟨?_⟩
    refine (hi _ z11_1).mono ?_
    rintro e w' ⟨rfl, hd⟩
    obtain ⟨m, rfl⟩ := hd.out
    clear hi hd
    go_wp2_with (go_at_call 21; refine park ?_)
    refine ⟨?_⟩
    refine (hj _ (by unfold impl_in.f; split <;> simp; omega)).mono ?_
    rintro e w' ⟨rfl, hd⟩
    obtain ⟨m', rfl⟩ := hd.out
    clear hj hd hc
    go_wp2_with fail
    refine bodyPost_ret (results_ct rfl _ _ w.heap.size 27 #[.slice none 0 0] (0, 0) _ rfl (blk_set (blk_drewN (heap_alloc_new w _) _) 0 _) Tryz.underlying27 rfl (by kernel_rfl)) rfl ?_
    exact ⟨_, rfl, Kd.S_nil _ _ _ _ _, below_set (pw_below_drewN (below_alloc (Below.refl _ _) _) _) (Nat.le_refl _)⟩
  have hi := impl_in.calls a0 1 6 false
  go_enter Tryz.func11, Tryz.ntmps11
  go_wp2_with (go_at_call 21; refine park ?_)
  refine ⟨?_⟩
  refine (hi _ (by unfold impl_in.f; split <;> simp; omega)).mono ?_
  rintro e w' ⟨rfl, hd⟩
  obtain ⟨m, rfl⟩ := hd.out
  clear hi hd hc
  go_wp2_with fail
  refine bodyPost_ret (results_ct rfl _ _ w.heap.size 27 #[.slice none 0 0] (0, 0) _ rfl (blk_set (blk_drewN (heap_alloc_new w _) _) 0 _) Tryz.underlying27 rfl (by kernel_rfl)) rfl ?_
  exact ⟨_, rfl, Kd.S_nil _ _ _ _ _, below_set (pw_below_drewN (below_alloc (Below.refl _ _) _) _) (Nat.le_refl _)⟩
theorem impl_ShapeOf.calls (a0 : Int) (a1 : Int) (r1 : List (List S45)) (r2 : Bool) (w : World) (h : impl_ShapeOf.f a0 a1 = some (r1, r2)) :
  Calls Tryz.prog 11 #[.int .i64 a0, .int .i64 a1] w fun e w' => ∃ v0_ : Value, e = .returned (.tuple #[.agg #[v0_], .bool r2]) ∧ Kd.N (Kd.slice 45 k45) 42 w' w.heap.size (fun k_ => (w.heap.size ≤ k_)) v0_ r1 ∧ Below w.heap.size w w' := by
 refine (impl_ShapeOf.callsS a0 a1 r1 r2 w h).mono ?_
 rintro e w' ⟨v0_, he, hs, hb⟩
 exact ⟨v0_, he, Kd.N_mono (Kd.S_N (Kd.S_bound hs)) (fun k hk => hk.2.1), hb⟩
end Go.Proofs.YtmkchdlkpbnldaaGreatDoor.PB
namespace Go.Proofs.YtmkchdlkpbnldaaGreatDoor.PB
open Go.RowKit Go.Proofs.YtmkchdlkpbnldaaGreatDoorW.PrintWords Go.Proofs.YtmkchdlkpbnldaaGreatDoorW.PrintLast Go.Proofs.YtmkchdlkpbnldaaGreatDoorW.PrintMore Go.Proofs.YtmkchdlkpbnldaaGreatDoorMine Go.Shelf
set_option linter.unusedVariables false
set_option linter.unusedSimpArgs false
set_option maxRecDepth 100000 in
set_option maxHeartbeats 2000000 in
theorem pdq_small (k : Nat) (P0 : Nat → Prop) (u : Value) (l r : List Int) (lim : Int) (w0 w : World) (hB : Below w0.heap.size w0 w) (ho : Kd.R (Kd.int .i64) 3 w w0.heap.size P0 u l) (hl : l.length ≤ 12) (h : slices_insertionSortOrdered_int.f k l 0 l.length = some r) :
    Calls Tryz.prog 107 #[u, .int .i64 0, .int .i64 l.length, .int .i64 lim] w fun e w' => e = .returned (.tuple #[]) ∧ Kd.R (Kd.int .i64) 3 w' w0.heap.size (fun k => P0 k ∨ w.heap.size ≤ k) u r ∧ Below w0.heap.size w0 w' ∧ Kept w w' P0 := by
  have HB := am_ hB
  have HO := am_ ho
  have HH := am_ h
  have hd : decide ((l.length : Int) ≤ 12) = true := decide_eq_true (by omega)
  clear hB ho h
  go_enter Tryz.func107, Tryz.ntmps107
  go_wp2_with fail
  refine wp_loop_rounds 1 ?_
  rw [rounds_succ]
  go_wp2_with (go_at_call 113; refine park ?_)
  refine ⟨?_⟩
  refine (slices_insertionSortOrdered_int.calls k P0 u l 0 l.length r w0 w HB.out HO.out HH.out).mono ?_
  rintro e w' ⟨rfl, ho, hb, hk⟩
  go_wp2_with fail
  refine bodyPost_ret (results_none rfl _ _ _) rfl ?_
  exact ⟨rfl, ho, hb, hk⟩
set_option maxRecDepth 100000 in
set_option maxHeartbeats 2000000 in
theorem sort_small (k : Nat) (P0 : Nat → Prop) (u : Value) (l r : List Int) (w0 w : World) (hB : Below w0.heap.size w0 w) (ho : Kd.R (Kd.int .i64) 3 w w0.heap.size P0 u l) (hl : l.length ≤ 12) (h : slices_insertionSortOrdered_int.f k l 0 l.length = some r) :
    Calls Tryz.prog 93 #[u] w fun e w' => e = .returned (.tuple #[]) ∧ Kd.R (Kd.int .i64) 3 w' w0.heap.size (fun k => P0 k ∨ w.heap.size ≤ k) u r ∧ Below w0.heap.size w0 w' ∧ Kept w w' P0 := by
  obtain ⟨A, c, rfl⟩ := Kd.R_slice ho
  have HB := am_ hB
  have HO := am_ ho
  have HH := am_ h
  clear hB ho h
  go_enter Tryz.func93, Tryz.ntmps93
  go_wp2_with (go_at_call 90; refine park ?_)
  refine ⟨?_⟩
  refine (len_small l.length (by omega) (by omega) w).mono ?_
  rintro e w' ⟨lim, rfl, hv0, hv1, rfl⟩
  go_wp2_with (go_at_call 107; refine park ?_)
  refine ⟨?_⟩
  refine (pdq_small k P0 _ l r lim w0 w' HB.out HO.out hl HH.out).mono ?_
  rintro e w2 ⟨rfl, ho, hb, hk⟩
  go_wp2_with fail
  first | go_end0 | refine bodyPost_ret (results_none rfl _ _ _) rfl ?_
  exact ⟨rfl, ho, hb, hk⟩
theorem row_own {w : World} {base : Nat} {v : Value} {zs : List Int} (h : w.ownsRow base 3 1 v zs.length (zs.map (Value.int .i64))) : Kd.R (Kd.int .i64) 3 w base (fun _ => True) v zs := by
  exact Kd.R_of_own h (fun _ _ => trivial)
set_option maxRecDepth 100000 in
set_option maxHeartbeats 2000000 in
theorem collect_holds (zs : List Int) (hlen : zs.length ≤ 1000000) (w : World) (Bs : Nat) (sv : Value) (hBs : Bs < w.heap.size) (hsv : w.cell? ⟨Bs, 0, none⟩ = some sv) (hI : IntsAt w.heap.size w sv zs) :
    Calls Tryz.prog 92 #[.func (.func 94) #[] #[.pointer (some ⟨Bs, 0, none⟩)]] w fun e W' => ∃ v, e = .returned v ∧ Kd.R (Kd.int .i64) 3 W' w.heap.size (fun _ => True) v zs ∧ Below w.heap.size w W' := by
  have hA := callsIn_wide.1 (append_in Fence.wide 3 trivial trivial rfl (by omega) zs hlen w Bs sv hBs hsv hI)
  go_enter Tryz.func92, Tryz.ntmps92
  go_wp2_with (go_at_call 106; refine park ?_)
  refine ⟨?_⟩
  refine hA.mono ?_
  rintro e w' ⟨v, rfl, ho, hb⟩
  go_wp2_with fail
  go_ret
  exact ⟨v, rfl, row_own ho, hb⟩
set_option maxRecDepth 100000 in
set_option maxHeartbeats 2000000 in
theorem sorted_holds (k : Nat) (zs r : List Int) (hlen : zs.length ≤ 12) (h : slices_insertionSortOrdered_int.f k zs 0 zs.length = some r) (w : World) (Bs : Nat) (sv : Value) (hBs : Bs < w.heap.size) (hsv : w.cell? ⟨Bs, 0, none⟩ = some sv) (hI : IntsAt w.heap.size w sv zs) :
    Calls Tryz.prog 86 #[.func (.func 94) #[] #[.pointer (some ⟨Bs, 0, none⟩)]] w fun e W' => ∃ v, e = .returned v ∧ Kd.R (Kd.int .i64) 3 W' w.heap.size (fun _ => True) v r ∧ Below w.heap.size w W' := by
  go_enter Tryz.func86, Tryz.ntmps86
  go_wp2_with (go_at_call 92; refine park ?_)
  refine ⟨?_⟩
  refine (collect_holds zs (by omega) w Bs sv hBs hsv hI).mono ?_
  rintro e w' ⟨v, rfl, ho, hb⟩
  go_wp2_with (go_at_call 93; refine park ?_)
  refine ⟨?_⟩
  refine (sort_small k (fun _ => True) v zs r w w' hb ho hlen h).mono ?_
  rintro e w2 ⟨rfl, ho2, hb2, hk2⟩
  go_wp2_with fail
  go_ret
  exact ⟨v, rfl, Kd.R_mono ho2 (fun _ _ => trivial), hb2⟩
def sorted_int.f (k : Nat) (zs : List Int) : Option (List Int) := if zs.length ≤ 12 then slices_insertionSortOrdered_int.f k zs 0 zs.length else none
theorem sorted_int.mono (zs : List Int) (k : Nat) : LeO (sorted_int.f k zs) (sorted_int.f (k + 1) zs) := by
  unfold sorted_int.f
  split
  · exact slices_insertionSortOrdered_int.mono _ _ _ _
  · exact LeO.none _
theorem sorted_int.calls (k : Nat) (zs r : List Int) (w : World) (Bs : Nat) (sv : Value) (hBs : Bs < w.heap.size) (hsv : w.cell? ⟨Bs, 0, none⟩ = some sv) (hI : IntsAt w.heap.size w sv zs) (h : sorted_int.f k zs = some r) :
    Calls Tryz.prog 86 #[.func (.func 94) #[] #[.pointer (some ⟨Bs, 0, none⟩)]] w fun e W' => ∃ v, e = .returned v ∧ Kd.R (Kd.int .i64) 3 W' w.heap.size (fun _ => True) v r ∧ Below w.heap.size w W' := by
  unfold sorted_int.f at h
  split at h
  · rename_i hl
    exact sorted_holds k zs r hl h w Bs sv hBs hsv hI
  · cases h
theorem ints_of_C {w : World} {A : Option Addr} {zs : List Int} {c : Nat} (h : Kd.C (Kd.int .i64) w A zs.length zs) : IntsAt w.heap.size w (.slice A zs.length c) zs := by
  refine ⟨A, c, rfl, fun hz => ?_⟩
  obtain ⟨ad, e, hc⟩ := h.2.2 hz
  have hcell : ∀ j, j < zs.length → w.cell? (ad.add j) = some (.int .i64 (zs[j]?.getD 0)) := by
    intro j hj
    obtain ⟨cs, hs, hr, hcc⟩ := hc j _ (List.getElem?_eq_getElem hj)
    have hr' : cs = [Value.int .i64 zs[j]] := hr
    subst hr'
    have := hcc 0 _ rfl
    rw [show j * (Kd.int .i64).sz + 0 = j by show j * 1 + 0 = j; omega] at this
    rw [this, List.getElem?_eq_getElem hj]; rfl
  exact ⟨ad, e, by have := World.block_lt_of_cell? w _ (hcell 0 hz); rwa [Go.Proofs.YtmkchdlkpbnldaaGreatDoorW.PrintWords.add_block] at this, hcell⟩
set_option maxRecDepth 100000 in
set_option maxHeartbeats 2000000 in
theorem values_holds (A : Option Addr) (c : Nat) (zs : List Int) (w : World) (h : Kd.C (Kd.int .i64) w A zs.length zs) :
    Calls Tryz.prog 87 #[.slice A zs.length c] w fun e w' => ∃ B, e = .returned (.func (.func 94) #[] #[.pointer (some ⟨B, 0, none⟩)]) ∧ B < w'.heap.size ∧ w'.cell? ⟨B, 0, none⟩ = some (.slice A zs.length c) ∧ IntsAt w'.heap.size w' (.slice A zs.length c) zs ∧ Below w.heap.size w w' := by
  have hI := am_ (ints_of_C (c := c) h)
  have hI2 := am_ (ints_of_C (c := c) (Kd.C_alloc h (.cells #[.slice A zs.length c] 33)))
  clear h
  go_enter Tryz.func87, Tryz.ntmps87
  go_wp2_with fail
  go_ret
  refine ⟨w.heap.size, rfl, by simp, ?_, hI2.out, below_alloc (Below.refl _ _) _⟩
  exact (Boxed.new w 33 (.slice A zs.length c)).cell
end Go.Proofs.YtmkchdlkpbnldaaGreatDoor.PB
