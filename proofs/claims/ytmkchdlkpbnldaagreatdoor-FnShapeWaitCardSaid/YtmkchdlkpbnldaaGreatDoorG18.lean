/- What the laws share, part 18: Pick Has. -/
import Derived.Test.YtmkchdlkpbnldaaGreatDoorG9
import Derived.Laws.BitsLemmas
import Derived.Test.YtmkchdlkpbnldaaGreatDoorG4
import Derived.Test.YtmkchdlkpbnldaaGreatDoorG5
import Derived.Test.YtmkchdlkpbnldaaGreatDoorG11
import Derived.Test.YtmkchdlkpbnldaaGreatDoorG12
namespace Go.Proofs.YtmkchdlkpbnldaaGreatDoor.Pure
open Go.RowKit Go.Proofs.YtmkchdlkpbnldaaGreatDoor.PB Go.Proofs.YtmkchdlkpbnldaaGreatDoorW.PrintWords Go.Proofs.YtmkchdlkpbnldaaGreatDoorW.PrintLast
theorem w64 {x : Int} (h0 : -9223372036854775808 ≤ x) (h1 : x < 9223372036854775808) : wrap64 x = x := by unfold wrap64; omega
theorem tmod_lt {a b : Int} (ha : 0 ≤ a) (hb : 0 < b) : 0 ≤ Int.tmod a b ∧ Int.tmod a b < b :=
  ⟨Int.tmod_nonneg _ ha, Int.tmod_lt_of_pos _ hb⟩
theorem xor_nonneg {x y : Int} (hx : 0 ≤ x) (hx1 : x < 4611686018427387904) (hy : 0 ≤ y) (hy1 : y < 4611686018427387904) : 0 ≤ Go.bits .xor .i64 x y := by
  obtain ⟨a, rfl⟩ := Int.eq_ofNat_of_zero_le hx
  obtain ⟨b, rfl⟩ := Int.eq_ofNat_of_zero_le hy
  have hp : (2 : Nat) ^ IntKind.i64.bits = 18446744073709551616 := by decide
  have ha' : a % 2 ^ IntKind.i64.bits = a := Nat.mod_eq_of_lt (by rw [hp]; omega)
  have hb' : b % 2 ^ IntKind.i64.bits = b := Nat.mod_eq_of_lt (by rw [hp]; omega)
  simp only [Go.bits, BitVec.ofInt_natCast, BitVec.toNat_xor, BitVec.toNat_ofNat, ha', hb']
  have hx2 : a ^^^ b < 2 ^ 62 := Nat.xor_lt_two_pow (by omega) (by omega)
  generalize a ^^^ b = c at *
  rw [IntKind.wrap_i64]
  omega
theorem tdiv_le {a b : Int} (ha : 0 ≤ a) (hb : 0 < b) : 0 ≤ Int.tdiv a b ∧ Int.tdiv a b ≤ a := by
  rw [Int.tdiv_eq_ediv_of_nonneg ha]
  exact ⟨Int.ediv_nonneg ha (by omega), Int.ediv_le_self _ ha⟩
theorem rd_u8 {b : List Int} (hb : ∀ x ∈ b, 0 ≤ x ∧ x ≤ 255) (i : Int) : 0 ≤ rd b i ∧ rd b i ≤ 255 := by
  unfold rd
  rw [List.getD_eq_getElem?_getD]
  rcases h : b[i.toNat]? with _ | v
  · simp
  · simpa using hb v (List.mem_of_getElem? h)
theorem pick_some (k : Nat) (b : List Int) (p n : Int) (hl : b.length ≤ 2000) (hb : ∀ x ∈ b, 0 ≤ x ∧ x ≤ 255) (h0 : 0 ≤ p) (hp : p ≤ 100000000) :
    ∃ r, spec_l6Rd_pick.f (k + 1) b p n = some (r, p + 1) ∧ 0 ≤ r ∧ (1 ≤ n → r < n) ∧ (n < 1 → r = 0) := by
  unfold spec_l6Rd_pick.f
  have e1 : wrap64 (p + 1) = p + 1 := w64 (by omega) (by omega)
  have e2 : wrap64 (p + 1 - 1) = p := by rw [w64 (by omega) (by omega)]; omega
  rw [e1]
  by_cases hn : n < 1
  · rw [if_pos hn]
    exact ⟨0, by simp [spec_l6Rd_pick.j0], by omega, by omega, fun _ => rfl⟩
  rw [if_neg hn]
  by_cases hz : b.length = 0
  · rw [show ((b.length : Int) == 0) = true by simp; exact List.eq_nil_of_length_eq_zero hz]
    exact ⟨0, by simp [spec_l6Rd_pick.j0], by omega, by omega, fun _ => rfl⟩
  rw [show ((b.length : Int) == 0) = false by simp; intro h; exact hz (by rw [h]; rfl)]
  simp only [spec_l6Rd_pick.j0, e2]
  rw [if_neg (by simp)]
  by_cases hc : p < (b.length : Int)
  · rw [if_pos hc, if_pos h0, if_neg (by omega)]
    have hr := rd_u8 hb p
    rw [w64 (x := rd b p) (by omega) (by omega)]
    have := tmod_lt hr.1 (show 0 < n by omega)
    exact ⟨_, rfl, this.1, fun _ => this.2, fun h => absurd h hn⟩
  · have hL : 0 < (b.length : Int) := by omega
    have m1 := tmod_lt h0 hL
    have e3 : wrap64 (p * 7) = p * 7 := w64 (by omega) (by omega)
    have e4 : wrap64 (p * 7 + 3) = p * 7 + 3 := w64 (by omega) (by omega)
    have m2 := tmod_lt (show 0 ≤ p * 7 + 3 by omega) hL
    rw [if_neg hc, if_neg (by omega), if_pos m1.1, if_pos m1.2, e3, e4, if_pos m2.1, if_pos m2.2, if_neg (by omega)]
    generalize Int.tmod p (b.length : Int) = i at *
    generalize Int.tmod (p * 7 + 3) (b.length : Int) = j at *
    have r1 := rd_u8 hb i
    have r2 := rd_u8 hb j
    have d1 := tdiv_le h0 hL
    generalize rd b i = x at *
    generalize rd b j = y at *
    generalize Int.tdiv p (b.length : Int) = z at *
    have a1 : wrap64 x = x := w64 (by omega) (by omega)
    have a2 : wrap64 (x * 131) = x * 131 := w64 (by omega) (by omega)
    have a3 : wrap64 y = y := w64 (by omega) (by omega)
    have a4 : wrap64 (y * 1117) = y * 1117 := w64 (by omega) (by omega)
    have a5 : wrap64 (x * 131 + y * 1117) = x * 131 + y * 1117 := w64 (by omega) (by omega)
    have a6 : wrap64 (p * 29) = p * 29 := w64 (by omega) (by omega)
    have a7 : wrap64 (x * 131 + y * 1117 + p * 29) = x * 131 + y * 1117 + p * 29 := w64 (by omega) (by omega)
    have a8 : wrap64 z = z := w64 (by omega) (by omega)
    have a9 : wrap64 (z * 53) = z * 53 := w64 (by omega) (by omega)
    have b1 : wrap64 (x * 131 + y * 1117 + p * 29 + z * 53) = x * 131 + y * 1117 + p * 29 + z * 53 := w64 (by omega) (by omega)
    rw [a1, a2, a3, a4, a5, a6, a7, a8, a9, b1]
    have hs : 0 ≤ x * 131 + y * 1117 + p * 29 + z * 53 := by omega
    have hs1 : x * 131 + y * 1117 + p * 29 + z * 53 < 4611686018427387904 := by omega
    generalize x * 131 + y * 1117 + p * 29 + z * 53 = s at *
    have d2 := tdiv_le hs (show (0 : Int) < 64 by omega)
    rw [w64 (x := Int.tdiv s 64) (by omega) (by omega)]
    have := tmod_lt (xor_nonneg hs hs1 d2.1 (by omega)) (show 0 < n by omega)
    exact ⟨_, rfl, this.1, fun _ => this.2, fun h => absurd h hn⟩
end Go.Proofs.YtmkchdlkpbnldaaGreatDoor.Pure
namespace Go.Proofs.YtmkchdlkpbnldaaGreatDoor.PB
open Go.RowKit Go.Proofs.YtmkchdlkpbnldaaGreatDoorW.PrintWords Go.Proofs.YtmkchdlkpbnldaaGreatDoorW.PrintLast Go.Proofs.YtmkchdlkpbnldaaGreatDoorW.PrintMore
open Go.Proofs.YtmkchdlkpbnldaaGreatDoorMine
set_option linter.unusedVariables false
set_option linter.unusedSimpArgs false
theorem box2 (w : World) (o p : Obj) : ∃ w2, (w.alloc o).alloc p = w2 ∧ Aside0 (w2.heap[w.heap.size]? = some o) ∧ Aside0 (w2.heap[w.heap.size + 1]? = some p) ∧ Aside0 (Below w.heap.size w w2) :=
  ⟨_, rfl, ⟨blk_alloc (heap_alloc_new w o) p⟩, ⟨by have := heap_alloc_new (w.alloc o) p; simpa using this⟩, ⟨below_alloc (below_alloc (Below.refl _ _) o) p⟩⟩
set_option maxHeartbeats 8000000 in
set_option maxRecDepth 100000 in
theorem has_try (k : Nat) (A0 : Option Addr) (c0 : Nat) (l0 : List (List S45)) (A1 : Option Addr) (c1 : Nat) (l1 : List S87) (A2 : Option Addr) (c2 : Nat) (l2 : List S45) (A3 : Option Addr) (c3 : Nat) (x0 : List Int) (A4 : Option Addr) (c4 : Nat) (x1 : List (List Int)) (kd a b : Int) (w : World)
    (hr0 : Kd.C (Kd.slice 45 k45) w A0 l0.length l0) (hc0 : l0.length ≤ c0) (hr1 : Kd.C k87 w A1 l1.length l1) (hc1 : l1.length ≤ c1) (hr2 : Kd.C k45 w A2 l2.length l2) (hc2 : l2.length ≤ c2) (hr3 : Kd.C (Kd.int .i64) w A3 x0.length x0) (hc3 : x0.length ≤ c3) (hr4 : Kd.C (Kd.slice 3 (Kd.int .i64)) w A4 x1.length x1) (hc4 : x1.length ≤ c4)
    (o v : Bool) (ho : impl_scene_own.f l0 l1 l2 a b = some o) (hv : impl_scene_over.f k l0 l1 l2 x0 x1 a b = some v) (ha : 0 ≤ a ∧ a < l1.length) (hb : 0 ≤ b ∧ b < l1.length) (hb3 : b < x0.length) (ha5 : a < l2.length) (hb7 : b < l2.length) (wa rb q r ap : Bool) (hr : (rd x0 b == a) = r) (hap : ((rd_T87 l1 a).f0 != (rd_T87 l1 b).f0) = ap) (hwa : impl_Do_writes.f (rd_T45 l2 a).f0 (rd_T45 l2 a).f1 (rd_T45 l2 a).f2 = some wa) (hrb : impl_Do_reads.f (rd_T45 l2 b).f0 (rd_T45 l2 b).f1 (rd_T45 l2 b).f2 = some rb) (hq : kd ≠ 1 → kd ≠ 2 → o = true → impl_scene_loose.f k l0 l1 l2 a b = some q) :
    Calls Tryz.prog 55 #[.agg #[.slice A0 l0.length c0, .slice A1 l1.length c1, .slice A2 l2.length c2], .agg #[.slice A3 x0.length c3, .slice A4 x1.length c4], .int .i64 kd, .int .i64 a, .int .i64 b] w fun e w' => e = .returned (.bool (if kd = 1 then o || r || v else if kd = 2 then o && !(wa && rb) || r && ap || v else o && q || (r || v) && ap)) ∧ Below w.heap.size w w' := by
  have Hq := am_ hq; have Hhwa := am_ hwa; have Hhrb := am_ hrb; have Hv := am_ hv; have Ho := am_ ho; have Hr := am_ hr; have Hap := am_ hap; clear hr hap hq hwa hrb hv ho
  have H0 := am_ hr0; have H1 := am_ hr1; have H2 := am_ hr2; have H3 := am_ hr3; have H4 := am_ hr4
  clear hr0 hr1 hr2 hr3 hr4
  go_enter Tryz.func55, Tryz.ntmps55
  go_wp2_with fail
  obtain ⟨ad3, rfl, hx⟩ := Kd.at_int H3.out b hb.1 hb3
  obtain ⟨w2, hw2, BK0, BK1, HB⟩ := box2 w (Obj.cells #[Value.slice A0 l0.length c0, Value.slice A1 l1.length c1, Value.slice A2 l2.length c2] 59) (Obj.cells #[Value.slice (some ad3) x0.length c3, Value.slice A4 x1.length c4] 65)
  rw [hw2]
  clear hw2
  have BK0 := am_ (blk_drew BK0.out)
  have BK1 := am_ (blk_drew BK1.out)
  have HB := am_ (below_drew1 HB.out)
  have p0 := cf0 BK0.out
  have p1 := cf1 BK0.out
  have p2 := cf2 BK0.out
  have p3 := cf0 BK1.out
  have p4 := cf1 BK1.out
  have p5 := (HB.out.cell (World.block_lt_of_cell? w _ hx)).trans hx
  clear hx
  have hb1 := eq_true hb.1
  have hb2 := eq_true hb3
  go_region_held3 (fun W => W.cell? ⟨w.heap.size, 0, none⟩ = some (.slice A0 l0.length c0) ∧ W.cell? ⟨w.heap.size, 1, none⟩ = some (.slice A1 l1.length c1) ∧ W.cell? ⟨w.heap.size, 2, none⟩ = some (.slice A2 l2.length c2) ∧ W.cell? ⟨w.heap.size + 1, 0, none⟩ = some (.slice (some ad3) x0.length c3) ∧ W.cell? ⟨w.heap.size + 1, 1, none⟩ = some (.slice A4 x1.length c4) ∧ W.cell? (ad3.add b.toNat) = some (.int .i64 (rd x0 b))) (go_keep)
    (first
      | (go_at_call 51; (with_reducible refine (impl_scene_own.calls A0 c0 l0 A1 c1 l1 A2 c2 l2 a b o _ (Kd.C_below H0.out HB.out) hc0 (Kd.C_below H1.out HB.out) hc1 (Kd.C_below H2.out HB.out) hc2 Ho.out).mono ?_); rintro e w3 ⟨rfl, hb3⟩; replace p0 := pw_cell_below hb3 p0; replace p1 := pw_cell_below hb3 p1; replace p2 := pw_cell_below hb3 p2; replace p3 := pw_cell_below hb3 p3; replace p4 := pw_cell_below hb3 p4; replace p5 := pw_cell_below hb3 p5; replace HB := am_ (below_step HB.out hb3); replace BK0 := am_ (blk_below BK0.out hb3); replace BK1 := am_ (blk_below BK1.out hb3); clear hb3)
      | (go_at_call 52; (with_reducible refine (impl_scene_over.calls k A0 c0 l0 A1 c1 l1 A2 c2 l2 (some ad3) c3 x0 A4 c4 x1 a b v _ (Kd.C_below H0.out HB.out) hc0 (Kd.C_below H1.out HB.out) hc1 (Kd.C_below H2.out HB.out) hc2 (Kd.C_below H3.out HB.out) hc3 (Kd.C_below H4.out HB.out) hc4 Hv.out).mono ?_); rintro e w4 ⟨rfl, hb3⟩; replace p0 := pw_cell_below hb3 p0; replace p1 := pw_cell_below hb3 p1; replace p2 := pw_cell_below hb3 p2; replace p3 := pw_cell_below hb3 p3; replace p4 := pw_cell_below hb3 p4; replace p5 := pw_cell_below hb3 p5; replace HB := am_ (below_step HB.out hb3); replace BK0 := am_ (blk_below BK0.out hb3); replace BK1 := am_ (blk_below BK1.out hb3); clear hb3))
  obtain ⟨ad1, rfl, hx0, _, _⟩ := at_T87 H1.out a ha.1 ha.2
  obtain ⟨ad1', he, hy0, _, _⟩ := at_T87 H1.out b hb.1 hb.2
  obtain rfl : ad1 = ad1' := by injection he
  clear he
  have q0 := (HB.out.cell (World.block_lt_of_cell? w _ hx0)).trans hx0
  have q1 := (HB.out.cell (World.block_lt_of_cell? w _ hy0)).trans hy0
  clear hx0 hy0
  have ha1 := eq_true ha.1
  have ha2 := eq_true ha.2
  have hb4 := eq_true hb.2
  rw [Hr.out]
  go_wp2_with fail
  go_quiet (fail)
  have HB := am_ (pw_below_drewN HB.out nq)
  have BK0 := am_ (blk_drewN BK0.out nq)
  have BK1 := am_ (blk_drewN BK1.out nq)
  generalize w4.drewN nq = w5 at *
  rw [Hap.out]
  obtain ⟨ad2, rfl, hx0, hx1, hx2⟩ := at_T45 H2.out a ha.1 ha5
  obtain ⟨ad2', he, hy0, hy1, hy2⟩ := at_T45 H2.out b hb.1 hb7
  obtain rfl : ad2 = ad2' := by injection he
  clear he q0 q1
  have q0 := (HB.out.cell (World.block_lt_of_cell? w _ hx0)).trans hx0
  have q1 := (HB.out.cell (World.block_lt_of_cell? w _ hx1)).trans hx1
  have q2 := (HB.out.cell (World.block_lt_of_cell? w _ hx2)).trans hx2
  have q3 := (HB.out.cell (World.block_lt_of_cell? w _ hy0)).trans hy0
  have q4 := (HB.out.cell (World.block_lt_of_cell? w _ hy1)).trans hy1
  have q5 := (HB.out.cell (World.block_lt_of_cell? w _ hy2)).trans hy2
  clear hx0 hx1 hx2 hy0 hy1 hy2
  have ha3 := eq_true ha5
  have hb5 := eq_true hb7
  have p0 := cf0 BK0.out
  have p1 := cf1 BK0.out
  have p2 := cf2 BK0.out
  have p3 := cf0 BK1.out
  have p4 := cf1 BK1.out
  by_cases k1 : kd = 1
  · subst k1
    go_wp2_with fail
    all_goals (go_ret; refine ⟨?_, HB.out⟩; cases o <;> cases r <;> cases ap <;> cases v <;> cases wa <;> cases rb <;> first | rfl | contradiction)
  · by_cases k2 : kd = 2
    · subst k2
      go_wp2_with (first
        | (go_at_call 41; (with_reducible refine (impl_Do_writes.calls _ _ _ wa _ Hhwa.out).mono ?_); rintro e w6 ⟨rfl, hb6⟩; replace p2 := pw_cell_below hb6 p2; replace q3 := pw_cell_below hb6 q3; replace q4 := pw_cell_below hb6 q4; replace q5 := pw_cell_below hb6 q5; replace HB := am_ (below_step HB.out hb6); clear hb6)
        | (go_at_call 40; (with_reducible refine (impl_Do_reads.calls _ _ _ rb _ Hhrb.out).mono ?_); rintro e w7 ⟨rfl, hb6⟩; replace HB := am_ (below_step HB.out hb6); clear hb6))
      all_goals (go_ret; refine ⟨?_, HB.out⟩; cases o <;> cases r <;> cases ap <;> cases v <;> cases wa <;> cases rb <;> first | rfl | contradiction)
    · have k3 : ((kd == 1) : Bool) = false := by simpa using k1
      have k4 : ((kd == 2) : Bool) = false := by simpa using k2
      have HQ := am_ (Hq.out k1 k2)
      go_wp2_with (first
        | (go_at_call 72; (with_reducible refine (impl_scene_loose.calls k _ _ l0 _ _ l1 _ _ l2 a b q _ (Kd.C_below H0.out HB.out) hc0 (Kd.C_below H1.out HB.out) hc1 (Kd.C_below H2.out HB.out) hc2 (HQ.out ‹o = true›)).mono ?_); rintro e w6 ⟨rfl, hb6⟩; replace HB := am_ (below_step HB.out hb6); clear hb6))
      all_goals (go_ret; refine ⟨?_, HB.out⟩; cases o <;> cases r <;> cases ap <;> cases v <;> cases wa <;> cases rb <;> first | rfl | contradiction)
end Go.Proofs.YtmkchdlkpbnldaaGreatDoor.PB
