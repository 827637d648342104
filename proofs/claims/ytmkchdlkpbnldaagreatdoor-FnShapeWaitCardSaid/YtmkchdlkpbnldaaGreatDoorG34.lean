/- What the laws share, part 34: OrderAll LpOdd PureShape. -/
import Derived.Test.YtmkchdlkpbnldaaGreatDoorG33
import Derived.Test.YtmkchdlkpbnldaaGreatDoorG32
import Derived.Test.YtmkchdlkpbnldaaGreatDoorG21
import Derived.Test.YtmkchdlkpbnldaaGreatDoorG8
import Derived.Test.YtmkchdlkpbnldaaGreatDoorG22
import Derived.Test.YtmkchdlkpbnldaaGreatDoorG31
import Derived.Test.YtmkchdlkpbnldaaGreatDoorG20
import Derived.Test.YtmkchdlkpbnldaaGreatDoorG28
import Derived.Test.YtmkchdlkpbnldaaGreatDoorG9
import Derived.Test.YtmkchdlkpbnldaaGreatDoorG15
import Derived.Test.YtmkchdlkpbnldaaGreatDoorG10
import Derived.Test.YtmkchdlkpbnldaaGreatDoorG30
import Derived.KernelRfl
namespace Go.Proofs.YtmkchdlkpbnldaaGreatDoor.PB
open Go.RowKit Go.Proofs.YtmkchdlkpbnldaaGreatDoorW.PrintWords Go.Proofs.YtmkchdlkpbnldaaGreatDoorW.PrintLast Go.Proofs.YtmkchdlkpbnldaaGreatDoorW.PrintMore
open Go.Proofs.YtmkchdlkpbnldaaGreatDoorMine
set_option linter.unusedVariables false
set_option linter.unusedSimpArgs false
def ordA (k : Nat) (sc : List (List S45) × List S87 × List S45) (os : List S65) (kd : Int) : Nat → Option (List S35)
  | 0 => some []
  | n + 1 => (ordA k sc os kd n).bind fun acc => (settled_f k sc.1 sc.2.1 sc.2.2 (rd_T65 os n).f0 (rd_T65 os n).f1 kd).bind fun b => if b = true then (impl_scene_seen.f k sc.1 sc.2.1 sc.2.2 (rd_T65 os n).f0 (rd_T65 os n).f1).bind fun s => some (acc ++ [⟨s.1, s.2⟩]) else some acc
def orderAll_f (k : Nat) (l : List (List S45)) (kd : Int) : Option (List S35) :=
  (impl_ProgOk.f k l).bind fun ok => if ok = false then some [] else
  (impl_isOrder.f kd).bind fun ik => if ik = false then some [] else
  (impl_sceneOf.f k l).bind fun sc => (impl_scene_all.f k sc.1 sc.2.1 sc.2.2).bind fun os =>
  if os.length ≤ 1000000 then (ordA k sc os kd os.length).bind fun acc => if ∀ x ∈ acc, x.f0.length < 1000000 ∧ x.f1.length < 1000000 then some (sortX acc) else none else none
theorem ordA_some {k : Nat} {sc : List (List S45) × List S87 × List S45} {os : List S65} {kd : Int} {n : Nat} {r : List S35} (h : ordA k sc os kd n = some r) : ∀ j, j ≤ n → ∃ acc, ordA k sc os kd j = some acc := by
  induction n generalizing r with
  | zero => intro j hj; (obtain rfl : j = 0 := (by omega)); exact ⟨_, h⟩
  | succ n ih =>
    intro j hj
    obtain ⟨acc, ha, _⟩ := Option.bind_eq_some_iff.mp h
    rcases Nat.lt_or_ge n j with hlt | hge
    · obtain rfl : j = n + 1 := (by omega)
      exact ⟨_, h⟩
    · exact ih ha j hge
theorem ordA_len {k : Nat} {sc : List (List S45) × List S87 × List S45} {os : List S65} {kd : Int} : ∀ {n : Nat} {r : List S35}, ordA k sc os kd n = some r → r.length ≤ n := by
  intro n
  induction n with
  | zero => intro r h; injection h with h; subst h; simp
  | succ n ih =>
    intro r h
    obtain ⟨acc, ha, h⟩ := Option.bind_eq_some_iff.mp h
    obtain ⟨b, hb, h⟩ := Option.bind_eq_some_iff.mp h
    have := ih ha
    split at h
    · obtain ⟨s, hs, h⟩ := Option.bind_eq_some_iff.mp h
      injection h with h; subst h; simp; omega
    · injection h with h; subst h; omega
def SeenOut (r : List S35) (w : World) (e : Ending) (w' : World) : Prop := ∃ A c, e = .returned (.slice A r.length c) ∧ r.length ≤ c ∧ Kd.C k35 w' A r.length r ∧ Below w.heap.size w w'
theorem seenOut_none {w w' : World} (h : Below w.heap.size w w') : SeenOut [] w (.returned (.slice none 0 0)) w' := ⟨none, 0, rfl, Nat.le_refl _, (Kd.R_reads' (Kd.R_nil k35 35 w' 0 (fun _ => True))).2.2, h⟩
set_option maxHeartbeats 8000000 in
set_option maxRecDepth 100000 in
theorem orderAll_calls (k : Nat) (P : Nat → Prop) (A : Option Addr) (c : Nat) (l : List (List S45)) (kd : Int) (r : List S35) (w : World)
    (hs : Kd.V (Kd.slice 45 k45) 42 w w.heap.size (fun k => P k) (.slice A l.length c) l) (h : orderAll_f k l kd = some r) (hT : Tab w) :
    Calls Tryz.prog 13 #[.agg #[.slice A l.length c], .int .i64 kd] w (SeenOut r w) := by
  unfold orderAll_f at h
  obtain ⟨ok, hok, h⟩ := Option.bind_eq_some_iff.mp h
  have HS := am_ hs; have HT := am_ hT; have OK := am_ hok
  obtain ⟨_, hlc, hC⟩ := Kd.V_reads' hs
  have HC := am_ hC
  clear hs hT hok hC
  obtain ⟨W1, hW, HB, BK, SZ⟩ := box1 w (.cells #[.slice A l.length c] 27)
  have p0 := cf0 BK.out
  go_enter Tryz.func13, Tryz.ntmps13
  go_wp2_with (go_at_call 24; refine park ?_)
  refine ⟨?_⟩
  refine (impl_ProgOk.calls k A c l ok _ (Kd.C_below HC.out HB.out) hlc OK.out).mono ?_
  rintro e w2 ⟨rfl, hb2⟩
  have BK := am_ (blk_below BK.out hb2)
  have HB := am_ (below_step HB.out hb2)
  have p0 := cf0 BK.out
  clear hb2 hW SZ
  dsimp only
  cases ok
  · obtain rfl : [] = r := Option.some.inj h
    go_wp2_with fail
    go_ret
    exact seenOut_none HB.out
  · obtain ⟨ik, hik, h⟩ := Option.bind_eq_some_iff.mp (show ((impl_isOrder.f kd).bind fun ik => if ik = false then some [] else
      (impl_sceneOf.f k l).bind fun sc => (impl_scene_all.f k sc.1 sc.2.1 sc.2.2).bind fun os =>
      if os.length ≤ 1000000 then (ordA k sc os kd os.length).bind fun acc => if ∀ x ∈ acc, x.f0.length < 1000000 ∧ x.f1.length < 1000000 then some (sortX acc) else none else none) = some r from h)
    have IK := am_ hik
    clear hik
    go_wp2_with (go_at_call 25; refine park ?_)
    refine ⟨?_⟩
    refine (impl_isOrder.calls kd ik _ IK.out).mono ?_
    rintro e w3 ⟨rfl, hb3⟩
    have BK := am_ (blk_below BK.out hb3.below)
    have HB := am_ (below_step HB.out hb3.below)
    have p0 := cf0 BK.out
    clear hb3
    dsimp only
    cases ik
    · obtain rfl : [] = r := Option.some.inj h
      go_wp2_with fail
      go_ret
      exact seenOut_none HB.out
    · obtain ⟨⟨s0, s1, s2⟩, hsc, h⟩ := Option.bind_eq_some_iff.mp (show ((impl_sceneOf.f k l).bind fun sc => (impl_scene_all.f k sc.1 sc.2.1 sc.2.2).bind fun os =>
        if os.length ≤ 1000000 then (ordA k sc os kd os.length).bind fun acc => if ∀ x ∈ acc, x.f0.length < 1000000 ∧ x.f1.length < 1000000 then some (sortX acc) else none else none) = some r from h)
      obtain ⟨os, hos, h⟩ := Option.bind_eq_some_iff.mp h
      dsimp only at hos h
      split at h
      case isFalse => cases h
      rename_i hln
      obtain ⟨acc, hacc, h⟩ := Option.bind_eq_some_iff.mp h
      split at h
      case isFalse => cases h
      rename_i hsh
      injection h with h
      subst h
      have SC := am_ hsc; have OS := am_ hos; have AC := am_ hacc; have SH := am_ hsh
      clear hsc hos hacc hsh
      have hV : Kd.V (Kd.slice 45 k45) 42 w3 w.heap.size (fun k => P k) (.slice A l.length c) l := Kd.V_below HS.out HB.out
      have hV3 : Kd.V (Kd.slice 45 k45) 42 w3 w3.heap.size (fun k => P k) (.slice A l.length c) l := hV
      go_wp2_with (go_at_call 26; refine park ?_)
      refine ⟨?_⟩
      refine (impl_sceneOf.calls k P A c l s0 s1 s2 w3 hV3 SC.out).mono ?_
      rintro e w4 ⟨v0, v1, v2, rfl, hv0, hv1, hv2, hb4⟩
      obtain ⟨A0, c0, rfl, hc0, hF0⟩ := hv0
      obtain ⟨A1, c1, rfl, hc1, hC1⟩ := Kd.R_reads hv1
      obtain ⟨A2, c2, rfl, hc2, hC2⟩ := Kd.R_reads hv2
      have HB := am_ (below_step HB.out hb4)
      have H0 := am_ (Kd.F_now hF0); have H1 := am_ hC1; have H2 := am_ hC2
      clear hF0 hC1 hC2 hv1 hv2 hb4 p0 BK OK IK
      dsimp only
      go_wp2_with (go_at_call 27; refine park ?_)
      refine ⟨?_⟩
      obtain ⟨W4, hW4, HB4, BK, SZ4⟩ := box1 w4 (.cells #[.slice A0 s0.length c0, .slice A1 s1.length c1, .slice A2 s2.length c2] 59)
      rw [hW4]
      refine (impl_scene_all.calls k A0 c0 s0 A1 c1 s1 A2 c2 s2 os _ (Kd.C_below H0.out HB4.out) hc0 (Kd.C_below H1.out HB4.out) hc1 (Kd.C_below H2.out HB4.out) hc2 OS.out).mono ?_
      rintro e w5 ⟨v5, rfl, hv5, hb5⟩
      obtain ⟨A5, c5, rfl, hc5, hC5⟩ := Kd.N_reads hv5
      have BK := am_ (blk_below BK.out hb5)
      have HB4 := am_ (below_step HB4.out hb5)
      have HB := am_ (below_step HB.out HB4.out)
      have H0 := am_ (Kd.C_below H0.out HB4.out); have H1 := am_ (Kd.C_below H1.out HB4.out); have H2 := am_ (Kd.C_below H2.out HB4.out); have H5 := am_ hC5
      have HT := am_ (Tab.below HT.out HB.out)
      clear hC5 hv5 hb5 hW4 SZ4 HB4
      dsimp only
      go_wp2_with fail
      go_loopg [6, 24] os.length (fun kq v6 v24 w' => ∃ (i : Nat) (ac : List S35), v24 = .int .i64 i ∧ Aside0 (i + kq = os.length) ∧ Aside0 (ordA k (s0, s1, s2) os kd i = some ac) ∧ Aside0 (Kd.R k35 35 w' w5.heap.size (fun _ => True) v6 ac) ∧ Aside0 (Below w5.heap.size w5 w'))
      case atStart => exact ⟨0, [], rfl, ⟨by omega⟩, ⟨rfl⟩, ⟨Kd.R_nil _ _ _ _ _⟩, ⟨Below.refl _ _⟩⟩
      case round =>
        obtain ⟨i, ac, rfl, HL, HA, HO, HBL⟩ := hrel
        by_cases hlt : i < os.length
        · obtain ⟨ad5, A6, c6, A7, c7, rfl, x0, x1, l6, g6, l7, g7⟩ := at_T65 H5.out i (by omega) (by omega)
          simp only [Int.toNat_natCast] at x0 x1
          have y0 := (HBL.out.cell (World.block_lt_of_cell? w5 _ x0)).trans x0
          have y1 := (HBL.out.cell (World.block_lt_of_cell? w5 _ x1)).trans x1
          have BKr := am_ (blk_below BK.out HBL.out)
          have p0 := cf0 BKr.out
          have p1 := cf1 BKr.out
          have p2 := cf2 BKr.out
          have hk1 : (i : Int) < os.length := by omega
          obtain ⟨ac', hA'⟩ := ordA_some AC.out (i + 1) (by omega)
          have hA2 := hA'
          simp only [ordA, HA.out, Option.bind_some] at hA2
          obtain ⟨b, hb, hA3⟩ := Option.bind_eq_some_iff.mp hA2
          have HA' := am_ hA'; have SB := am_ hb; have HA3 := am_ hA3
          have G6 := am_ (Kd.C_below g6 HBL.out); have G7 := am_ (Kd.C_below g7 HBL.out)
          clear x0 x1 hA' hA2 hb hA3 g6 g7
          clear p0 p1 p2 BKr
          go_wp2_with ((with_reducible refine gate_dst (N := 29) rfl ?_); refine park ?_)
          refine ⟨?_⟩
          obtain ⟨W6, hW6, HB6, BK6, SZ6⟩ := box1 wr (.cells #[.slice A6 (rd_T65 os i).f0.length c6, .slice A7 (rd_T65 os i).f1.length c7] 65)
          rw [hW6]
          have HO6 := am_ (Kd.R_below HO.out HB6.out)
          have HBL := am_ (below_step HBL.out HB6.out)
          have G6 := am_ (Kd.C_below G6.out HB6.out); have G7 := am_ (Kd.C_below G7.out HB6.out)
          have BKr := am_ (blk_below BK.out HBL.out)
          have p0 := cf0 BKr.out
          have p1 := cf1 BKr.out
          have p2 := cf2 BKr.out
          have p3 := cf0 BK6.out
          have p4 := cf1 BK6.out
          clear HO HB6 hW6 SZ6 y0 y1
          go_wp2_with (go_at_call 28; refine park ?_)
          refine ⟨?_⟩
          refine (settled_calls k A0 c0 s0 A1 c1 s1 A2 c2 s2 A6 c6 (rd_T65 os i).f0 A7 c7 (rd_T65 os i).f1 kd b W6 (Kd.C_below H0.out HBL.out) hc0 (Kd.C_below H1.out HBL.out) hc1 (Kd.C_below H2.out HBL.out) hc2 G6.out l6 G7.out l7 SB.out (Tab.below HT.out HBL.out)).mono ?_
          rintro e w7 ⟨⟨v7, rfl⟩, hb7⟩
          have HO7 := am_ (Kd.R_below HO6.out hb7)
          have HBL := am_ (below_step HBL.out hb7)
          have BK6 := am_ (blk_below BK6.out hb7)
          have G6 := am_ (Kd.C_below G6.out hb7); have G7 := am_ (Kd.C_below G7.out hb7)
          have BKr := am_ (blk_below BK.out HBL.out)
          clear HO6 hb7 p0 p1 p2 p3 p4
          have p0 := cf0 BKr.out
          have p1 := cf1 BKr.out
          have p2 := cf2 BKr.out
          have p3 := cf0 BK6.out
          have p4 := cf1 BK6.out
          dsimp only
          cases b
          · obtain rfl : ac = ac' := Option.some.inj (show some ac = some ac' from HA3.out)
            go_wp2_with fail
            go_roundg (os.length - (i + 1))
            case rel => exact ⟨i + 1, ac, by simp, ⟨by omega⟩, HA', HO7, HBL⟩
            case measure => have := HL.out; omega
          · obtain ⟨⟨r1, r2⟩, hse, hac⟩ := Option.bind_eq_some_iff.mp (show ((impl_scene_seen.f k s0 s1 s2 (rd_T65 os i).f0 (rd_T65 os i).f1).bind fun s => some (ac ++ [⟨s.1, s.2⟩])) = some ac' from HA3.out)
            obtain rfl := Option.some.inj hac
            have SE := am_ hse
            clear hse hac HA3
            go_wp2_with (go_at_call 29; refine park ?_)
            refine ⟨?_⟩
            have hlt7 := Kd.R_lt HO7.out
            refine (impl_scene_seen.calls k A0 c0 s0 A1 c1 s1 A2 c2 s2 A6 c6 (rd_T65 os i).f0 A7 c7 (rd_T65 os i).f1 r1 r2 w7 (Kd.C_below H0.out HBL.out) hc0 (Kd.C_below H1.out HBL.out) hc1 (Kd.C_below H2.out HBL.out) hc2 G6.out l6 G7.out l7 SE.out).mono ?_
            rintro e w8 ⟨v8, v9, rfl, hR8, hR9, hb8⟩
            have V8 := am_ (Kd.R_lower (Kd.R_mono (Kd.R_bound hR8) (ok' := fun k => w7.heap.size ≤ k) (fun k hk => hk.2.1)) HBL.out.size)
            have V9 := am_ (Kd.R_lower (Kd.R_mono (Kd.R_bound hR9) (ok' := fun k => w7.heap.size ≤ k) (fun k hk => hk.2.1)) HBL.out.size)
            have HO8 := am_ (Kd.R_below HO7.out hb8)
            have HBL := am_ (below_step HBL.out hb8)
            clear hR8 hR9 hb8 HO7 p0 p1 p2 p3 p4
            obtain ⟨A8, c8, rfl⟩ := Kd.R_slice V8.out
            obtain ⟨A9, c9, rfl⟩ := Kd.R_slice V9.out
            have hal := ordA_len HA.out
            have hbd : (ac.length + 1) * 48 ≤ 140737488355328 := by omega
            dsimp only
            go_wp2_with (at_builtin; refine park ?_)
            refine ⟨?_⟩
            refine Kd.R_append k35 (w0 := w5) w5.heap.size rfl (.tmp 36) (.tmp 40) 31 35 (.agg #[.slice none 0 0, .slice none 0 0]) 48 rfl Tryz.underlying31 info35' rfl (by decide) (by omega) u6 ac ⟨r1, r2⟩ [.slice A8 r1.length c8, .slice A9 r2.length c9] (fun _ => True) (fun k => w7.heap.size ≤ k) rfl rfl (k35_mkM _ _ _ _ V8.out V9.out) (fun k hk => ⟨trivial, fun e => by have := hlt7 k e.symm; omega⟩) (fun _ _ => trivial) HO8.out HBL.out HBL.out.size hbd ?_
            intro v1 w1 ho1 hb1 hg1 hat1
            have HO := am_ ho1
            have HBL := am_ hb1
            clear ho1 hb1 hg1 hat1 hlt7 hal hbd
            go_wp2_with fail
            go_roundg (os.length - (i + 1))
            case rel => exact ⟨i + 1, _, by simp, ⟨by omega⟩, HA', HO, HBL⟩
            case measure => have := HL.out; omega
        · obtain rfl : i = os.length := by have := HL.out; omega
          obtain rfl : ac = acc := Option.some.inj (HA.out.symm.trans AC.out)
          obtain ⟨A6, c6, e6, hc6, hC6⟩ := Kd.R_reads HO.out
          subst e6
          have H6 := am_ hC6
          have hal := ordA_len HA.out
          clear hC6
          go_wp2_with (go_at_call 30; refine park ?_)
          refine ⟨?_⟩
          refine (seenSort_is A6 c6 ac _ H6.out hc6 (by omega) SH.out).mono ?_
          rintro e w7 ⟨A7, c7, rfl, h1, h2, h3⟩
          have H7 := am_ h2
          have HB7 := am_ (below_step (below_step HB.out HBL.out) h3)
          clear h2 h3
          dsimp only
          go_wp2_with fail
          go_ret
          exact ⟨A7, c7, rfl, h1, H7.out, HB7.out⟩
def lpodd_T3 : Bool × List (List Nat × List Nat) := (true, [([], []), ([], []), ([0, 1], [0, 1]), ([], []), ([2, 3, 2], [2, 3]), ([4, 4, 0, 1, 2, 3, 4], [4])])
def lpodd_B3 : List Nat := [0, 0, 3, 0, 15, 31]
theorem lpodd_tab3 : rtab .any (opsOf Tryz.f14 3) = lpodd_T3 := by kernel_rfl
theorem lpodd_bits3 : waitsOk lpodd_T3.2 lpodd_B3 = true := by kernel_rfl
def lpOdd_f (k : Nat) (n how kd : Int) : Option Bool := (impl_ShapeOf.f n how).bind fun p => (impl_ShapeOdd.f n).bind fun o => (orderAll_f k p.1 kd).bind fun r => spec_SeenIn.f k r o.1 o.2.1
set_option maxHeartbeats 8000000 in
set_option maxRecDepth 100000 in
theorem lpOdd_calls (k : Nat) (n how kd : Int) (r : Bool) (w : World) (h : lpOdd_f k n how kd = some r) (hT : Tab w) :
    Calls Tryz.prog 14 #[.int .i64 n, .int .i64 how, .int .i64 kd] w fun e w' => e = .returned (.bool r) ∧ Below w.heap.size w w' := by
  unfold lpOdd_f at h
  obtain ⟨⟨p, pb⟩, hp, h⟩ := Option.bind_eq_some_iff.mp h
  obtain ⟨⟨o1, o2, ob⟩, ho, h⟩ := Option.bind_eq_some_iff.mp h
  obtain ⟨sn, hsn, h⟩ := Option.bind_eq_some_iff.mp h
  dsimp only at hsn h
  have HP := am_ hp; have HO := am_ ho; have SN := am_ hsn; have SI := am_ h; have HT := am_ hT
  clear hp ho hsn h hT
  go_enter Tryz.func14, Tryz.ntmps14
  go_wp2_with (go_at_call 11; refine park ?_)
  refine ⟨?_⟩
  refine (impl_ShapeOf.calls n how p pb _ HP.out).mono ?_
  rintro e w1 ⟨v1, rfl, hv1, hb1⟩
  obtain ⟨A1, c1, rfl⟩ := Kd.N_slice hv1
  have HV := am_ (Kd.N_V (base' := 0) hv1)
  have HB := am_ hb1
  clear hv1 hb1
  dsimp only
  go_wp2_with (go_at_call 31; refine park ?_)
  refine ⟨?_⟩
  obtain ⟨W1, hW1, HB1, BK, SZ1⟩ := box1 w1 (.cells #[.slice A1 p.length c1] 27)
  rw [hW1]
  have HV := am_ (Kd.V_below HV.out HB1.out)
  have HB := am_ (below_step HB.out HB1.out)
  clear hW1 SZ1 HB1
  refine (impl_ShapeOdd.calls n o1 o2 ob _ HO.out).mono ?_
  rintro e w2 ⟨v2, v3, rfl, hr2, hr3, hb2⟩
  obtain ⟨A2, c2, rfl, hc2, hC2⟩ := Kd.R_reads hr2
  obtain ⟨A3, c3, rfl, hc3, hC3⟩ := Kd.R_reads hr3
  have H2 := am_ hC2; have H3 := am_ hC3
  have BK := am_ (blk_below BK.out hb2)
  have HV := am_ (Kd.V_below HV.out hb2)
  have HB := am_ (below_step HB.out hb2)
  clear hr2 hr3 hC2 hC3 hb2
  have p0 := cf0 BK.out
  dsimp only
  go_wp2_with fail
  obtain ⟨W2, hW2, HB2, BK2, SZ2⟩ := box1 w2 (.cells #[.slice A2 o1.length c2, .slice A3 o2.length c3] 35)
  rw [hW2]
  have HB2 := am_ (below_drew1 HB2.out)
  have BK2 := am_ (blk_drew BK2.out)
  have BK := am_ (blk_below BK.out HB2.out)
  have HV := am_ (Kd.V_below HV.out HB2.out)
  have H2 := am_ (Kd.C_below H2.out HB2.out); have H3 := am_ (Kd.C_below H3.out HB2.out)
  have HB := am_ (below_step HB.out HB2.out)
  clear p0 hW2 SZ2 HB2
  have p0 := cf0 BK.out
  have p1 := cf0 BK2.out
  have p2 := cf1 BK2.out
  refine start_ (n := 6) (S := fun W => W.cell? ⟨w1.heap.size, 0, none⟩ = some (.slice A1 p.length c1) ∧ W.cell? ⟨w2.heap.size, 0, none⟩ = some (.slice A2 o1.length c2) ∧ W.cell? ⟨w2.heap.size, 1, none⟩ = some (.slice A3 o2.length c3)) (ds := []) _ (by kernel_rfl) rfl rfl ⟨p0, p1, p2⟩ (fun hHeld => ?_)
  refine with_tabW lpodd_tab3 lpodd_bits3 (fun HT_ HW_ => ?_)
  generalize W2.drew = w3 at *
  have hV3 : Kd.V (Kd.slice 45 k45) 42 w3 w3.heap.size (fun k => w.heap.size ≤ k) (.slice A1 p.length c1) p := HV.out
  refine ld 0 22 ?_
  refine pu 1 23 ?_
  refine ld 3 25 ?_
  refine cal 2 24 Tryz.func13 #[.agg #[.slice A1 p.length c1], .int .i64 kd] ?_
  refine (orderAll_calls k _ A1 c1 p kd sn w3 hV3 SN.out (Tab.below HT.out HB.out)).mono ?_
  rintro e w4 ⟨A4, c4, rfl, hc4, hC4, hb4⟩
  replace p0 := pw_cell_below hb4 p0; replace p1 := pw_cell_below hb4 p1; replace p2 := pw_cell_below hb4 p2
  have H2 := am_ (Kd.C_below H2.out hb4); have H3 := am_ (Kd.C_below H3.out hb4)
  have H4 := am_ hC4
  have HB := am_ (below_step HB.out hb4)
  clear hb4 hC4 hV3
  refine ⟨_, rfl, ⟨p0, p1, p2⟩, fun a1 ha1 hHeld => ?_⟩
  simp only [Act.put, List.setIfInBounds_toArray, List.set_cons_zero, List.set_cons_succ] at ha1
  subst ha1
  refine cal 4 26 Tryz.func32 #[.slice A4 sn.length c4, .agg #[.slice A2 o1.length c2, .slice A3 o2.length c3]] ?_
  refine (spec_SeenIn.calls k A4 c4 sn A2 c2 o1 A3 c3 o2 r w4 H4.out hc4 H2.out hc2 H3.out hc3 SI.out).mono ?_
  rintro e w5 ⟨rfl, hb5⟩
  replace p0 := pw_cell_below hb5 p0; replace p1 := pw_cell_below hb5 p1; replace p2 := pw_cell_below hb5 p2
  have HB := am_ (below_step HB.out hb5)
  clear hb5
  refine ⟨_, rfl, ⟨p0, p1, p2⟩, fun a1 ha1 hHeld => ?_⟩
  simp only [Act.put, List.setIfInBounds_toArray, List.set_cons_zero, List.set_cons_succ] at ha1
  subst ha1
  refine pu 5 6 ?_
  refine fin ?_
  go_wp2_with fail
  go_ret
  exact ⟨rfl, HB.out⟩
end Go.Proofs.YtmkchdlkpbnldaaGreatDoor.PB
namespace Go.Proofs.YtmkchdlkpbnldaaGreatDoor.Pure
open Go.RowKit Go.Proofs.YtmkchdlkpbnldaaGreatDoor.PB Go.Proofs.YtmkchdlkpbnldaaGreatDoorW.PrintWords Go.Proofs.YtmkchdlkpbnldaaGreatDoorW.PrintLast Go.Proofs.YtmkchdlkpbnldaaGreatDoorW.PrintMore
open Go.Proofs.YtmkchdlkpbnldaaGreatDoorMine
def inR (s h : Int) : Prop := (1 ≤ s ∧ s ≤ 6) ∧ (0 ≤ h ∧ h ≤ 3)
theorem cases_in {P : Int → Int → Prop} (h1 : P 1 0 ∧ P 1 1 ∧ P 1 2 ∧ P 1 3) (h2 : P 2 0 ∧ P 2 1 ∧ P 2 2 ∧ P 2 3) (h3 : P 3 0 ∧ P 3 1 ∧ P 3 2 ∧ P 3 3) (h4 : P 4 0 ∧ P 4 1 ∧ P 4 2 ∧ P 4 3) (h5 : P 5 0 ∧ P 5 1 ∧ P 5 2 ∧ P 5 3) (h6 : P 6 0 ∧ P 6 1 ∧ P 6 2 ∧ P 6 3) (s h : Int) (hc : inR s h) : P s h := by
  obtain ⟨⟨a, b⟩, c, d⟩ := hc
  have hs : s = 1 ∨ s = 2 ∨ s = 3 ∨ s = 4 ∨ s = 5 ∨ s = 6 := by omega
  have hh : h = 0 ∨ h = 1 ∨ h = 2 ∨ h = 3 := by omega
  rcases hs with rfl | rfl | rfl | rfl | rfl | rfl <;> rcases hh with rfl | rfl | rfl | rfl
  all_goals first | exact h1.1 | exact h1.2.1 | exact h1.2.2.1 | exact h1.2.2.2 | exact h2.1 | exact h2.2.1 | exact h2.2.2.1 | exact h2.2.2.2 | exact h3.1 | exact h3.2.1 | exact h3.2.2.1 | exact h3.2.2.2 | exact h4.1 | exact h4.2.1 | exact h4.2.2.1 | exact h4.2.2.2 | exact h5.1 | exact h5.2.1 | exact h5.2.2.1 | exact h5.2.2.2 | exact h6.1 | exact h6.2.1 | exact h6.2.2.1 | exact h6.2.2.2
def prg (s h : Int) : List (List S45) := ((impl_ShapeOf.f s h).getD ([], false)).1
def ShOk (s h : Int) : Prop := spec_ShapeOf.f 400 s h = some (prg s h, true) ∧ impl_ShapeOf.f s h = some (prg s h, true) ∧ laws_lpProg.f 400 (prg s h) (prg s h) = some true
theorem sh1 (s h : Int) (a : spec_ShapeOf.f 400 s h = some (prg s h, true)) (b : impl_ShapeOf.f s h = some (prg s h, true)) (c : laws_lpProg.f 400 (prg s h) (prg s h) = some true) : ShOk s h := ⟨a, b, c⟩
set_option maxRecDepth 100000 in
theorem shOk : ∀ s h, inR s h → ShOk s h := cases_in (P := ShOk)
  ⟨sh1 1 0 (by kernel_rfl) (by kernel_rfl) (by kernel_rfl), sh1 1 1 (by kernel_rfl) (by kernel_rfl) (by kernel_rfl), sh1 1 2 (by kernel_rfl) (by kernel_rfl) (by kernel_rfl), sh1 1 3 (by kernel_rfl) (by kernel_rfl) (by kernel_rfl)⟩
  ⟨sh1 2 0 (by kernel_rfl) (by kernel_rfl) (by kernel_rfl), sh1 2 1 (by kernel_rfl) (by kernel_rfl) (by kernel_rfl), sh1 2 2 (by kernel_rfl) (by kernel_rfl) (by kernel_rfl), sh1 2 3 (by kernel_rfl) (by kernel_rfl) (by kernel_rfl)⟩
  ⟨sh1 3 0 (by kernel_rfl) (by kernel_rfl) (by kernel_rfl), sh1 3 1 (by kernel_rfl) (by kernel_rfl) (by kernel_rfl), sh1 3 2 (by kernel_rfl) (by kernel_rfl) (by kernel_rfl), sh1 3 3 (by kernel_rfl) (by kernel_rfl) (by kernel_rfl)⟩
  ⟨sh1 4 0 (by kernel_rfl) (by kernel_rfl) (by kernel_rfl), sh1 4 1 (by kernel_rfl) (by kernel_rfl) (by kernel_rfl), sh1 4 2 (by kernel_rfl) (by kernel_rfl) (by kernel_rfl), sh1 4 3 (by kernel_rfl) (by kernel_rfl) (by kernel_rfl)⟩
  ⟨sh1 5 0 (by kernel_rfl) (by kernel_rfl) (by kernel_rfl), sh1 5 1 (by kernel_rfl) (by kernel_rfl) (by kernel_rfl), sh1 5 2 (by kernel_rfl) (by kernel_rfl) (by kernel_rfl), sh1 5 3 (by kernel_rfl) (by kernel_rfl) (by kernel_rfl)⟩
  ⟨sh1 6 0 (by kernel_rfl) (by kernel_rfl) (by kernel_rfl), sh1 6 1 (by kernel_rfl) (by kernel_rfl) (by kernel_rfl), sh1 6 2 (by kernel_rfl) (by kernel_rfl) (by kernel_rfl), sh1 6 3 (by kernel_rfl) (by kernel_rfl) (by kernel_rfl)⟩
theorem lp_nil : laws_lpProg.f 400 [] [] = some true := by decide +kernel
end Go.Proofs.YtmkchdlkpbnldaaGreatDoor.Pure
