/- What the laws share, part 32: Settle Choices Settled SeenCmp. -/
import Derived.Test.YtmkchdlkpbnldaaGreatDoorG30
import Derived.Test.YtmkchdlkpbnldaaGreatDoorG26
import Derived.Test.YtmkchdlkpbnldaaGreatDoorG5
import Derived.Test.YtmkchdlkpbnldaaGreatDoorG13
import Derived.Sort.Grow
namespace Go.Proofs.YtmkchdlkpbnldaaGreatDoor.PB
open Go.RowKit Go.Proofs.YtmkchdlkpbnldaaGreatDoorW.PrintWords Go.Proofs.YtmkchdlkpbnldaaGreatDoorW.PrintLast Go.Proofs.YtmkchdlkpbnldaaGreatDoorW.PrintMore
open Go.Proofs.YtmkchdlkpbnldaaGreatDoorMine
set_option linter.unusedVariables false
set_option linter.unusedSimpArgs false
structure Two where
  a1 : Int
  b1 : Int
  a2 : Int
  b2 : Int
def kTwo : Kd Two := Kd.iso (Kd.pair (Kd.int .i64) (Kd.pair (Kd.int .i64) (Kd.pair (Kd.int .i64) (Kd.int .i64)))) (fun x : Two => (x.a1, x.b1, x.a2, x.b2))
theorem kTwo_K (w : World) (x : Two) (c : List Value) (h : kTwo.K w x c) : c = [.int .i64 x.a1, .int .i64 x.b1, .int .i64 x.a2, .int .i64 x.b2] := by
  obtain ⟨_, _, rfl, rfl, _, _, rfl, rfl, _, _, rfl, rfl, rfl⟩ := h
  rfl
theorem kTwo_M (w : World) (base : Nat) (ok : Nat → Prop) (x : Two) : kTwo.M w base ok x [.int .i64 x.a1, .int .i64 x.b1, .int .i64 x.a2, .int .i64 x.b2] := ⟨[_], [_, _, _], rfl, rfl, [_], [_, _], rfl, rfl, [_], [_], rfl, rfl, rfl⟩
theorem at_Two {w : World} {A : Option Addr} {n : Nat} {x : Two} {xs : List Two} (h : kTwo.C w A n (x :: xs)) : ∃ ad : Addr, A = some ad ∧ w.cell? ad = some (.int .i64 x.a1) ∧ w.cell? ⟨ad.block, ad.off + 1, none⟩ = some (.int .i64 x.b1) ∧ w.cell? ⟨ad.block, ad.off + 2, none⟩ = some (.int .i64 x.a2) ∧ w.cell? ⟨ad.block, ad.off + 3, none⟩ = some (.int .i64 x.b2) := by
  obtain ⟨ad, hA, hc⟩ := h.2.2 (by have := h.1; simp at this; omega)
  obtain ⟨c, _, hK, hcc⟩ := hc 0 x rfl
  have := kTwo_K _ _ _ hK
  subst this
  refine ⟨ad, hA, ?_, ?_, ?_, ?_⟩
  · have := hcc 0 _ rfl; simpa [Addr.add] using this
  · have := hcc 1 _ rfl; simpa [Addr.add] using this
  · have := hcc 2 _ rfl; simpa [Addr.add] using this
  · have := hcc 3 _ rfl; simpa [Addr.add] using this
def tryF (F : List Int → Option Bool) (g : List Int) : List (Int × Int) → Option Bool
  | [] => some false
  | p :: ps => if 0 ≤ p.1 ∧ p.1 < g.length ∧ 0 ≤ p.2 ∧ g.length < 1048577 then
      (F (g.set p.1.toNat (Go.bits .or .u64 (rd g p.1) (shl .u64 1 p.2)))).bind fun o => if o = true then some true else tryF F g ps
    else none
def settle_f : Nat → List Int → List Two → Option Bool
  | 0, _, _ => none
  | k + 1, g, chs => (impl_graph_line.f k g).bind fun p => if p.2 = false then some false else
    match chs with
    | [] => some true
    | c :: rest => tryF (fun g' => settle_f k g' rest) g [(c.a1, c.b1), (c.a2, c.b2)]
theorem box1 (w : World) (o : Obj) : ∃ W, w.alloc o = W ∧ Aside0 (Below w.heap.size w W) ∧ Aside0 (W.heap[w.heap.size]? = some o) ∧ Aside0 (W.heap.size = w.heap.size + 1) :=
  ⟨_, rfl, ⟨below_alloc (Below.refl _ _) _⟩, ⟨heap_alloc_new w _⟩, ⟨World.size_alloc _ _⟩⟩
set_option maxHeartbeats 8000000 in
set_option maxRecDepth 100000 in
theorem settle_calls (k : Nat) : ∀ (A0 : Option Addr) (c0 : Nat) (g : List Int) (A1 : Option Addr) (c1 : Nat) (chs : List Two) (r : Bool) (w : World), Kd.C (Kd.int .u64) w A0 g.length g → g.length ≤ c0 → kTwo.C w A1 chs.length chs → chs.length ≤ c1 → settle_f k g chs = some r → Tab w →
    Calls Tryz.prog 56 #[.slice A0 g.length c0, .slice A1 chs.length c1] w fun e w' => (∃ v, e = .returned (.tuple #[v, .bool r])) ∧ Below w.heap.size w w' := by
  induction k with
  | zero => intro A0 c0 g A1 c1 chs r w _ _ _ _ h; cases h
  | succ k ih =>
    intro A0 c0 g A1 c1 chs r w hr0 hc0 hr1 hc1 h hT
    simp only [settle_f] at h
    obtain ⟨⟨p1, p2⟩, hp, h⟩ := Option.bind_eq_some_iff.mp h
    have H0 := am_ hr0; have H1 := am_ hr1; have HT := am_ hT; have HP := am_ hp; have HH := am_ h; have IH := am_ ih
    clear hr0 hr1 hT hp h ih
    go_enter Tryz.func56, Tryz.ntmps56
    go_wp2_with (go_at_call 53; (with_reducible refine (impl_graph_line.calls k A0 c0 g p1 p2 _ H0.out hc0 HP.out HT.out).mono ?_); rintro e w1 ⟨v1, rfl, hR1, hb1⟩; have HB := am_ hb1; clear hR1 hb1; refine park ?_)
    refine ⟨?_⟩
    cases p2
    · obtain rfl : false = r := Option.some.inj (show some false = some r from HH.out)
      go_wp2_with fail
      go_ret2
      exact ⟨⟨_, rfl⟩, HB.out⟩
    · cases chs with
      | nil =>
        obtain rfl : true = r := Option.some.inj (show some true = some r from HH.out)
        go_wp2_with fail
        go_ret2
        exact ⟨⟨_, rfl⟩, HB.out⟩
      | cons c rest =>
        obtain ⟨ad, rfl, x0, x1, x2, x3⟩ := at_Two H1.out
        have y0 := (HB.out.cell (World.block_lt_of_cell? w _ x0)).trans x0
        have y1 := (HB.out.cell (World.block_lt_of_cell? w _ x1)).trans x1
        have y2 := (HB.out.cell (World.block_lt_of_cell? w _ x2)).trans x2
        have y3 := (HB.out.cell (World.block_lt_of_cell? w _ x3)).trans x3
        have hln : (0 : Int) < ((c :: rest).length : Int) := by simp
        go_wp2_with fail
        go_loopg [27] 2 (fun kq v27 w' => ∃ ps : List (Int × Int), v27 = .int .i64 (2 - ps.length) ∧ Aside0 (ps.length = kq) ∧ Aside0 (ps = [(c.a1, c.b1), (c.a2, c.b2)] ∨ ps = [(c.a2, c.b2)] ∨ ps = []) ∧ Aside0 (tryF (fun g' => settle_f k g' rest) g ps = some r) ∧ Aside0 (Below w.heap.size w w'))
        case atStart => exact ⟨[(c.a1, c.b1), (c.a2, c.b2)], rfl, ⟨rfl⟩, ⟨.inl rfl⟩, HH, HB⟩
        case round =>
          clear HB HH y0 y1 y2 y3 x0 x1 x2 x3 HP
          obtain ⟨ps, rfl, HL, HS, HH, HB⟩ := hrel
          rcases HS.out with rfl | rfl | rfl
          · have HH := HH.out
            simp only [tryF] at HH
            split at HH
            case isFalse => cases HH
            rename_i hh
            obtain ⟨g1, g2, g3, g4⟩ := hh
            obtain ⟨o, ho, hfin⟩ := Option.bind_eq_some_iff.mp HH
            clear HH HS
            have HO := am_ ho; have HF := am_ hfin; clear ho hfin
            go_wp2_with (first | ((with_reducible refine gate_dst (N := 29) rfl ?_); refine Kd.event_run rfl (v := .agg #[.int .i64 c.a1, .int .i64 c.b1]) (w1 := wr) (by kernel_rfl) ?_) | (go_at_call 73; refine park ?_))
            refine ⟨?_⟩
            obtain ⟨W8, hW, HB8, BK8, SZ8⟩ := box1 wr (.cells #[.int .i64 c.a1, .int .i64 c.b1] 120)
            rw [hW]
            clear hW
            have hbase : w.heap.size ≤ W8.heap.size := Nat.le_trans HB.out.size HB8.out.size
            have HB := am_ (below_step HB.out HB8.out)
            refine (impl_graph_uint64.calls A0 c0 g g W8 (Kd.C_below H0.out HB.out) hc0 (by unfold impl_graph_uint64.f; rw [if_pos g4])).mono ?_
            rintro e w3 ⟨v3, rfl, hR3, hb3⟩
            have HB := am_ (below_step HB.out hb3)
            have BK := am_ (blk_below BK8.out hb3)
            obtain ⟨gA, cap, rfl, hg0, hgl, cells, hcells⟩ := Kd.R_form hR3 (by omega)
            obtain ⟨ce, hce, hMe, hcce, hfre⟩ := Kd.R_elem hR3 0 c.a1 g1 g2
            have hce1 : ce = [.int .u64 (rd g c.a1)] := (Kd.int .u64).K_of_M hMe
            subst hce1
            have hcm : w3.drew.cell? ⟨gA, c.a1.toNat, none⟩ = some (.int .u64 (rd g c.a1)) := by have h1 := hcce 0 _ rfl; simpa [Kd.int, Kd.scalar] using h1
            have hfm : w3.drew.frozen? ⟨gA, c.a1.toNat, none⟩ = false := blk_frozen (blk_drew hcells) _
            have BK := am_ (blk_drew BK.out)
            have p0 := cf0 BK.out
            have p1' := cf1 BK.out
            have HO2 := am_ (Kd.R_drew hR3)
            have HB := am_ (below_drew1 HB.out)
            clear hR3 hb3 hcells hce hMe hcce hfre BK8 HB8 SZ8
            have g1' := eq_true g1; have g2' := eq_true g2; have g3' := eq_true g3
            go_wp2_with fail
            go_still_tail 10, (by kernel_rfl)
            change wpList _ _ _ _ _ w3.drew
            generalize w3.drew = w4 at *
            have HP := am_ (Kd.R_putg HO2.out c.a1 (Go.bits .or .u64 (rd g c.a1) (shl .u64 1 c.b1))).1
            rw [show shl .u64 1 c.b1 = IntKind.u64.wrap (2 ^ min c.b1.toNat 64) from by simp [shl, IntKind.bits]] at HP HO
            have HBs := am_ (below_set HB.out (g := gA) (j := c.a1.toNat) (Nat.le_trans hbase hg0) (v := Value.int IntKind.u64 (bits BinOp.or IntKind.u64 (rd g c.a1) (IntKind.u64.wrap (2 ^ min c.b1.toNat 64)))))
            clear HO2
            by_cases hc : c1 = 1
            case' pos =>
              subst hc
              go_wp2_with (go_at_call 56; refine park ?_)
              refine ⟨?_⟩
              have hrs : rest = [] := by simpa using hc1
              have hCT : kTwo.C w (some ad) rest.length rest := by rw [hrs]; exact ⟨rfl, by simp, fun h => absurd h (by simp)⟩
              have hcX : rest.length ≤ 0 := by rw [hrs]; exact Nat.le_refl _
            case' neg =>
              go_wp2_with (go_at_call 56; refine park ?_)
              refine ⟨?_⟩
              have hCT : kTwo.C w (some ⟨ad.block, ad.off + 4, none⟩) rest.length rest := by
                have h3 := Kd.C_drop H1.out (m := 1) (by simp) hc1
                rw [if_neg hc] at h3
                exact h3
              have hcX : rest.length ≤ c1 - 1 := by simp at hc1; omega
            all_goals
              obtain ⟨_, hlc, hC⟩ := Kd.R_reads' HP.out
              have el : (g.set c.a1.toNat (bits BinOp.or IntKind.u64 (rd g c.a1) (IntKind.u64.wrap (2 ^ min c.b1.toNat 64)))).length = g.length := List.length_set
              have hs := IH.out (some ⟨gA, 0, none⟩) cap _ _ _ _ o _ hC (by rw [el]; exact hlc) (Kd.C_below hCT HBs.out) hcX HO.out (Tab.below HT.out HBs.out)
              rw [el] at hs
              (try simp only [List.length_nil] at hs)
              with_reducible refine hs.mono ?_
              rintro e w6 ⟨⟨v6, rfl⟩, hb6⟩
              have HB := am_ (below_step HBs.out hb6)
              clear hb6 hs hC hCT hcX hlc el p0 p1' hcm hfm HP HBs HO BK
              dsimp only
              cases o
              · have HF := am_ (show tryF (fun g' => settle_f k g' rest) g [(c.a2, c.b2)] = some r from HF.out)
                go_wp2_with fail
                go_roundg 1
                case rel => exact ⟨[(c.a2, c.b2)], by simp, ⟨rfl⟩, ⟨.inr (.inl rfl)⟩, HF, HB⟩
                case measure => have := HL.out; simp at this; omega
              · obtain rfl : true = r := Option.some.inj (show some true = some r from HF.out)
                go_wp2_with fail
                go_ret2
                exact ⟨⟨_, rfl⟩, HB.out⟩
          · have HH := HH.out
            simp only [tryF] at HH
            split at HH
            case isFalse => cases HH
            rename_i hh
            obtain ⟨g1, g2, g3, g4⟩ := hh
            obtain ⟨o, ho, hfin⟩ := Option.bind_eq_some_iff.mp HH
            clear HH HS
            have HO := am_ ho; have HF := am_ hfin; clear ho hfin
            go_wp2_with (first | ((with_reducible refine gate_dst (N := 29) rfl ?_); refine Kd.event_run rfl (v := .agg #[.int .i64 c.a2, .int .i64 c.b2]) (w1 := wr) (by kernel_rfl) ?_) | (go_at_call 73; refine park ?_))
            refine ⟨?_⟩
            obtain ⟨W8, hW, HB8, BK8, SZ8⟩ := box1 wr (.cells #[.int .i64 c.a2, .int .i64 c.b2] 120)
            rw [hW]
            clear hW
            have hbase : w.heap.size ≤ W8.heap.size := Nat.le_trans HB.out.size HB8.out.size
            have HB := am_ (below_step HB.out HB8.out)
            refine (impl_graph_uint64.calls A0 c0 g g W8 (Kd.C_below H0.out HB.out) hc0 (by unfold impl_graph_uint64.f; rw [if_pos g4])).mono ?_
            rintro e w3 ⟨v3, rfl, hR3, hb3⟩
            have HB := am_ (below_step HB.out hb3)
            have BK := am_ (blk_below BK8.out hb3)
            obtain ⟨gA, cap, rfl, hg0, hgl, cells, hcells⟩ := Kd.R_form hR3 (by omega)
            obtain ⟨ce, hce, hMe, hcce, hfre⟩ := Kd.R_elem hR3 0 c.a2 g1 g2
            have hce1 : ce = [.int .u64 (rd g c.a2)] := (Kd.int .u64).K_of_M hMe
            subst hce1
            have hcm : w3.drew.cell? ⟨gA, c.a2.toNat, none⟩ = some (.int .u64 (rd g c.a2)) := by have h1 := hcce 0 _ rfl; simpa [Kd.int, Kd.scalar] using h1
            have hfm : w3.drew.frozen? ⟨gA, c.a2.toNat, none⟩ = false := blk_frozen (blk_drew hcells) _
            have BK := am_ (blk_drew BK.out)
            have p0 := cf0 BK.out
            have p1' := cf1 BK.out
            have HO2 := am_ (Kd.R_drew hR3)
            have HB := am_ (below_drew1 HB.out)
            clear hR3 hb3 hcells hce hMe hcce hfre BK8 HB8 SZ8
            have g1' := eq_true g1; have g2' := eq_true g2; have g3' := eq_true g3
            go_wp2_with fail
            go_still_tail 10, (by kernel_rfl)
            change wpList _ _ _ _ _ w3.drew
            generalize w3.drew = w4 at *
            have HP := am_ (Kd.R_putg HO2.out c.a2 (Go.bits .or .u64 (rd g c.a2) (shl .u64 1 c.b2))).1
            rw [show shl .u64 1 c.b2 = IntKind.u64.wrap (2 ^ min c.b2.toNat 64) from by simp [shl, IntKind.bits]] at HP HO
            have HBs := am_ (below_set HB.out (g := gA) (j := c.a2.toNat) (Nat.le_trans hbase hg0) (v := Value.int IntKind.u64 (bits BinOp.or IntKind.u64 (rd g c.a2) (IntKind.u64.wrap (2 ^ min c.b2.toNat 64)))))
            clear HO2
            by_cases hc : c1 = 1
            case' pos =>
              subst hc
              go_wp2_with (go_at_call 56; refine park ?_)
              refine ⟨?_⟩
              have hrs : rest = [] := by simpa using hc1
              have hCT : kTwo.C w (some ad) rest.length rest := by rw [hrs]; exact ⟨rfl, by simp, fun h => absurd h (by simp)⟩
              have hcX : rest.length ≤ 0 := by rw [hrs]; exact Nat.le_refl _
            case' neg =>
              go_wp2_with (go_at_call 56; refine park ?_)
              refine ⟨?_⟩
              have hCT : kTwo.C w (some ⟨ad.block, ad.off + 4, none⟩) rest.length rest := by
                have h3 := Kd.C_drop H1.out (m := 1) (by simp) hc1
                rw [if_neg hc] at h3
                exact h3
              have hcX : rest.length ≤ c1 - 1 := by simp at hc1; omega
            all_goals
              obtain ⟨_, hlc, hC⟩ := Kd.R_reads' HP.out
              have el : (g.set c.a2.toNat (bits BinOp.or IntKind.u64 (rd g c.a2) (IntKind.u64.wrap (2 ^ min c.b2.toNat 64)))).length = g.length := List.length_set
              have hs := IH.out (some ⟨gA, 0, none⟩) cap _ _ _ _ o _ hC (by rw [el]; exact hlc) (Kd.C_below hCT HBs.out) hcX HO.out (Tab.below HT.out HBs.out)
              rw [el] at hs
              (try simp only [List.length_nil] at hs)
              with_reducible refine hs.mono ?_
              rintro e w6 ⟨⟨v6, rfl⟩, hb6⟩
              have HB := am_ (below_step HBs.out hb6)
              clear hb6 hs hC hCT hcX hlc el p0 p1' hcm hfm HP HBs HO BK
              dsimp only
              cases o
              · have HF := am_ (show tryF (fun g' => settle_f k g' rest) g [] = some r from HF.out)
                go_wp2_with fail
                go_roundg 0
                case rel => exact ⟨[], by simp, ⟨rfl⟩, ⟨.inr (.inr rfl)⟩, HF, HB⟩
                case measure => have := HL.out; simp at this; omega
              · obtain rfl : true = r := Option.some.inj (show some true = some r from HF.out)
                go_wp2_with fail
                go_ret2
                exact ⟨⟨_, rfl⟩, HB.out⟩
          · obtain rfl : false = r := Option.some.inj HH.out
            go_wp2_with fail
            go_ret2
            exact ⟨⟨_, rfl⟩, HB.out⟩
def chIn (ins : Int → Option Int) (l2 : List S45) (e : Int) : Nat → Option (List Two)
  | 0 => some []
  | j + 1 => (chIn ins l2 e j).bind fun acc => if (rd_T45 l2 j).f0 = 7 then (ins j).bind fun lv => some (acc ++ [⟨lv, e, e - 1, j⟩]) else some acc
def chOut (ins : Int → Option Int) (l1 : List S87) (l2 : List S45) : Nat → Option (List Two)
  | 0 => some []
  | i + 1 => (chOut ins l1 l2 i).bind fun acc => if (rd_T45 l2 i).f0 = 9 ∧ (rd_T87 l1 i).f2 = true then (chIn ins l2 i l2.length).bind fun x => some (acc ++ x) else some acc
def choices_f (k : Nat) (l0 : List (List S45)) (l1 : List S87) (l2 : List S45) : Option (List Two) :=
  if l2.length ≤ l1.length ∧ l2.length ≤ 1000 then chOut (fun j => (impl_scene_inside.f k l0 l1 l2 j).map fun p => p.2.1) l1 l2 l2.length else none
theorem chIn_some {ins : Int → Option Int} {l2 : List S45} {e : Int} {n : Nat} {r : List Two} (h : chIn ins l2 e n = some r) : ∀ j, j ≤ n → ∃ acc, chIn ins l2 e j = some acc := by
  induction n generalizing r with
  | zero => intro j hj; (obtain rfl : j = 0 := (by omega)); exact ⟨_, h⟩
  | succ n ih =>
    intro j hj
    obtain ⟨acc, ha, _⟩ := Option.bind_eq_some_iff.mp h
    rcases Nat.lt_or_ge n j with hlt | hge
    · obtain rfl : j = n + 1 := (by omega)
      exact ⟨_, h⟩
    · exact ih ha j hge
theorem chOut_some {ins : Int → Option Int} {l1 : List S87} {l2 : List S45} {n : Nat} {r : List Two} (h : chOut ins l1 l2 n = some r) : ∀ j, j ≤ n → ∃ acc, chOut ins l1 l2 j = some acc := by
  induction n generalizing r with
  | zero => intro j hj; (obtain rfl : j = 0 := (by omega)); exact ⟨_, h⟩
  | succ n ih =>
    intro j hj
    obtain ⟨acc, ha, _⟩ := Option.bind_eq_some_iff.mp h
    rcases Nat.lt_or_ge n j with hlt | hge
    · obtain rfl : j = n + 1 := (by omega)
      exact ⟨_, h⟩
    · exact ih ha j hge
theorem chIn_len {ins : Int → Option Int} {l2 : List S45} {e : Int} : ∀ {n : Nat} {r : List Two}, chIn ins l2 e n = some r → r.length ≤ n := by
  intro n
  induction n with
  | zero => intro r h; injection h with h; subst h; simp
  | succ n ih =>
    intro r h
    obtain ⟨acc, ha, h⟩ := Option.bind_eq_some_iff.mp h
    have := ih ha
    split at h
    · obtain ⟨lv, _, h⟩ := Option.bind_eq_some_iff.mp h
      injection h with h; subst h; simp; omega
    · injection h with h; subst h; omega
theorem chOut_len {ins : Int → Option Int} {l1 : List S87} {l2 : List S45} : ∀ {n : Nat} {r : List Two}, chOut ins l1 l2 n = some r → r.length ≤ n * l2.length := by
  intro n
  induction n with
  | zero => intro r h; injection h with h; subst h; simp
  | succ n ih =>
    intro r h
    obtain ⟨acc, ha, h⟩ := Option.bind_eq_some_iff.mp h
    have := ih ha
    rw [Nat.succ_mul]
    split at h
    · obtain ⟨x, hx, h⟩ := Option.bind_eq_some_iff.mp h
      have := chIn_len hx
      injection h with h; subst h; simp; omega
    · injection h with h; subst h; omega
theorem info121' : (Tryz.prog.info? 121).map (fun i => (i.zero, i.size, i.bytes)) = some (some (.agg #[.int .i64 0, .int .i64 0, .int .i64 0, .int .i64 0]), 4, 32) := by kernel_rfl
set_option maxHeartbeats 8000000 in
set_option maxRecDepth 100000 in
theorem choices_calls (k : Nat) (A0 : Option Addr) (c0 : Nat) (l0 : List (List S45)) (A1 : Option Addr) (c1 : Nat) (l1 : List S87) (A2 : Option Addr) (c2 : Nat) (l2 : List S45) (r : List Two) (w : World)
    (hr0 : Kd.C (Kd.slice 45 k45) w A0 l0.length l0) (hc0 : l0.length ≤ c0) (hr1 : Kd.C k87 w A1 l1.length l1) (hc1 : l1.length ≤ c1) (hr2 : Kd.C k45 w A2 l2.length l2) (hc2 : l2.length ≤ c2)
    (h : choices_f k l0 l1 l2 = some r) :
    Calls Tryz.prog 57 #[.agg #[.slice A0 l0.length c0, .slice A1 l1.length c1, .slice A2 l2.length c2]] w fun e w' => ∃ v, e = .returned v ∧ Kd.R kTwo 121 w' w.heap.size (fun _ => True) v r ∧ Below w.heap.size w w' := by
  unfold choices_f at h
  split at h
  case isFalse => cases h
  rename_i hh
  obtain ⟨hl1, hl2⟩ := hh
  have H0 := am_ hr0; have H1 := am_ hr1; have H2 := am_ hr2; have HH := am_ h
  clear hr0 hr1 hr2 h
  obtain ⟨W1, hW, HB, BK, SZ⟩ := box1 w (.cells #[.slice A0 l0.length c0, .slice A1 l1.length c1, .slice A2 l2.length c2] 59)
  have p2 := cf2 BK.out
  go_enter Tryz.func57, Tryz.ntmps57
  go_wp2_with fail
  clear hW
  go_loopg [3, 14] l2.length (fun kq v3 v14 w' => ∃ (i : Nat) (acc : List Two), v14 = .int .i64 i ∧ Aside0 (i + kq = l2.length) ∧ Aside0 (chOut (fun j => (impl_scene_inside.f k l0 l1 l2 j).map fun p => p.2.1) l1 l2 i = some acc) ∧ Aside0 (Kd.R kTwo 121 w' w.heap.size (fun _ => True) v3 acc) ∧ Aside0 (Below w.heap.size w w') ∧ Aside0 (w'.heap[w.heap.size]? = some (.cells #[.slice A0 l0.length c0, .slice A1 l1.length c1, .slice A2 l2.length c2] 59 (0, 0))))
  case atStart => exact ⟨0, [], rfl, ⟨by omega⟩, ⟨rfl⟩, ⟨Kd.R_nil _ _ _ _ _⟩, HB, BK⟩
  case round =>
    clear HB BK p2 SZ
    obtain ⟨i, acc, rfl, HL, HA, HO, HB, BK⟩ := hrel
    have p2 := cf2 BK.out
    by_cases hlt : i < l2.length
    · obtain ⟨ad2, rfl, x0, x1, x2⟩ := at_T45 H2.out i (by omega) (by omega)
      simp only [Int.toNat_natCast] at x0 x1 x2
      have y0 := (HB.out.cell (World.block_lt_of_cell? w _ x0)).trans x0
      have y1 := (HB.out.cell (World.block_lt_of_cell? w _ x1)).trans x1
      have y2 := (HB.out.cell (World.block_lt_of_cell? w _ x2)).trans x2
      clear x0 x1 x2
      go_wp2_with ((with_reducible refine gate_dst (N := 19) rfl ?_); refine park ?_)
      refine ⟨?_⟩
      obtain ⟨W2, hW, HB2, BK5, SZ⟩ := box1 wr (.cells #[.int .i64 (rd_T45 l2 i).f0, .int .i64 (rd_T45 l2 i).f1, .int .i64 (rd_T45 l2 i).f2] 45)
      rw [hW]
      clear hW y0 y1 y2 p2
      have HB := am_ (below_step HB.out HB2.out)
      have HO := am_ (Kd.R_below HO.out HB2.out)
      have BK := am_ (blk_below BK.out HB2.out)
      have q0 := cf0 BK5.out
      have p1 := cf1 BK.out
      have p2 := cf2 BK.out
      obtain ⟨ad1, rfl, _, _, z2⟩ := at_T87 H1.out i (by omega) (by omega)
      simp only [Int.toNat_natCast] at z2
      have y2 := (HB.out.cell (World.block_lt_of_cell? w _ z2)).trans z2
      clear z2 SZ HB2 BK5
      have hi1 : ((i : Int) < (l1.length : Int)) = True := eq_true (by omega)
      have hi2 : i < l1.length := by omega
      obtain ⟨acc', hA'⟩ := chOut_some HH.out (i + 1) (by omega)
      have hA2 := hA'
      simp only [chOut, HA.out, Option.bind_some] at hA2
      have HA' := am_ hA'; have HA2 := am_ hA2; clear hA' hA2
      by_cases h9 : (rd_T45 l2 i).f0 = 9
      · rw [h9] at q0
        by_cases h10 : (rd_T87 l1 i).f2 = true
        · rw [h10] at y2
          have HA2 := HA2.out
          rw [if_pos ⟨h9, h10⟩] at HA2
          obtain ⟨x, hx, hacc⟩ := Option.bind_eq_some_iff.mp HA2
          injection hacc with hacc
          subst hacc
          have HX := am_ hx
          clear hx h9 h10 HA2
          go_wp2_with fail
          clear q0 y2
          go_loopg [3, 34] l2.length (fun kq v3 v34 w' => ∃ (j : Nat) (ac : List Two), v34 = .int .i64 j ∧ Aside0 (j + kq = l2.length) ∧ Aside0 (chIn (fun j => (impl_scene_inside.f k l0 l1 l2 j).map fun p => p.2.1) l2 i j = some ac) ∧ Aside0 (Kd.R kTwo 121 w' w.heap.size (fun _ => True) v3 (acc ++ ac)) ∧ Aside0 (Below w.heap.size w w') ∧ Aside0 (w'.heap[w.heap.size]? = some (.cells #[.slice A0 l0.length c0, .slice (some ad1) l1.length c1, .slice (some ad2) l2.length c2] 59 (0, 0))))
          case atStart => exact ⟨0, [], rfl, ⟨by omega⟩, ⟨rfl⟩, ⟨by rw [List.append_nil]; exact HO.out⟩, HB, BK⟩
          case round =>
            clear HO HB BK p1 p2
            obtain ⟨j, ac, rfl, HL2, HC, HO, HB, BK⟩ := hrel
            have p1 := cf1 BK.out
            have p2 := cf2 BK.out
            obtain ⟨ac', hC'⟩ := chIn_some HX.out (min (j + 1) l2.length) (Nat.min_le_right _ _)
            by_cases hlj : j < l2.length
            · rw [Nat.min_eq_left (by omega)] at hC'
              have hC2 := hC'
              simp only [chIn, HC.out, Option.bind_some] at hC2
              have HC' := am_ hC'; have HC2 := am_ hC2; clear hC' hC2
              obtain ⟨ad2', he, x0, x1, x2⟩ := at_T45 H2.out j (by omega) (by omega)
              obtain rfl : ad2 = ad2' := by injection he
              simp only [Int.toNat_natCast] at x0 x1 x2
              have y0 := (HB.out.cell (World.block_lt_of_cell? w _ x0)).trans x0
              have y1 := (HB.out.cell (World.block_lt_of_cell? w _ x1)).trans x1
              have y2 := (HB.out.cell (World.block_lt_of_cell? w _ x2)).trans x2
              clear x0 x1 x2 he
              go_wp2_with ((with_reducible refine gate_dst (N := 39) rfl ?_); refine park ?_)
              refine ⟨?_⟩
              obtain ⟨W3, hW, HB2, BK5, SZ⟩ := box1 wr (.cells #[.int .i64 (rd_T45 l2 j).f0, .int .i64 (rd_T45 l2 j).f1, .int .i64 (rd_T45 l2 j).f2] 45)
              rw [hW]
              clear hW y0 y1 y2 p2 p1
              have HB := am_ (below_step HB.out HB2.out)
              have HO := am_ (Kd.R_below HO.out HB2.out)
              have BK := am_ (blk_below BK.out HB2.out)
              have q0 := cf0 BK5.out
              clear HB2 BK5 SZ
              by_cases h7 : (rd_T45 l2 j).f0 = 7
              · have HC2 := HC2.out
                rw [if_pos h7] at HC2
                obtain ⟨lv, hlv, hac⟩ := Option.bind_eq_some_iff.mp HC2
                obtain ⟨⟨s1, s2, s3⟩, hin, hs⟩ := Option.map_eq_some_iff.mp hlv
                subst hs
                injection hac with hac
                subst hac
                rw [h7] at q0
                have HIN := am_ hin
                clear h7 HC2 hlv hin
                have p0 := cf0 BK.out
                have p1 := cf1 BK.out
                have p2 := cf2 BK.out
                go_wp2_with (go_at_call 74; refine park ?_)
                refine ⟨?_⟩
                refine (impl_scene_inside.calls k _ _ l0 _ _ l1 _ _ l2 j s1 s2 s3 W3 (Kd.C_below H0.out HB.out) hc0 (Kd.C_below H1.out HB.out) hc1 (Kd.C_below H2.out HB.out) hc2 HIN.out).mono ?_
                rintro e w4 ⟨rfl, hb4⟩
                have HB := am_ (below_step HB.out hb4)
                have HO := am_ (Kd.R_below HO.out hb4)
                have BK := am_ (blk_below BK.out hb4)
                clear hb4 p0 p1 p2 q0
                dsimp only
                have hlen1 := chOut_len HA.out
                have hlen2 := chIn_len HC.out
                go_wp2_with (at_builtin; refine park ?_)
                refine ⟨?_⟩
                have hbd : ((acc ++ ac).length + 1) * 32 ≤ 140737488355328 := by
                  rw [List.length_append]
                  have := Nat.mul_le_mul (show i ≤ 1000 by omega) hl2
                  omega
                refine Kd.R_append kTwo (w0 := w) w.heap.size rfl (.tmp 49) (.tmp 58) 100 121 (.agg #[.int .i64 0, .int .i64 0, .int .i64 0, .int .i64 0]) 32 rfl Tryz.underlying100 info121' rfl (by decide) (by omega) _ (acc ++ ac) ⟨s2, i, i - 1, j⟩ [.int .i64 s2, .int .i64 i, .int .i64 (i - 1), .int .i64 j] (fun _ => True) (fun _ => False) rfl (by rfl) (kTwo_M _ _ _ _) (fun _ hk => hk.elim) (fun _ _ => trivial) HO.out HB.out HB.out.size hbd ?_
                intro v1 w1 ho1 hb1 hg1 hat1
                have BK := am_ (blk_grown BK.out hg1 (Kd.R_ne HO.out BK.out (by decide)))
                rw [List.append_assoc] at ho1
                have HO := am_ ho1
                have HB := am_ hb1
                clear ho1 hb1 hg1 hat1 hbd hlen1 hlen2
                go_wp2_with fail
                go_roundg (l2.length - (j + 1))
                case rel => exact ⟨j + 1, _, by simp, ⟨by omega⟩, HC', HO, HB, BK⟩
                case measure => have := HL2.out; omega
              · have HC2 := HC2.out
                rw [if_neg h7] at HC2
                injection HC2 with HC2
                subst HC2
                go_wp2_with fail
                go_roundg (l2.length - (j + 1))
                case rel => exact ⟨j + 1, ac, by simp, ⟨by omega⟩, HC', HO, HB, BK⟩
                case measure => have := HL2.out; omega
            · obtain rfl : j = l2.length := by have := HL2.out; omega
              obtain rfl : ac = x := Option.some.inj (HC.out.symm.trans HX.out)
              go_wp2_with fail
              go_roundg (l2.length - (i + 1))
              case rel => exact ⟨i + 1, _, by simp, ⟨by omega⟩, HA', HO, HB, BK⟩
              case measure => have := HL.out; omega
        · have h11 : (rd_T87 l1 i).f2 = false := by simpa using h10
          rw [h11] at y2
          have HA2 := HA2.out
          rw [if_neg (fun h => h10 h.2)] at HA2
          injection HA2 with HA2
          subst HA2
          clear h10 h11
          go_wp2_with fail
          go_roundg (l2.length - (i + 1))
          case rel => exact ⟨i + 1, acc, by simp, ⟨by omega⟩, HA', HO, HB, BK⟩
          case measure => have := HL.out; omega
      · have HA2 := HA2.out
        rw [if_neg (fun h => h9 h.1)] at HA2
        injection HA2 with HA2
        subst HA2
        go_wp2_with fail
        go_roundg (l2.length - (i + 1))
        case rel => exact ⟨i + 1, acc, by simp, ⟨by omega⟩, HA', HO, HB, BK⟩
        case measure => have := HL.out; omega
    · obtain rfl : i = l2.length := by have := HL.out; omega
      obtain rfl : acc = r := Option.some.inj (HA.out.symm.trans HH.out)
      go_wp2_with fail
      go_ret
      exact ⟨_, rfl, HO.out, HB.out⟩
def gRowO (F : Int → Int → Option Bool) (a : Int) : Nat → Option Int
  | 0 => some 0
  | b + 1 => (gRowO F a b).bind fun x => (F a b).bind fun t => some (if t = true then Go.bits .or .u64 x (shl .u64 1 b) else x)
def gOfO (F : Int → Int → Option Bool) (n : Nat) : Nat → Option (List Int)
  | 0 => some []
  | m + 1 => (gOfO F n m).bind fun l => (gRowO F m n).bind fun x => some (l ++ [x])
theorem gRowO_is {F : Int → Int → Option Bool} {a : Int} : ∀ {n : Nat} {x : Int}, gRowO F a n = some x → x = gRow (fun a b => (F a b).getD false) a n ∧ ∀ b : Nat, b < n → F a b = some ((F a b).getD false) := by
  intro n
  induction n with
  | zero => intro x h; injection h with h; exact ⟨h.symm, fun b hb => by omega⟩
  | succ n ih =>
    intro x h
    obtain ⟨y, hy, h⟩ := Option.bind_eq_some_iff.mp h
    obtain ⟨t, ht, h⟩ := Option.bind_eq_some_iff.mp h
    injection h with h
    obtain ⟨rfl, h2⟩ := ih hy
    refine ⟨?_, fun b hb => ?_⟩
    · rw [← h]; simp only [gRow, ht, Option.getD_some]
    · by_cases hbn : b < n
      · exact h2 b hbn
      · obtain rfl : b = n := by omega
        rw [ht]; rfl
theorem gOfO_is {F : Int → Int → Option Bool} {n : Nat} : ∀ {m : Nat} {l : List Int}, gOfO F n m = some l → l = (List.range m).map (fun (a : Nat) => gRow (fun a b => (F a b).getD false) a n) ∧ ∀ a b : Nat, a < m → b < n → F a b = some ((F a b).getD false) := by
  intro m
  induction m with
  | zero => intro l h; injection h with h; exact ⟨h.symm, fun a b ha => by omega⟩
  | succ m ih =>
    intro l h
    obtain ⟨l', hl', h⟩ := Option.bind_eq_some_iff.mp h
    obtain ⟨x, hx, h⟩ := Option.bind_eq_some_iff.mp h
    injection h with h
    obtain ⟨rfl, h2⟩ := ih hl'
    obtain ⟨rfl, h3⟩ := gRowO_is hx
    refine ⟨by rw [← h, List.range_succ, List.map_append]; rfl, fun a b ha hb => ?_⟩
    by_cases ham : a < m
    · exact h2 a b ham hb
    · obtain rfl : a = m := by omega
      exact h3 b hb
def settled_f (k : Nat) (l0 : List (List S45)) (l1 : List S87) (l2 : List S45) (x0 : List Int) (x1 : List (List Int)) (kd : Int) : Option Bool :=
  if l1.length ≤ 1000000 then
    (gOfO (cl1_f k l0 l1 l2 x0 x1) l1.length l1.length).bind fun g => (impl_graph_line.f k g).bind fun p => if p.2 = false then some false else
    (gOfO (has_f k l0 l1 l2 x0 x1 kd) l1.length l1.length).bind fun g2 => (choices_f k l0 l1 l2).bind fun chs => settle_f k g2 chs
  else none
set_option maxHeartbeats 8000000 in
set_option maxRecDepth 100000 in
theorem settled_calls (k : Nat) (A0 : Option Addr) (c0 : Nat) (l0 : List (List S45)) (A1 : Option Addr) (c1 : Nat) (l1 : List S87) (A2 : Option Addr) (c2 : Nat) (l2 : List S45) (A3 : Option Addr) (c3 : Nat) (x0 : List Int) (A4 : Option Addr) (c4 : Nat) (x1 : List (List Int)) (kd : Int) (r : Bool) (w : World)
    (hr0 : Kd.C (Kd.slice 45 k45) w A0 l0.length l0) (hc0 : l0.length ≤ c0) (hr1 : Kd.C k87 w A1 l1.length l1) (hc1 : l1.length ≤ c1) (hr2 : Kd.C k45 w A2 l2.length l2) (hc2 : l2.length ≤ c2) (hr3 : Kd.C (Kd.int .i64) w A3 x0.length x0) (hc3 : x0.length ≤ c3) (hr4 : Kd.C (Kd.slice 3 (Kd.int .i64)) w A4 x1.length x1) (hc4 : x1.length ≤ c4)
    (h : settled_f k l0 l1 l2 x0 x1 kd = some r) (hT : Tab w) :
    Calls Tryz.prog 28 #[.agg #[.slice A0 l0.length c0, .slice A1 l1.length c1, .slice A2 l2.length c2], .agg #[.slice A3 x0.length c3, .slice A4 x1.length c4], .int .i64 kd] w fun e w' => (∃ v, e = .returned (.tuple #[v, .bool r])) ∧ Below w.heap.size w w' := by
  unfold settled_f at h
  split at h
  case isFalse => cases h
  rename_i hl
  obtain ⟨g1, hg1, h⟩ := Option.bind_eq_some_iff.mp h
  obtain ⟨⟨gl, pb⟩, hp, h⟩ := Option.bind_eq_some_iff.mp h
  obtain ⟨e1, d1⟩ := gOfO_is hg1
  have H0 := am_ hr0; have H1 := am_ hr1; have H2 := am_ hr2; have H3 := am_ hr3; have H4 := am_ hr4; have HT := am_ hT; have HH := am_ h; have HP := am_ hp; have D1 := am_ d1; have E1 := am_ e1
  clear hr0 hr1 hr2 hr3 hr4 hT h hp d1 e1 hg1
  obtain ⟨W1, hW, HB, BK, SZ⟩ := box1 w (.cells #[.slice A0 l0.length c0, .slice A1 l1.length c1, .slice A2 l2.length c2] 59)
  obtain ⟨W2, hW2, HB2, BKx, SZ2⟩ := box1 W1 (.cells #[.slice A3 x0.length c3, .slice A4 x1.length c4] 65)
  obtain ⟨W3, hW3, HB3, BKk, SZ3⟩ := box1 W2 (.cells #[.int .i64 kd] 3)
  have hs1 := SZ.out
  have hs2 := SZ2.out
  rw [hs1] at hs2
  rw [hs1] at BKx
  rw [hs2] at BKk
  have BK := am_ (blk_below (blk_below BK.out HB2.out) HB3.out)
  have BKx := am_ (blk_below BKx.out HB3.out)
  have HB := am_ (below_step (below_step HB.out HB2.out) HB3.out)
  have p0 := cf0 BK.out
  have p1 := cf1 BK.out
  have p2 := cf2 BK.out
  go_enter Tryz.func28, Tryz.ntmps28
  go_wp2_with (go_at_call 49; refine park ?_)
  refine ⟨?_⟩
  have hcl := fun (W : World) (a b : Nat) (hW : Below W3.heap.size W3 W) (ha : a < l1.length) (hb : b < l1.length) =>
    have hB := below_step HB.out hW
    cl1_calls k w.heap.size (w.heap.size + 1) A0 c0 l0 A1 c1 l1 A2 c2 l2 A3 c3 x0 A4 c4 x1 a b _ W (Kd.C_below H0.out hB) hc0 (Kd.C_below H1.out hB) hc1 (Kd.C_below H2.out hB) hc2 (Kd.C_below H3.out hB) hc3 (Kd.C_below H4.out hB) hc4 (blk_below BK.out hW) (blk_below BKx.out hW) (D1.out a b ha hb)
  refine (graph_calls 50 #[.pointer (some ⟨w.heap.size, 0, none⟩), .pointer (some ⟨w.heap.size + 1, 0, none⟩)] (enters_ Tryz.func50 (by kernel_rfl) rfl) (fun a b => (cl1_f k l0 l1 l2 x0 x1 a b).getD false) A0 c0 l0 A1 c1 l1.length A2 c2 l2 W3 hl hcl).mono ?_
  rintro e w4 ⟨v4, rfl, hR4, hb4⟩
  rw [show gOf (fun a b => (cl1_f k l0 l1 l2 x0 x1 a b).getD false) l1.length = g1 from E1.out.symm] at hR4
  obtain ⟨A', c', rfl, hle, hC⟩ := Kd.R_reads hR4
  have HC := am_ hC
  have HB := am_ (below_step HB.out hb4)
  have BK := am_ (blk_below BK.out hb4)
  have BKx := am_ (blk_below BKx.out hb4)
  have BKk := am_ (blk_below BKk.out hb4)
  clear hcl hR4 hC hb4 p0 p1 p2 hW hW2 hW3 SZ SZ2 SZ3 HB2 HB3 hs1 hs2
  dsimp only
  go_wp2_with (go_at_call 53; refine park ?_)
  refine ⟨?_⟩
  refine (impl_graph_line.calls k A' c' g1 gl pb w4 HC.out hle HP.out (Tab.below HT.out HB.out)).mono ?_
  rintro e w5 ⟨v5, rfl, _, hb5⟩
  have HB := am_ (below_step HB.out hb5)
  have BK := am_ (blk_below BK.out hb5)
  have BKx := am_ (blk_below BKx.out hb5)
  have BKk := am_ (blk_below BKk.out hb5)
  clear hb5 HC hle
  dsimp only
  cases pb
  · obtain rfl : false = r := Option.some.inj (show some false = some r from HH.out)
    go_wp2_with fail
    go_ret2
    exact ⟨⟨_, rfl⟩, HB.out⟩
  · obtain ⟨g2, hg2, h⟩ := Option.bind_eq_some_iff.mp (show ((gOfO (has_f k l0 l1 l2 x0 x1 kd) l1.length l1.length).bind fun g2 => (choices_f k l0 l1 l2).bind fun chs => settle_f k g2 chs) = some r from HH.out)
    obtain ⟨chs, hch, hse⟩ := Option.bind_eq_some_iff.mp h
    obtain ⟨e2, d2⟩ := gOfO_is hg2
    have D2 := am_ d2; have E2 := am_ e2; have CH := am_ hch; have SE := am_ hse
    clear hg2 h e2 d2 hch hse HH
    go_wp2_with fail
    have HB := am_ (below_drew1 HB.out)
    have BK := am_ (blk_drew BK.out)
    have BKx := am_ (blk_drew BKx.out)
    have BKk := am_ (blk_drew BKk.out)
    have p0 := cf0 BK.out
    have p1 := cf1 BK.out
    have p2 := cf2 BK.out
    have HG := am_ (graph_calls 54 #[.pointer (some ⟨w.heap.size, 0, none⟩), .pointer (some ⟨w.heap.size + 1, 0, none⟩), .pointer (some ⟨w.heap.size + 1 + 1, 0, none⟩)] (enters_ Tryz.func54 (by kernel_rfl) rfl) (fun a b => (has_f k l0 l1 l2 x0 x1 kd a b).getD false) A0 c0 l0 A1 c1 l1.length A2 c2 l2 w5.drew hl
      (fun (W : World) (a b : Nat) (hW : Below w5.drew.heap.size w5.drew W) (ha : a < l1.length) (hb : b < l1.length) =>
        have hB := below_step HB.out hW
        cl2_calls k w.heap.size (w.heap.size + 1) (w.heap.size + 1 + 1) A0 c0 l0 A1 c1 l1 A2 c2 l2 A3 c3 x0 A4 c4 x1 kd a b _ W (Kd.C_below H0.out hB) hc0 (Kd.C_below H1.out hB) hc1 (Kd.C_below H2.out hB) hc2 (Kd.C_below H3.out hB) hc3 (Kd.C_below H4.out hB) hc4 (blk_below BK.out hW) (blk_below BKx.out hW) (blk_below BKk.out hW) (D2.out a b ha hb)))
    go_region_held3 (fun W => W.cell? ⟨w.heap.size, 0, none⟩ = some (.slice A0 l0.length c0) ∧ W.cell? ⟨w.heap.size, 1, none⟩ = some (.slice A1 l1.length c1) ∧ W.cell? ⟨w.heap.size, 2, none⟩ = some (.slice A2 l2.length c2)) (go_keep)
      (first
        | (go_at_call 49; (with_reducible refine HG.out.mono ?_); rintro e w6 ⟨v6, rfl, hR6, hb6⟩; rw [show gOf (fun a b => (has_f k l0 l1 l2 x0 x1 kd a b).getD false) l1.length = g2 from E2.out.symm] at hR6; obtain ⟨A6, c6, rfl, hle6, hC6⟩ := Kd.R_reads hR6; have HC6 := am_ hC6; replace p0 := pw_cell_below hb6 p0; replace p1 := pw_cell_below hb6 p1; replace p2 := pw_cell_below hb6 p2; replace HB := am_ (below_step HB.out hb6); clear hb6 hC6 hR6)
        | (go_at_call 57; (with_reducible refine (choices_calls k A0 c0 l0 A1 c1 l1 A2 c2 l2 chs _ (Kd.C_below H0.out HB.out) hc0 (Kd.C_below H1.out HB.out) hc1 (Kd.C_below H2.out HB.out) hc2 CH.out).mono ?_); rintro e w7 ⟨v7, rfl, hR7, hb7⟩; obtain ⟨A7, c7, rfl, hle7, hC7⟩ := Kd.R_reads hR7; have HC7 := am_ hC7; replace HC6 := am_ (Kd.C_below HC6.out hb7); replace p0 := pw_cell_below hb7 p0; replace p1 := pw_cell_below hb7 p1; replace p2 := pw_cell_below hb7 p2; replace HB := am_ (below_step HB.out hb7); clear hb7 hC7 hR7)
        | (go_at_call 56; (with_reducible refine (settle_calls k A6 c6 g2 A7 c7 chs r _ HC6.out hle6 HC7.out hle7 SE.out (Tab.below HT.out HB.out)).mono ?_); rintro e w8 ⟨⟨v8, rfl⟩, hb8⟩; replace p0 := pw_cell_below hb8 p0; replace p1 := pw_cell_below hb8 p1; replace p2 := pw_cell_below hb8 p2; replace HB := am_ (below_step HB.out hb8); clear hb8))
    go_wp2_with fail
    go_ret2
    exact ⟨⟨_, rfl⟩, HB.out⟩
end Go.Proofs.YtmkchdlkpbnldaaGreatDoor.PB
namespace Go.Proofs.YtmkchdlkpbnldaaGreatDoor.PB
open Go.RowKit Go.Proofs.YtmkchdlkpbnldaaGreatDoorW.PrintWords Go.Proofs.YtmkchdlkpbnldaaGreatDoorW.PrintLast Go.Proofs.YtmkchdlkpbnldaaGreatDoorW.PrintMore
open Go.Proofs.YtmkchdlkpbnldaaGreatDoorMine Go.Sort
set_option linter.unusedVariables false
set_option linter.unusedSimpArgs false
def cmpL : List Int → List Int → Int
  | [], [] => 0
  | [], _ :: _ => -1
  | _ :: _, [] => 1
  | a :: xs, b :: ys => if a < b then -1 else if b < a then 1 else cmpL xs ys
def cmpS (a b c d : List Int) : Int := if cmpL a c = 0 then cmpL b d else cmpL a c
theorem cmp_int (a b : Int) : cmp_Compare_int.f a b = some (if a < b then -1 else if b < a then 1 else 0) := by
  unfold cmp_Compare_int.f cmp_isNaN_int.f
  by_cases h1 : a < b
  · simp [h1]
  · by_cases h2 : b < a <;> simp [h1, h2]
theorem compare_l0 (l0 l1 : List Int) : ∀ (k i : Nat), i ≤ l0.length → l0.length - i < k → l0.length < 9223372036854775807 → slices_Compare_int_int.l0 k l0 l1 l0 (l0.length : Int) i = some (cmpL (l0.drop i) (l1.drop i)) := by
  intro k
  induction k with
  | zero => intro i _ h; omega
  | succ k ih =>
    intro i hi hk hb
    simp only [slices_Compare_int_int.l0]
    by_cases hlt : i < l0.length
    · rw [if_pos (by omega), if_pos (by omega), if_pos (by omega)]
      rw [List.drop_eq_getElem_cons hlt]
      by_cases hge : l1.length ≤ i
      · rw [if_pos (by omega), List.drop_eq_nil_of_le hge]; rfl
      · have hl1 : i < l1.length := by omega
        rw [if_neg (by omega), if_pos (by omega), List.drop_eq_getElem_cons hl1, cmp_int]
        have r0 : rd l0 (i : Int) = l0[i] := by simp [rd, hlt]
        have r1 : rd l1 (i : Int) = l1[i] := by simp [rd, hl1]
        rw [r0, r1]
        simp only [Option.bind_some, cmpL]
        by_cases h1 : l0[i] < l1[i]
        · rw [if_pos h1, if_pos h1, if_neg (by decide)]
        · by_cases h2 : l1[i] < l0[i]
          · rw [if_neg h1, if_pos h2, if_neg h1, if_pos h2, if_neg (by decide)]
          · rw [if_neg h1, if_neg h2, if_neg h1, if_neg h2, if_pos rfl]
            rw [show wrap64 ((i : Int) + 1) = ((i + 1 : Nat) : Int) from by unfold wrap64; omega]
            exact ih (i + 1) (by omega) (by omega) hb
    · obtain rfl : i = l0.length := by omega
      rw [if_neg (by omega), List.drop_length]
      by_cases h1 : l0.length < l1.length
      · rw [if_pos (by omega), List.drop_eq_getElem_cons h1]; rfl
      · rw [if_neg (by omega), List.drop_eq_nil_of_le (by omega)]; rfl
theorem compare_is (l0 l1 : List Int) (k : Nat) (hk : l0.length < k) (hb : l0.length < 9223372036854775807) : slices_Compare_int_int.f k l0 l1 = some (cmpL l0 l1) := by
  have := compare_l0 l0 l1 k 0 (Nat.zero_le _) (by omega) hb
  simpa [slices_Compare_int_int.f] using this
theorem or_is (a b : Int) : cmp_Or_int.f 3 [a, b] = some (if a = 0 then b else a) := by
  by_cases h : a = 0
  · subst h
    by_cases h2 : b = 0
    · subst h2; simp [cmp_Or_int.f, cmp_Or_int.l0, rd, wrap64]
    · simp [cmp_Or_int.f, cmp_Or_int.l0, rd, wrap64, h2]
  · simp [cmp_Or_int.f, cmp_Or_int.l0, rd, wrap64, h]
def Grew (w w' : World) : Prop := ∃ q os, w' = grow (w.drewN q) os
theorem Grew.refl (w : World) : Grew w w := ⟨0, #[], by simp [grow]; rfl⟩
theorem Grew.drewN {w W : World} (h : Grew w W) (m : Nat) : Grew w (W.drewN m) := by
  obtain ⟨q, os, rfl⟩ := h
  exact ⟨q + m, os, by simp [grow, World.drewN, Nat.add_assoc]⟩
theorem Grew.drew {w W : World} (h : Grew w W) : Grew w W.drew := h.drewN 1
theorem Grew.alloc {w W : World} (h : Grew w W) (o : Obj) : Grew w (W.alloc o) := by
  obtain ⟨q, os, rfl⟩ := h
  exact ⟨q, os ++ #[o], by rw [alloc_eq_grow, grow_grow]⟩
theorem Grew.below {w W : World} (h : Grew w W) : Below w.heap.size w W := by
  obtain ⟨q, os, rfl⟩ := h
  exact ⟨rfl, rfl, rfl, by simp [grow, World.drewN], fun k hk => by simp [grow, World.drewN, Array.getElem?_append_left hk]⟩
theorem cell_dr {w w' : World} {a : Addr} {v : Value} (hd : Drawn0 w w') (h : w.cell? a = some v) : w'.cell? a = some v := by obtain ⟨n, rfl⟩ := hd.out; exact h
theorem cell_al {w : World} {a : Addr} {v : Value} (h : w.cell? a = some v) (o : Obj) : (w.alloc o).cell? a = some v := pw_cell_below (below_alloc (Below.refl _ _) o) h
theorem Grew.dr {w W W' : World} (h : Grew w W) (hd : Drawn0 W W') : Grew w W' := by obtain ⟨n, rfl⟩ := hd.out; exact h.drewN n
theorem or_calls2 (l0 l1 m0 m1 : List Int) (W : World) : Calls Tryz.prog 80 #[.slice (some ⟨W.heap.size, 0, none⟩) 2 2] (W.alloc (.cells #[.int .i64 (cmpL l0 m0), .int .i64 (cmpL l1 m1)] 3)) fun e w' => e = .returned (.int .i64 (cmpS l0 l1 m0 m1)) ∧ Drawn0 (W.alloc (.cells #[.int .i64 (cmpL l0 m0), .int .i64 (cmpL l1 m1)] 3)) w' :=
  cmp_Or_int.calls 3 _ 2 [cmpL l0 m0, cmpL l1 m1] _ _ (int_C [cmpL l0 m0, cmpL l1 m1] (heap_alloc_new _ _) rfl (by simp)) (Nat.le_refl 2) (or_is _ _)
set_option maxHeartbeats 8000000 in
set_option maxRecDepth 100000 in
theorem compare_holds (A0 : Option Addr) (c0 : Nat) (l0 : List Int) (A1 : Option Addr) (c1 : Nat) (l1 : List Int) (A2 : Option Addr) (c2 : Nat) (m0 : List Int) (A3 : Option Addr) (c3 : Nat) (m1 : List Int) (w : World)
    (h0 : Kd.C (Kd.int .i64) w A0 l0.length l0) (hc0 : l0.length ≤ c0) (h1 : Kd.C (Kd.int .i64) w A1 l1.length l1) (hc1 : l1.length ≤ c1) (h2 : Kd.C (Kd.int .i64) w A2 m0.length m0) (hc2 : m0.length ≤ c2) (h3 : Kd.C (Kd.int .i64) w A3 m1.length m1) (hc3 : m1.length ≤ c3) (hl0 : l0.length < 1000000) (hl1 : l1.length < 1000000) :
    Calls Tryz.prog 62 #[.agg #[.slice A0 l0.length c0, .slice A1 l1.length c1], .agg #[.slice A2 m0.length c2, .slice A3 m1.length c3]] w fun e w' => e = .returned (.int .i64 (cmpS l0 l1 m0 m1)) ∧ Grew w w' := by
  have H0 := am_ h0; have H1 := am_ h1; have H2 := am_ h2; have H3 := am_ h3
  clear h0 h1 h2 h3
  obtain ⟨w2, hW, BK0, BK1, HB⟩ := box2 w (.cells #[.slice A0 l0.length c0, .slice A1 l1.length c1] 35) (.cells #[.slice A2 m0.length c2, .slice A3 m1.length c3] 35)
  have HG := am_ (show Grew w w2 from hW ▸ ((Grew.refl w).alloc _).alloc _)
  go_enter Tryz.func62, Tryz.ntmps62
  go_wp2_with fail
  clear hW
  have BK0 := am_ (blk_drew BK0.out)
  have BK1 := am_ (blk_drew BK1.out)
  have HG := am_ (Grew.drew HG.out)
  have p0 := cf0 BK0.out
  have p1 := cf1 BK0.out
  have p2 := cf0 BK1.out
  have p3 := cf1 BK1.out
  have K0 := am_ (compare_is l0 m0 (l0.length + 1) (Nat.lt_succ_self _) (by omega))
  have K1 := am_ (compare_is l1 m1 (l1.length + 1) (Nat.lt_succ_self _) (by omega))
  have K2 := am_ (or_is (cmpL l0 m0) (cmpL l1 m1))
  go_region_held3 (fun W => W.cell? ⟨w.heap.size, 0, none⟩ = some (.slice A0 l0.length c0) ∧ W.cell? ⟨w.heap.size, 1, none⟩ = some (.slice A1 l1.length c1) ∧ W.cell? ⟨w.heap.size + 1, 0, none⟩ = some (.slice A2 m0.length c2) ∧ W.cell? ⟨w.heap.size + 1, 1, none⟩ = some (.slice A3 m1.length c3)) (go_keep)
    (first
      | (go_at_call 81; (with_reducible refine (slices_Compare_int_int.calls (l0.length + 1) A0 c0 l0 A2 c2 m0 _ _ (Kd.C_below H0.out HG.out.below) hc0 (Kd.C_below H2.out HG.out.below) hc2 K0.out).mono ?_); rintro e w3 ⟨rfl, hd⟩; replace p0 := cell_dr hd p0; replace p1 := cell_dr hd p1; replace p2 := cell_dr hd p2; replace p3 := cell_dr hd p3; replace HG := am_ (Grew.dr HG.out hd); clear hd)
      | (go_at_call 81; (with_reducible refine (slices_Compare_int_int.calls (l1.length + 1) A1 c1 l1 A3 c3 m1 _ _ (Kd.C_below H1.out HG.out.below) hc1 (Kd.C_below H3.out HG.out.below) hc3 K1.out).mono ?_); rintro e w4 ⟨rfl, hd⟩; replace p0 := cell_dr hd p0; replace p1 := cell_dr hd p1; replace p2 := cell_dr hd p2; replace p3 := cell_dr hd p3; replace HG := am_ (Grew.dr HG.out hd); clear hd)
      | (go_at_call 80; (with_reducible refine (or_calls2 l0 l1 m0 m1 _).mono ?_); rintro e w5 ⟨rfl, hd⟩; replace HG := am_ (Grew.alloc HG.out (.cells #[.int .i64 (cmpL l0 m0), .int .i64 (cmpL l1 m1)] 3)); replace p0 := cell_dr hd (cell_al p0 _); replace p1 := cell_dr hd (cell_al p1 _); replace p2 := cell_dr hd (cell_al p2 _); replace p3 := cell_dr hd (cell_al p3 _); replace HG := am_ (Grew.dr HG.out hd); clear hd))
  go_wp2_with fail
  go_ret
  exact ⟨rfl, HG.out⟩
end Go.Proofs.YtmkchdlkpbnldaaGreatDoor.PB
