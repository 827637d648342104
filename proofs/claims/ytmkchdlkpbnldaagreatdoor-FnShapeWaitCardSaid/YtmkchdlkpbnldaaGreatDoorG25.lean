/- What the laws share, part 25: PBx23. -/
import Derived.Test.YtmkchdlkpbnldaaGreatDoorG4
import Derived.Test.YtmkchdlkpbnldaaGreatDoorG5
import Derived.Maps.OwnOps
namespace Go.Proofs.YtmkchdlkpbnldaaGreatDoor.PB
open Go.RowKit Go.Proofs.YtmkchdlkpbnldaaGreatDoorW.PrintWords Go.Proofs.YtmkchdlkpbnldaaGreatDoorW.PrintLast Go.Proofs.YtmkchdlkpbnldaaGreatDoorW.PrintMore
attribute [local go_sem] max2_int min2_int max_two min_two max_three min_three max_four min_four
open Go.Proofs.YtmkchdlkpbnldaaGreatDoorMine
set_option linter.unusedVariables false
set_option linter.unusedSimpArgs false
def kindOf (k : Int) : Int := if k = 1 then 6 else if k = 2 then 5 else 0
theorem zeroI (w : World) : (zeroValue 3).run Tryz.prog w = .ok (.int .i64 0) w := by kernel_rfl
def madeMap : DataW Unit := .map [(.int .i64 1, .lit (.int .i64 6)), (.int .i64 2, .lit (.int .i64 5))]
theorem madeMap_put : (DataW.put (DataW.put (DataW.map (H := Unit) []) (.int .i64 1) (.lit (.int .i64 6))) (.int .i64 2) (.lit (.int .i64 5))) = madeMap := by kernel_rfl
theorem madeMap_at (k : Int) : madeMap.atKey (.int .i64 k) (.lit (.int .i64 0)) = .lit (.int .i64 (kindOf k)) := by
  unfold madeMap DataW.atKey kindOf
  by_cases h1 : k = 1
  · subst h1; rfl
  by_cases h2 : k = 2
  · subst h2; rfl
  have e1 : Lit.sameKey (.int .i64 1) (.int .i64 k) = false := by simp [Lit.sameKey]; omega
  have e2 : Lit.sameKey (.int .i64 2) (.int .i64 k) = false := by simp [Lit.sameKey]; omega
  simp [List.find?, e1, e2, h1, h2]
def KindMap (w : World) (b : Nat) : Prop := w.ownsMap Tryz.prog 3 (plainElem (H := Unit) Tryz.prog 3) b 2 madeMap
theorem kindMap_look {w : World} {b : Nat} (h : KindMap w b) (k : Int) (hk : (Lit.int .i64 k).wf = true) : (Instr.lookup 82 (.map (some b)) (.int .i64 k) false).run Tryz.prog w = .ok (.int .i64 (kindOf k)) w := by
  obtain ⟨c, hrun, hat, _⟩ := World.ownsMap.lookup_int h (Maps.int_keyed Tryz.underlying3) Tryz.underlying82 Tryz.underlying3 (zeroI w) (Maps.keyOf_int_mk Tryz.underlying3 hk)
  rw [madeMap_at] at hat
  have e : kindOf k = c := by cases hat; rfl
  rw [e]; exact hrun
set_option maxRecDepth 100000 in
theorem kindMap_made (w : World) : ∃ w1 w2, (Instr.mapUpdate 82 (.map (some w.heap.size)) (.int .i64 1) (.int .i64 6)).run Tryz.prog (w.alloc (.map #[] 0)) = .ok () w1 ∧
    (Instr.mapUpdate 82 (.map (some w.heap.size)) (.int .i64 2) (.int .i64 5)).run Tryz.prog w1 = .ok () w2 ∧ KindMap w2 w.heap.size ∧ Below w.heap.size w w2 ∧ w.heap.size < w2.heap.size := by
  have h0 := World.ownsMap_made (H := Unit) w Tryz.prog 3 (plainElem Tryz.prog 3)
  obtain ⟨w1, r1, h1, g1⟩ := World.ownsMap.update h0 (Maps.int_keyed Tryz.underlying3) Tryz.underlying82 (by unfold maxLen; omega) (Maps.keyOf_int_mk Tryz.underlying3 (a := 1) (WalkArith.wf_i64 (by omega))) (plainElem_int Tryz.underlying3 (a := 6) (WalkArith.wf_i64 (by omega)))
  obtain ⟨w2, r2, h2, g2⟩ := World.ownsMap.update h1 (Maps.int_keyed Tryz.underlying3) Tryz.underlying82 (by unfold maxLen; omega) (Maps.keyOf_int_mk Tryz.underlying3 (a := 2) (WalkArith.wf_i64 (by omega))) (plainElem_int Tryz.underlying3 (a := 5) (WalkArith.wf_i64 (by omega)))
  rw [madeMap_put] at h2
  refine ⟨w1, w2, r1, r2, h2, ?_, ?_⟩
  · exact ((below_alloc (Below.refl _ _) _).grown g1 (by simp) (fun k hk => by injection hk with hk; omega)).grown g2 (by have := g1.size; simp at this; omega) (fun k hk => by injection hk with hk; omega)
  have := g1.size; have := g2.size; simp at *; omega
theorem KindMap.below {w w1 : World} {b : Nat} (h : KindMap w b) (hb : Below w.heap.size w w1) : KindMap w1 b := World.ownsMap.kept h (grown_of_below hb none) (by simp)
theorem KindMap.grown {w w1 : World} {b : Nat} {row : Option Nat} (h : KindMap w b) (hg : w.grownBy w1 row) (hne : some b ≠ row) : KindMap w1 b := World.ownsMap.kept h hg hne
theorem KindMap.ne {α : Type} {d : Kd α} {w : World} {b e base : Nat} {ok : Nat → Prop} {v : Value} {xs : List α} (h : KindMap w b) (hr : d.R e w base ok v xs) : some b ≠ v.ownBlock := by
  intro hk
  obtain ⟨cells, hc⟩ := Kd.R_typed hr b hk.symm
  obtain ⟨es, clock, hb, _⟩ := h
  rw [hb] at hc
  cases hc
def writesB (d : S45) : Bool := d.f0 == 1 || d.f0 == 3 || d.f0 == 6
def readsB (d : S45) : Bool := d.f0 == 2 || d.f0 == 5
def madeStep (how : Int) (two r0 : Bool) (i : Nat) (d : S79) : List S45 :=
  let st : S45 := if how = 2 ∧ d.f1 = false ∧ kindOf d.f0.f0 > 0 then ⟨kindOf d.f0.f0, d.f0.f1, d.f0.f2⟩ else if how = 3 ∧ two = true ∧ i = 1 ∧ r0 = true ∧ writesB d.f0 = true then ⟨3, d.f0.f1, 0⟩ else d.f0
  if how = 1 ∧ two = true ∧ i = 1 then [⟨4, 0, 0⟩, st] else [st]
def madeTo (how : Int) (l0 : List S79) : Nat → List S45
  | 0 => []
  | k + 1 => madeTo how l0 k ++ madeStep how (l0.length == 2) (readsB (rd_T79 l0 0).f0) k (rd_T79 l0 k)
theorem madeStep_len (how : Int) (two r0 : Bool) (i : Nat) (d : S79) : (madeStep how two r0 i d).length ≤ 2 := by unfold madeStep; simp only; split <;> simp
theorem madeTo_len (how : Int) (l0 : List S79) (k : Nat) : (madeTo how l0 k).length ≤ 2 * k := by
  induction k with
  | zero => simp [madeTo]
  | succ k ih => have := madeStep_len how (l0.length == 2) (readsB (rd_T79 l0 0).f0) k (rd_T79 l0 k); simp only [madeTo, List.length_append]; omega
def MadeRel (l0 : List S79) (how : Int) (w : World) (v i : Value) (wr : World) : Prop :=
  ∃ x : Int, i = .int .i64 x ∧ 0 ≤ x ∧ x ≤ l0.length ∧ Aside0 (Kd.R k45 45 wr w.heap.size (fun _ => True) v (madeTo how l0 x.toNat)) ∧ Aside0 (Below w.heap.size w wr) ∧ Aside0 (KindMap wr w.heap.size)
theorem made_app {ops : Array Oper} {rest : List Oper} {o : Oper} {a : Act} {Q : Exit → Act → World → Prop} {w W : World} {u : Value} {xs : List S45} (k p v : Int) (hgd : o.guard = none) (s x : Operand)
    (ho : o.op = .call { callee := .builtin .append, args := #[s, x], argTypes := #[42, 42] }) (hs : a.eval s = u) (g : Nat) (hg : g = W.heap.size) (hx : a.eval x = .slice (some ⟨g, 0, none⟩) 1 1)
    (HO : Kd.R k45 45 W w.heap.size (fun _ => True) u xs) (HB : Below w.heap.size w W) (HM : KindMap W w.heap.size) (hl : xs.length ≤ 1000)
    (h : ∀ v1 w1, Aside0 (Kd.R k45 45 w1 w.heap.size (fun _ => True) v1 (xs ++ [⟨k, p, v⟩])) → Aside0 (Below w.heap.size w w1) → Aside0 (KindMap w1 w.heap.size) → Aside0 (W.grownBy w1 u.ownBlock) → wpList Tryz.prog ops Q rest (a.put o.dst v1) w1) :
    wpList Tryz.prog ops Q (o :: rest) a (W.alloc (.cells #[.int .i64 k, .int .i64 p, .int .i64 v] 45)) := by
  subst hg
  refine Kd.R_append k45 (w0 := w) w.heap.size hgd s x 42 45 (.agg #[(.int .i64 0), (.int .i64 0), (.int .i64 0)]) 24 ho Tryz.underlying42 info45 rfl (by decide) (by omega) u xs ⟨k, p, v⟩ [.int .i64 k, .int .i64 p, .int .i64 v] (fun _ => True) (fun _ => False) hs hx (k45_mkM _ _ _ _) (fun _ h => h.elim) (fun _ _ => trivial) HO HB HB.size (by omega) ?_
  intro v1 w1 ho1 hb1 hg1 _
  exact h v1 w1 ⟨ho1⟩ ⟨hb1⟩ ⟨HM.grown hg1 (HM.ne HO)⟩ ⟨hg1⟩
theorem grown_set (w : World) (a : Addr) (u : Value) : w.grownBy (w.setCell a u) (some a.block) := ⟨rfl, rfl, rfl, by simp [World.setCell], fun i _ hne => Below.heap_setCell w a u i (fun e => hne (by rw [e]))⟩
theorem reads_eq (k p v : Int) : impl_Do_reads.f k p v = some (readsB ⟨k, p, v⟩) := by
  unfold impl_Do_reads.f readsB
  split
  · rename_i h; subst h; rfl
  rename_i h; simp [h]
theorem writes_eq (k p v : Int) : impl_Do_writes.f k p v = some (writesB ⟨k, p, v⟩) := by
  unfold impl_Do_writes.f writesB
  split
  · rename_i h; subst h; rfl
  split
  · rename_i h; subst h; rfl
  rename_i h h'; simp [h, h']
theorem rd_mem (l0 : List S79) (x : Int) (h0 : 0 ≤ x) (h1 : x < l0.length) : rd_T79 l0 x ∈ l0 := by
  unfold rd_T79
  rw [List.getD_eq_getElem?_getD, List.getElem?_eq_getElem (show x.toNat < l0.length by omega)]
  exact List.getElem_mem _
theorem madeTo_next (how : Int) (l0 : List S79) (x : Int) (h0 : 0 ≤ x) : madeTo how l0 (x + 1).toNat = madeTo how l0 x.toNat ++ madeStep how (l0.length == 2) (readsB (rd_T79 l0 0).f0) x.toNat (rd_T79 l0 x) := by
  rw [show (x + 1).toNat = x.toNat + 1 by omega]
  show _ ++ _ = _
  rw [show ((x.toNat : Nat) : Int) = x by omega]
theorem toNat_one {x : Int} (h0 : 0 ≤ x) : x.toNat = 1 ↔ x = 1 := by omega
set_option maxRecDepth 100000 in
set_option maxHeartbeats 8000000 in
theorem made_walk0 (A0 : Option Addr) (c0 : Nat) (l0 : List S79) (w : World) (hr0 : Kd.C k79 w A0 l0.length l0) (hc0 : l0.length ≤ c0) (hk : ∀ d ∈ l0, 1 ≤ d.f0.f0 ∧ d.f0.f0 ≤ 9) (hn : l0.length ≤ 100) :
    Calls Tryz.prog 23 #[.slice A0 l0.length c0, .int .i64 0] w fun e w' => ∃ v0_ : Value, e = .returned (v0_) ∧ Kd.R k45 45 w' w.heap.size (fun _ => True) v0_ (madeTo 0 l0 l0.length) ∧ Below w.heap.size w w' := by
  obtain ⟨w1, w2, r1, r2, hm, hb, hlt⟩ := kindMap_made w
  have hmm := @run_makeMap Tryz.prog
  have HR0 := am_ hr0
  have HB := am_ hb
  have HM := am_ hm
  clear hr0 hb hm
  go_enter Tryz.func23, Tryz.ntmps23
  go_wp2_with fail
  clear r1 r2 hmm
  go_loopw [5, 18] (fun v i wr => MadeRel l0 0 w v i wr) (fun _ i _ => ((l0.length : Int) - intOf i).toNat)
  case atStart => exact ⟨0, rfl, by omega, by omega, ⟨Kd.R_nil _ _ _ _ _⟩, HB, HM⟩
  case round =>
    obtain ⟨x, rfl, x0, x1, HO, HBr, HMr⟩ := hrel
    rename_i wr
    by_cases hlt2 : x < l0.length
    · have HRr := am_ (Kd.C_below HR0.out HBr.out)
      obtain ⟨ad, eA, hx0, hx1, hx2, hx3⟩ := at_T79 HRr.out x x0 hlt2
      subst eA
      have hkk := hk _ (rd_mem l0 x x0 hlt2)
      have hst := am_ (madeTo_next 0 l0 x x0)
      generalize hdd : rd_T79 l0 x = d at *
      have HDD := am_ hdd
      clear hdd
      obtain ⟨⟨k, p, v⟩, b⟩ := d
      simp only at hx0 hx1 hx2 hx3 hkk
      go_wp2_with (at_builtin; refine park ?_)
      refine ⟨?_⟩
      refine made_app k p v rfl (.tmp 86) (.tmp 88) rfl rfl _ (show wr.heap.size + 1 + 1 = _ by simp) rfl (Kd.R_alloc (Kd.R_alloc HO.out _) _) (below_alloc (below_alloc HBr.out _) _) (HMr.out.below (below_alloc (below_alloc (Below.refl _ _) _) _)) (by have := madeTo_len 0 l0 x.toNat; omega) ?_
      intro v1 w1 ho1 hb1 hm1 hg1
      go_wp2_with fail
      go_roundw
      case rel =>
        refine ⟨x + 1, rfl, by omega, by omega, ⟨?_⟩, hb1, hm1⟩
        have h2 := ho1.out
        rw [hst.out]
        simpa [madeStep, kindOf] using h2
      case measure => simp [intOf]; omega
    go_wp2_with fail
    go_ret
    obtain rfl : x = l0.length := by omega
    exact ⟨_, rfl, by simpa using HO.out, HBr.out⟩
set_option maxRecDepth 100000 in
set_option maxHeartbeats 8000000 in
theorem made_walk1f (A0 : Option Addr) (c0 : Nat) (l0 : List S79) (w : World) (hr0 : Kd.C k79 w A0 l0.length l0) (hc0 : l0.length ≤ c0) (hk : ∀ d ∈ l0, 1 ≤ d.f0.f0 ∧ d.f0.f0 ≤ 9) (hn : l0.length ≤ 100) (h2 : l0.length ≠ 2) :
    Calls Tryz.prog 23 #[.slice A0 l0.length c0, .int .i64 1] w fun e w' => ∃ v0_ : Value, e = .returned (v0_) ∧ Kd.R k45 45 w' w.heap.size (fun _ => True) v0_ (madeTo 1 l0 l0.length) ∧ Below w.heap.size w w' := by
  obtain ⟨w1, w2, r1, r2, hm, hb, hlt⟩ := kindMap_made w
  have hmm := @run_makeMap Tryz.prog
  have HR0 := am_ hr0
  have HB := am_ hb
  have HM := am_ hm
  clear hr0 hb hm
  have htw : ((l0.length : Int) == 2) = false := by simp; omega
  have htn : (l0.length == 2) = false := by simp; omega
  have HTN := am_ htn
  clear htn
  have HTW := am_ h2
  clear h2
  go_enter Tryz.func23, Tryz.ntmps23
  go_wp2_with fail
  clear r1 r2 hmm
  go_loopw [5, 18] (fun v i wr => MadeRel l0 1 w v i wr) (fun _ i _ => ((l0.length : Int) - intOf i).toNat)
  case atStart => exact ⟨0, rfl, by omega, by omega, ⟨Kd.R_nil _ _ _ _ _⟩, HB, HM⟩
  case round =>
    obtain ⟨x, rfl, x0, x1, HO, HBr, HMr⟩ := hrel
    rename_i wr
    by_cases hlt2 : x < l0.length
    · have HRr := am_ (Kd.C_below HR0.out HBr.out)
      obtain ⟨ad, eA, hx0, hx1, hx2, hx3⟩ := at_T79 HRr.out x x0 hlt2
      subst eA
      have hkk := hk _ (rd_mem l0 x x0 hlt2)
      have hst := am_ (madeTo_next 1 l0 x x0)
      generalize hdd : rd_T79 l0 x = d at *
      have HDD := am_ hdd
      clear hdd
      obtain ⟨⟨k, p, v⟩, b⟩ := d
      simp only at hx0 hx1 hx2 hx3 hkk
      go_wp2_with (at_builtin; refine park ?_)
      refine ⟨?_⟩
      refine made_app k p v rfl (.tmp 86) (.tmp 88) rfl rfl _ (show wr.heap.size + 1 + 1 = _ by simp) rfl (Kd.R_alloc (Kd.R_alloc HO.out _) _) (below_alloc (below_alloc HBr.out _) _) (HMr.out.below (below_alloc (below_alloc (Below.refl _ _) _) _)) (by have := madeTo_len 1 l0 x.toNat; omega) ?_
      intro v1 w1 ho1 hb1 hm1 hg1
      go_wp2_with fail
      go_roundw
      case rel =>
        refine ⟨x + 1, rfl, by omega, by omega, ⟨?_⟩, hb1, hm1⟩
        have h2 := ho1.out
        rw [hst.out]
        simpa [madeStep, HTN.out] using h2
      case measure => simp [intOf]; omega
    go_wp2_with fail
    go_ret
    obtain rfl : x = l0.length := by omega
    exact ⟨_, rfl, by simpa using HO.out, HBr.out⟩
set_option maxRecDepth 100000 in
set_option maxHeartbeats 8000000 in
theorem made_walk2 (A0 : Option Addr) (c0 : Nat) (l0 : List S79) (w : World) (hr0 : Kd.C k79 w A0 l0.length l0) (hc0 : l0.length ≤ c0) (hk : ∀ d ∈ l0, 1 ≤ d.f0.f0 ∧ d.f0.f0 ≤ 9) (hn : l0.length ≤ 100) :
    Calls Tryz.prog 23 #[.slice A0 l0.length c0, .int .i64 2] w fun e w' => ∃ v0_ : Value, e = .returned (v0_) ∧ Kd.R k45 45 w' w.heap.size (fun _ => True) v0_ (madeTo 2 l0 l0.length) ∧ Below w.heap.size w w' := by
  obtain ⟨w1, w2, r1, r2, hm, hb, hlt⟩ := kindMap_made w
  have hmm := @run_makeMap Tryz.prog
  have HR0 := am_ hr0
  have HB := am_ hb
  have HM := am_ hm
  clear hr0 hb hm
  go_enter Tryz.func23, Tryz.ntmps23
  go_wp2_with fail
  clear r1 r2 hmm
  go_loopw [5, 18] (fun v i wr => MadeRel l0 2 w v i wr) (fun _ i _ => ((l0.length : Int) - intOf i).toNat)
  case atStart => exact ⟨0, rfl, by omega, by omega, ⟨Kd.R_nil _ _ _ _ _⟩, HB, HM⟩
  case round =>
    obtain ⟨x, rfl, x0, x1, HO, HBr, HMr⟩ := hrel
    rename_i wr
    by_cases hlt2 : x < l0.length
    · have HRr := am_ (Kd.C_below HR0.out HBr.out)
      obtain ⟨ad, eA, hx0, hx1, hx2, hx3⟩ := at_T79 HRr.out x x0 hlt2
      subst eA
      have hkk := hk _ (rd_mem l0 x x0 hlt2)
      have hst := am_ (madeTo_next 2 l0 x x0)
      generalize hdd : rd_T79 l0 x = d at *
      have HDD := am_ hdd
      clear hdd
      obtain ⟨⟨k, p, v⟩, b⟩ := d
      simp only at hx0 hx1 hx2 hx3 hkk
      cases b with
      | true =>
        go_wp2_with (at_builtin; refine park ?_)
        refine ⟨?_⟩
        refine made_app k p v rfl (.tmp 86) (.tmp 88) rfl rfl _ (show wr.heap.size + 1 + 1 = _ by simp) rfl (Kd.R_alloc (Kd.R_alloc HO.out _) _) (below_alloc (below_alloc HBr.out _) _) (HMr.out.below (below_alloc (below_alloc (Below.refl _ _) _) _)) (by have := madeTo_len 2 l0 x.toNat; omega) ?_
        intro v1 w1 ho1 hb1 hm1 hg1
        go_wp2_with fail
        go_roundw
        case rel =>
          refine ⟨x + 1, rfl, by omega, by omega, ⟨?_⟩, hb1, hm1⟩
          have h2 := ho1.out
          rw [hst.out]
          simpa [madeStep, kindOf] using h2
        case measure => simp [intOf]; omega
      | false =>
        have HL := kindMap_look (HMr.out.below (below_alloc (below_alloc (Below.refl _ _) (.cells #[.int .i64 k, .int .i64 p, .int .i64 v, .bool false] 79)) (.cells #[.int .i64 k, .int .i64 p, .int .i64 v] 45))) k (WalkArith.wf_i64 (by omega))
        by_cases hk1 : k = 1
        · subst hk1
          rw [show kindOf 1 = 6 from rfl] at HL
          go_wp2_with (at_builtin; refine park ?_)
          refine ⟨?_⟩
          refine made_app 6 p v rfl (.tmp 86) (.tmp 88) rfl rfl _ (show wr.heap.size + 1 + 1 = _ by simp) rfl (Kd.R_alloc (Kd.R_alloc HO.out _) _) (below_alloc (below_alloc HBr.out _) _) (HMr.out.below (below_alloc (below_alloc (Below.refl _ _) _) _)) (by have := madeTo_len 2 l0 x.toNat; omega) ?_
          intro v1 w1 ho1 hb1 hm1 hg1
          go_wp2_with fail
          go_roundw
          case rel =>
            refine ⟨x + 1, rfl, by omega, by omega, ⟨?_⟩, hb1, hm1⟩
            have h2 := ho1.out
            rw [hst.out]
            simpa [madeStep, kindOf] using h2
          case measure => simp [intOf]; omega
        by_cases hk2 : k = 2
        · subst hk2
          rw [show kindOf 2 = 5 from rfl] at HL
          go_wp2_with (at_builtin; refine park ?_)
          refine ⟨?_⟩
          refine made_app 5 p v rfl (.tmp 86) (.tmp 88) rfl rfl _ (show wr.heap.size + 1 + 1 = _ by simp) rfl (Kd.R_alloc (Kd.R_alloc HO.out _) _) (below_alloc (below_alloc HBr.out _) _) (HMr.out.below (below_alloc (below_alloc (Below.refl _ _) _) _)) (by have := madeTo_len 2 l0 x.toNat; omega) ?_
          intro v1 w1 ho1 hb1 hm1 hg1
          go_wp2_with fail
          go_roundw
          case rel =>
            refine ⟨x + 1, rfl, by omega, by omega, ⟨?_⟩, hb1, hm1⟩
            have h2 := ho1.out
            rw [hst.out]
            simpa [madeStep, kindOf] using h2
          case measure => simp [intOf]; omega
        have hk0 : kindOf k = 0 := by unfold kindOf; rw [if_neg hk1, if_neg hk2]
        rw [hk0] at HL
        have HK0 := am_ hk0
        clear hk0
        go_wp2_with (at_builtin; refine park ?_)
        refine ⟨?_⟩
        refine made_app k p v rfl (.tmp 86) (.tmp 88) rfl rfl _ (show wr.heap.size + 1 + 1 = _ by simp) rfl (Kd.R_alloc (Kd.R_alloc HO.out _) _) (below_alloc (below_alloc HBr.out _) _) (HMr.out.below (below_alloc (below_alloc (Below.refl _ _) _) _)) (by have := madeTo_len 2 l0 x.toNat; omega) ?_
        intro v1 w1 ho1 hb1 hm1 hg1
        go_wp2_with fail
        go_roundw
        case rel =>
          refine ⟨x + 1, rfl, by omega, by omega, ⟨?_⟩, hb1, hm1⟩
          have h2 := ho1.out
          rw [hst.out]
          simpa [madeStep, HK0.out] using h2
        case measure => simp [intOf]; omega
    go_wp2_with fail
    go_ret
    obtain rfl : x = l0.length := by omega
    exact ⟨_, rfl, by simpa using HO.out, HBr.out⟩
set_option maxRecDepth 100000 in
set_option maxHeartbeats 8000000 in
theorem made_walk1t (A0 : Option Addr) (c0 : Nat) (l0 : List S79) (w : World) (hr0 : Kd.C k79 w A0 l0.length l0) (hc0 : l0.length ≤ c0) (hk : ∀ d ∈ l0, 1 ≤ d.f0.f0 ∧ d.f0.f0 ≤ 9) (hn : l0.length ≤ 100) (h2 : l0.length = 2) :
    Calls Tryz.prog 23 #[.slice A0 l0.length c0, .int .i64 1] w fun e w' => ∃ v0_ : Value, e = .returned (v0_) ∧ Kd.R k45 45 w' w.heap.size (fun _ => True) v0_ (madeTo 1 l0 l0.length) ∧ Below w.heap.size w w' := by
  obtain ⟨w1, w2, r1, r2, hm, hb, hlt⟩ := kindMap_made w
  have hmm := @run_makeMap Tryz.prog
  have HR0 := am_ hr0
  have HB := am_ hb
  have HM := am_ hm
  clear hr0 hb hm
  have htw : ((l0.length : Int) == 2) = true := by simp; omega
  have htn : (l0.length == 2) = true := by simp; omega
  have HTN := am_ htn
  clear htn
  have HTW := am_ h2
  clear h2
  go_enter Tryz.func23, Tryz.ntmps23
  go_wp2_with fail
  clear r1 r2 hmm
  go_loopw [5, 18] (fun v i wr => MadeRel l0 1 w v i wr) (fun _ i _ => ((l0.length : Int) - intOf i).toNat)
  case atStart => exact ⟨0, rfl, by omega, by omega, ⟨Kd.R_nil _ _ _ _ _⟩, HB, HM⟩
  case round =>
    obtain ⟨x, rfl, x0, x1, HO, HBr, HMr⟩ := hrel
    rename_i wr
    by_cases hlt2 : x < l0.length
    · have HRr := am_ (Kd.C_below HR0.out HBr.out)
      obtain ⟨ad, eA, hx0, hx1, hx2, hx3⟩ := at_T79 HRr.out x x0 hlt2
      subst eA
      have hkk := hk _ (rd_mem l0 x x0 hlt2)
      have hst := am_ (madeTo_next 1 l0 x x0)
      generalize hdd : rd_T79 l0 x = d at *
      have HDD := am_ hdd
      clear hdd
      obtain ⟨⟨k, p, v⟩, b⟩ := d
      simp only at hx0 hx1 hx2 hx3 hkk
      by_cases hx : x = 1
      · have hx' : ((x == 1) = true) := by simp; omega
        have HX := am_ hx
        clear hx
        go_wp2_with (at_builtin; refine park ?_)
        refine ⟨?_⟩
        refine made_app 4 0 0 rfl (.tmp 82) (.tmp 84) rfl rfl _ (show wr.heap.size + 1 + 1 = _ by simp) rfl (Kd.R_alloc (Kd.R_alloc HO.out _) _) (below_alloc (below_alloc HBr.out _) _) (HMr.out.below (below_alloc (below_alloc (Below.refl _ _) _) _)) (by have := madeTo_len 1 l0 x.toNat; omega) ?_
        intro v1 w1 ho1 hb1 hm1 hg1
        have hne : ∀ j, wr.heap.size ≤ j → some j ≠ u5.ownBlock := fun j hj e => by have := Kd.R_lt HO.out j e.symm; omega
        have z0 : w1.cell? ⟨wr.heap.size + 1, 0, none⟩ = some (.int .i64 k) := cell_grown hg1.out (by go_simp) (hne _ (by simp))
        have z1 : w1.cell? ⟨wr.heap.size + 1, 1, none⟩ = some (.int .i64 p) := cell_grown hg1.out (by go_simp) (hne _ (by simp))
        have z2 : w1.cell? ⟨wr.heap.size + 1, 2, none⟩ = some (.int .i64 v) := cell_grown hg1.out (by go_simp) (hne _ (by simp))
        clear hne
        go_wp2_with (at_builtin; refine park ?_)
        refine ⟨?_⟩
        refine made_app k p v rfl (.tmp 86) (.tmp 88) rfl rfl _ rfl rfl ho1.out hb1.out hm1.out (by have := madeTo_len 1 l0 x.toNat; simp; omega) ?_
        intro v2 w3 ho2 hb2 hm2 hg2
        go_wp2_with fail
        go_roundw
        case rel =>
          refine ⟨x + 1, rfl, by omega, by omega, ⟨?_⟩, hb2, hm2⟩
          have h2 := ho2.out
          rw [hst.out]
          simpa [madeStep, HTN.out, toNat_one x0, HX.out] using h2
        case measure => simp [intOf]; omega
      have hx' : ((x == 1) = false) := by simp; omega
      go_wp2_with (at_builtin; refine park ?_)
      refine ⟨?_⟩
      refine made_app k p v rfl (.tmp 86) (.tmp 88) rfl rfl _ (show wr.heap.size + 1 + 1 = _ by simp) rfl (Kd.R_alloc (Kd.R_alloc HO.out _) _) (below_alloc (below_alloc HBr.out _) _) (HMr.out.below (below_alloc (below_alloc (Below.refl _ _) _) _)) (by have := madeTo_len 1 l0 x.toNat; omega) ?_
      intro v1 w1 ho1 hb1 hm1 hg1
      go_wp2_with fail
      go_roundw
      case rel =>
        refine ⟨x + 1, rfl, by omega, by omega, ⟨?_⟩, hb1, hm1⟩
        have h2 := ho1.out
        rw [hst.out]
        simpa [madeStep, HTN.out, toNat_one x0, hx] using h2
      case measure => simp [intOf]; omega
    go_wp2_with fail
    go_ret
    obtain rfl : x = l0.length := by omega
    exact ⟨_, rfl, by simpa using HO.out, HBr.out⟩
set_option maxRecDepth 100000 in
set_option maxHeartbeats 8000000 in
theorem made_walk3f (A0 : Option Addr) (c0 : Nat) (l0 : List S79) (w : World) (hr0 : Kd.C k79 w A0 l0.length l0) (hc0 : l0.length ≤ c0) (hk : ∀ d ∈ l0, 1 ≤ d.f0.f0 ∧ d.f0.f0 ≤ 9) (hn : l0.length ≤ 100) (h2 : l0.length ≠ 2) :
    Calls Tryz.prog 23 #[.slice A0 l0.length c0, .int .i64 3] w fun e w' => ∃ v0_ : Value, e = .returned (v0_) ∧ Kd.R k45 45 w' w.heap.size (fun _ => True) v0_ (madeTo 3 l0 l0.length) ∧ Below w.heap.size w w' := by
  obtain ⟨w1, w2, r1, r2, hm, hb, hlt⟩ := kindMap_made w
  have hmm := @run_makeMap Tryz.prog
  have HR0 := am_ hr0
  have HB := am_ hb
  have HM := am_ hm
  clear hr0 hb hm
  have htw : ((l0.length : Int) == 2) = false := by simp; omega
  have htn : (l0.length == 2) = false := by simp; omega
  have HTN := am_ htn
  clear htn
  have HTW := am_ h2
  clear h2
  go_enter Tryz.func23, Tryz.ntmps23
  go_wp2_with fail
  clear r1 r2 hmm
  go_loopw [5, 18] (fun v i wr => MadeRel l0 3 w v i wr) (fun _ i _ => ((l0.length : Int) - intOf i).toNat)
  case atStart => exact ⟨0, rfl, by omega, by omega, ⟨Kd.R_nil _ _ _ _ _⟩, HB, HM⟩
  case round =>
    obtain ⟨x, rfl, x0, x1, HO, HBr, HMr⟩ := hrel
    rename_i wr
    by_cases hlt2 : x < l0.length
    · have HRr := am_ (Kd.C_below HR0.out HBr.out)
      obtain ⟨ad, eA, hx0, hx1, hx2, hx3⟩ := at_T79 HRr.out x x0 hlt2
      subst eA
      have hkk := hk _ (rd_mem l0 x x0 hlt2)
      have hst := am_ (madeTo_next 3 l0 x x0)
      generalize hdd : rd_T79 l0 x = d at *
      have HDD := am_ hdd
      clear hdd
      obtain ⟨⟨k, p, v⟩, b⟩ := d
      simp only at hx0 hx1 hx2 hx3 hkk
      go_wp2_with (at_builtin; refine park ?_)
      refine ⟨?_⟩
      refine made_app k p v rfl (.tmp 86) (.tmp 88) rfl rfl _ (show wr.heap.size + 1 + 1 = _ by simp) rfl (Kd.R_alloc (Kd.R_alloc HO.out _) _) (below_alloc (below_alloc HBr.out _) _) (HMr.out.below (below_alloc (below_alloc (Below.refl _ _) _) _)) (by have := madeTo_len 3 l0 x.toNat; omega) ?_
      intro v1 w1 ho1 hb1 hm1 hg1
      go_wp2_with fail
      go_roundw
      case rel =>
        refine ⟨x + 1, rfl, by omega, by omega, ⟨?_⟩, hb1, hm1⟩
        have h2 := ho1.out
        rw [hst.out]
        simpa [madeStep, HTN.out, kindOf] using h2
      case measure => simp [intOf]; omega
    go_wp2_with fail
    go_ret
    obtain rfl : x = l0.length := by omega
    exact ⟨_, rfl, by simpa using HO.out, HBr.out⟩
set_option maxRecDepth 100000 in
set_option maxHeartbeats 8000000 in
theorem made_walk3t (A0 : Option Addr) (c0 : Nat) (l0 : List S79) (w : World) (hr0 : Kd.C k79 w A0 l0.length l0) (hc0 : l0.length ≤ c0) (hk : ∀ d ∈ l0, 1 ≤ d.f0.f0 ∧ d.f0.f0 ≤ 9) (hn : l0.length ≤ 100) (h2 : l0.length = 2) :
    Calls Tryz.prog 23 #[.slice A0 l0.length c0, .int .i64 3] w fun e w' => ∃ v0_ : Value, e = .returned (v0_) ∧ Kd.R k45 45 w' w.heap.size (fun _ => True) v0_ (madeTo 3 l0 l0.length) ∧ Below w.heap.size w w' := by
  obtain ⟨w1, w2, r1, r2, hm, hb, hlt⟩ := kindMap_made w
  have hmm := @run_makeMap Tryz.prog
  have HR0 := am_ hr0
  have HB := am_ hb
  have HM := am_ hm
  clear hr0 hb hm
  have htw : ((l0.length : Int) == 2) = true := by simp; omega
  have htn : (l0.length == 2) = true := by simp; omega
  have HTN := am_ htn
  clear htn
  have HTW := am_ h2
  clear h2
  go_enter Tryz.func23, Tryz.ntmps23
  go_wp2_with fail
  clear r1 r2 hmm
  go_loopw [5, 18] (fun v i wr => MadeRel l0 3 w v i wr) (fun _ i _ => ((l0.length : Int) - intOf i).toNat)
  case atStart => exact ⟨0, rfl, by omega, by omega, ⟨Kd.R_nil _ _ _ _ _⟩, HB, HM⟩
  case round =>
    obtain ⟨x, rfl, x0, x1, HO, HBr, HMr⟩ := hrel
    rename_i wr
    by_cases hlt2 : x < l0.length
    · have HRr := am_ (Kd.C_below HR0.out HBr.out)
      obtain ⟨ad, eA, hx0, hx1, hx2, hx3⟩ := at_T79 HRr.out x x0 hlt2
      subst eA
      have hkk := hk _ (rd_mem l0 x x0 hlt2)
      have hst := am_ (madeTo_next 3 l0 x x0)
      generalize hdd : rd_T79 l0 x = d at *
      have HDD := am_ hdd
      clear hdd
      obtain ⟨⟨k, p, v⟩, b⟩ := d
      simp only at hx0 hx1 hx2 hx3 hkk
      by_cases hx : x = 1
      · have hx' : ((x == 1) = true) := by simp; omega
        have HX := am_ hx
        clear hx
        obtain ⟨ad', eA', hy0, hy1, hy2, hy3⟩ := at_T79 HRr.out 0 (by omega) (by omega)
        injection eA' with eA'
        subst eA'
        generalize hd0 : rd_T79 l0 0 = d0 at *
        have HD0 := am_ hd0
        clear hd0
        obtain ⟨⟨k0, p0, v0⟩, b0⟩ := d0
        simp only [Int.toNat_zero, Nat.zero_mul, show ad.add 0 = ad from by unfold Addr.add; simp] at hy0 hy1 hy2
        have HW := am_ (below_alloc (below_alloc (Below.refl wr.heap.size wr) (.cells #[.int .i64 k, .int .i64 p, .int .i64 v, .bool b] 79)) (.cells #[.int .i64 k, .int .i64 p, .int .i64 v] 45))
        have y0 := pw_cell_below HW.out hy0
        have y1 := pw_cell_below HW.out hy1
        have y2 := pw_cell_below HW.out hy2
        go_wp2_with (go_at_call 40; refine park ?_)
        refine ⟨?_⟩
        clear y0 y1 y2 hy0 hy1 hy2 hy3 hx0 hx1 hx2 hx3
        generalize hW : (wr.alloc (Obj.cells #[.int .i64 k, .int .i64 p, .int .i64 v, .bool b] 79)).alloc (Obj.cells #[.int .i64 k, .int .i64 p, .int .i64 v] 45) = W at *
        have b1 : W.heap[wr.heap.size]? = some (.cells #[.int .i64 k, .int .i64 p, .int .i64 v, .bool b] 79 (0, 0)) := by rw [← hW]; exact blk_alloc (heap_alloc_new wr _) _
        have b2 : W.heap[wr.heap.size + 1]? = some (.cells #[.int .i64 k, .int .i64 p, .int .i64 v] 45 (0, 0)) := by rw [← hW]; have := heap_alloc_new (wr.alloc (Obj.cells #[.int .i64 k, .int .i64 p, .int .i64 v, .bool b] 79)) (Obj.cells #[.int .i64 k, .int .i64 p, .int .i64 v] 45); simpa using this
        have HW2 := am_ hW
        clear hW
        have HOu := am_ (Kd.R_below HO.out HW.out)
        have HBW := am_ (below_then HBr.out HBr.out.size HW.out)
        have HMW := am_ (HMr.out.below HW.out)
        have hsz : wr.heap.size + 1 < W.heap.size := blk_lt b2
        have HLT := am_ (Kd.R_lt HO.out)
        have B1 := am_ b1
        have B2 := am_ b2
        clear b1 b2
        cases hr0 : readsB ⟨k0, p0, v0⟩ with
        | false =>
          have HR := am_ hr0
          clear hr0
          refine (impl_Do_reads.calls k0 p0 v0 false W ((reads_eq _ _ _).trans (by rw [HR.out]))).mono ?_
          rintro e w3 ⟨rfl, hb3⟩
          have HO3 := am_ (Kd.R_below HOu.out hb3)
          have HB3 := am_ (below_then HBW.out HBW.out.size hb3)
          have HM3 := am_ (HMW.out.below hb3)
          have B13 := am_ (blk_below B1.out hb3)
          have B23 := am_ (blk_below B2.out hb3)
          have z30 : w3.cell? ⟨wr.heap.size, 0, none⟩ = some (.int .i64 k) := blk_cell B13.out 0
          have z31 : w3.cell? ⟨wr.heap.size, 1, none⟩ = some (.int .i64 p) := blk_cell B13.out 1
          have z32 : w3.cell? ⟨wr.heap.size, 2, none⟩ = some (.int .i64 v) := blk_cell B13.out 2
          have q30 : w3.cell? ⟨wr.heap.size + 1, 0, none⟩ = some (.int .i64 k) := blk_cell B23.out 0
          have q31 : w3.cell? ⟨wr.heap.size + 1, 1, none⟩ = some (.int .i64 p) := blk_cell B23.out 1
          have q32 : w3.cell? ⟨wr.heap.size + 1, 2, none⟩ = some (.int .i64 v) := blk_cell B23.out 2
          clear hb3
          go_wp2_with (at_builtin; refine park ?_)
          refine ⟨?_⟩
          refine made_app k p v rfl (.tmp 86) (.tmp 88) rfl rfl _ rfl rfl HO3.out HB3.out HM3.out (by have := madeTo_len 3 l0 x.toNat; omega) ?_
          intro v1 w9 ho1 hb1 hm1 hg1
          go_wp2_with fail
          go_roundw
          case rel =>
            refine ⟨x + 1, rfl, by omega, by omega, ⟨?_⟩, hb1, hm1⟩
            have h2 := ho1.out
            rw [hst.out]
            simpa [madeStep, HTN.out, toNat_one x0, HX.out, HR.out, kindOf] using h2
          case measure => simp [intOf]; omega
        | true =>
          have HR := am_ hr0
          clear hr0
          refine (impl_Do_reads.calls k0 p0 v0 true W ((reads_eq _ _ _).trans (by rw [HR.out]))).mono ?_
          rintro e w3 ⟨rfl, hb3⟩
          have HO3 := am_ (Kd.R_below HOu.out hb3)
          have HB3 := am_ (below_then HBW.out HBW.out.size hb3)
          have HM3 := am_ (HMW.out.below hb3)
          have B13 := am_ (blk_below B1.out hb3)
          have B23 := am_ (blk_below B2.out hb3)
          have z30 : w3.cell? ⟨wr.heap.size, 0, none⟩ = some (.int .i64 k) := blk_cell B13.out 0
          have z31 : w3.cell? ⟨wr.heap.size, 1, none⟩ = some (.int .i64 p) := blk_cell B13.out 1
          have z32 : w3.cell? ⟨wr.heap.size, 2, none⟩ = some (.int .i64 v) := blk_cell B13.out 2
          have q30 : w3.cell? ⟨wr.heap.size + 1, 0, none⟩ = some (.int .i64 k) := blk_cell B23.out 0
          have q31 : w3.cell? ⟨wr.heap.size + 1, 1, none⟩ = some (.int .i64 p) := blk_cell B23.out 1
          have q32 : w3.cell? ⟨wr.heap.size + 1, 2, none⟩ = some (.int .i64 v) := blk_cell B23.out 2
          clear hb3
          go_wp2_with (go_at_call 41; refine park ?_)
          refine ⟨?_⟩
          cases hw0 : writesB ⟨k, p, v⟩ with
          | false =>
            have HS := am_ hw0
            clear hw0
            refine (impl_Do_writes.calls k p v false w3 ((writes_eq _ _ _).trans (by rw [HS.out]))).mono ?_
            rintro e w4 ⟨rfl, hb4⟩
            have HO4 := am_ (Kd.R_below HO3.out hb4)
            have HB4 := am_ (below_then HB3.out HB3.out.size hb4)
            have HM4 := am_ (HM3.out.below hb4)
            have B14 := am_ (blk_below B13.out hb4)
            have B24 := am_ (blk_below B23.out hb4)
            have z40 : w4.cell? ⟨wr.heap.size, 0, none⟩ = some (.int .i64 k) := blk_cell B14.out 0
            have z41 : w4.cell? ⟨wr.heap.size, 1, none⟩ = some (.int .i64 p) := blk_cell B14.out 1
            have z42 : w4.cell? ⟨wr.heap.size, 2, none⟩ = some (.int .i64 v) := blk_cell B14.out 2
            have q40 : w4.cell? ⟨wr.heap.size + 1, 0, none⟩ = some (.int .i64 k) := blk_cell B24.out 0
            have q41 : w4.cell? ⟨wr.heap.size + 1, 1, none⟩ = some (.int .i64 p) := blk_cell B24.out 1
            have q42 : w4.cell? ⟨wr.heap.size + 1, 2, none⟩ = some (.int .i64 v) := blk_cell B24.out 2
            clear hb4
            go_wp2_with (at_builtin; refine park ?_)
            refine ⟨?_⟩
            refine made_app k p v rfl (.tmp 86) (.tmp 88) rfl rfl _ rfl rfl HO4.out HB4.out HM4.out (by have := madeTo_len 3 l0 x.toNat; omega) ?_
            intro v1 w9 ho1 hb1 hm1 hg1
            go_wp2_with fail
            go_roundw
            case rel =>
              refine ⟨x + 1, rfl, by omega, by omega, ⟨?_⟩, hb1, hm1⟩
              have h2 := ho1.out
              rw [hst.out]
              simpa [madeStep, HTN.out, toNat_one x0, HX.out, HR.out, HS.out, kindOf] using h2
            case measure => simp [intOf]; omega
          | true =>
            have HS := am_ hw0
            clear hw0
            refine (impl_Do_writes.calls k p v true w3 ((writes_eq _ _ _).trans (by rw [HS.out]))).mono ?_
            rintro e w4 ⟨rfl, hb4⟩
            have HO4 := am_ (Kd.R_below HO3.out hb4)
            have HB4 := am_ (below_then HB3.out HB3.out.size hb4)
            have HM4 := am_ (HM3.out.below hb4)
            have B14 := am_ (blk_below B13.out hb4)
            have B24 := am_ (blk_below B23.out hb4)
            have z40 : w4.cell? ⟨wr.heap.size, 0, none⟩ = some (.int .i64 k) := blk_cell B14.out 0
            have z41 : w4.cell? ⟨wr.heap.size, 1, none⟩ = some (.int .i64 p) := blk_cell B14.out 1
            have z42 : w4.cell? ⟨wr.heap.size, 2, none⟩ = some (.int .i64 v) := blk_cell B14.out 2
            have q40 : w4.cell? ⟨wr.heap.size + 1, 0, none⟩ = some (.int .i64 k) := blk_cell B24.out 0
            have q41 : w4.cell? ⟨wr.heap.size + 1, 1, none⟩ = some (.int .i64 p) := blk_cell B24.out 1
            have q42 : w4.cell? ⟨wr.heap.size + 1, 2, none⟩ = some (.int .i64 v) := blk_cell B24.out 2
            clear hb4
            have fr0 := blk_frozen B24.out 0
            have fr1 := blk_frozen B24.out 1
            have fr2 := blk_frozen B24.out 2
            go_wp2_with (at_builtin; refine park ?_)
            refine ⟨?_⟩
            have hne : some (wr.heap.size + 1) ≠ u5.ownBlock := fun e => by have := HLT.out _ e.symm; omega
            have hnm : some w.heap.size ≠ some (wr.heap.size + 1) := fun e => by injection e with e; have := HBr.out.size; omega
            have g1 := grown_set w4 ⟨wr.heap.size + 1, 0, none⟩ (.int .i64 3)
            have HO5 := Kd.R_mono (ok' := fun _ => True) (Kd.R_far (p := ⟨wr.heap.size + 1, 2, none⟩) (Kd.R_far (p := ⟨wr.heap.size + 1, 1, none⟩) (Kd.R_far (p := ⟨wr.heap.size + 1, 0, none⟩) (Kd.R_far1 HO4.out rfl hne) (fun k hk => hk.2) (.int .i64 3)) (fun k hk => hk.2) (.int .i64 p)) (fun k hk => hk.2) (.int .i64 0)) (fun _ _ => trivial)
            have HB5 := below_set (j := 2) (v := .int .i64 0) (below_set (j := 1) (v := .int .i64 p) (below_set (j := 0) (v := .int .i64 3) HB4.out (g := wr.heap.size + 1) (by have := HBr.out.size; omega)) (g := wr.heap.size + 1) (by have := HBr.out.size; omega)) (g := wr.heap.size + 1) (by have := HBr.out.size; omega)
            have HM5 := ((HM4.out.grown (grown_set w4 ⟨wr.heap.size + 1, 0, none⟩ (.int .i64 3)) hnm).grown (grown_set _ ⟨wr.heap.size + 1, 1, none⟩ (.int .i64 p)) hnm).grown (grown_set _ ⟨wr.heap.size + 1, 2, none⟩ (.int .i64 0)) hnm
            refine made_app 3 p 0 rfl (.tmp 86) (.tmp 88) rfl rfl _ (show w4.heap.size = _ by simp [World.setCell]) rfl HO5 HB5 HM5 (by have := madeTo_len 3 l0 x.toNat; omega) ?_
            intro v1 w9 ho1 hb1 hm1 hg1
            go_wp2_with fail
            go_roundw
            case rel =>
              refine ⟨x + 1, rfl, by omega, by omega, ⟨?_⟩, hb1, hm1⟩
              have h2 := ho1.out
              rw [hst.out]
              simpa [madeStep, HTN.out, toNat_one x0, HX.out, HR.out, HS.out, kindOf] using h2
            case measure => simp [intOf]; omega
      have hx' : ((x == 1) = false) := by simp; omega
      go_wp2_with (at_builtin; refine park ?_)
      refine ⟨?_⟩
      refine made_app k p v rfl (.tmp 86) (.tmp 88) rfl rfl _ (show wr.heap.size + 1 + 1 = _ by simp) rfl (Kd.R_alloc (Kd.R_alloc HO.out _) _) (below_alloc (below_alloc HBr.out _) _) (HMr.out.below (below_alloc (below_alloc (Below.refl _ _) _) _)) (by have := madeTo_len 3 l0 x.toNat; omega) ?_
      intro v1 w1 ho1 hb1 hm1 hg1
      go_wp2_with fail
      go_roundw
      case rel =>
        refine ⟨x + 1, rfl, by omega, by omega, ⟨?_⟩, hb1, hm1⟩
        have h2 := ho1.out
        rw [hst.out]
        simpa [madeStep, HTN.out, toNat_one x0, hx] using h2
      case measure => simp [intOf]; omega
    go_wp2_with fail
    go_ret
    obtain rfl : x = l0.length := by omega
    exact ⟨_, rfl, by simpa using HO.out, HBr.out⟩
def impl_made.f (l0 : List S79) (a1 : Int) : Option (List S45) := if (0 ≤ a1 ∧ a1 ≤ 3) ∧ l0.length ≤ 100 ∧ (∀ d ∈ l0, 1 ≤ d.f0.f0 ∧ d.f0.f0 ≤ 9) then some (madeTo a1 l0 l0.length) else none
theorem impl_made.calls (A0 : Option Addr) (c0 : Nat) (l0 : List S79) (a1 : Int) (r : List S45) (w : World) (hr0 : Kd.C k79 w A0 l0.length l0) (hc0 : l0.length ≤ c0) (h : impl_made.f l0 a1 = some r) :
  Calls Tryz.prog 23 #[.slice A0 l0.length c0, .int .i64 a1] w fun e w' => ∃ v0_ : Value, e = .returned (v0_) ∧ Kd.R k45 45 w' w.heap.size (fun _ => True) v0_ r ∧ Below w.heap.size w w' := by
 unfold impl_made.f at h
 split at h
 ·rename_i hc
  obtain ⟨⟨h0, h3⟩, hn, hk⟩ := hc
  injection h with h; subst h
  have : a1 = 0 ∨ a1 = 1 ∨ a1 = 2 ∨ a1 = 3 := by omega
  rcases this with rfl | rfl | rfl | rfl
  ·exact made_walk0 A0 c0 l0 w hr0 hc0 hk hn
  ·by_cases h2 : l0.length = 2
   ·exact made_walk1t A0 c0 l0 w hr0 hc0 hk hn h2
   exact made_walk1f A0 c0 l0 w hr0 hc0 hk hn h2
  ·exact made_walk2 A0 c0 l0 w hr0 hc0 hk hn
  by_cases h2 : l0.length = 2
  ·exact made_walk3t A0 c0 l0 w hr0 hc0 hk hn h2
  exact made_walk3f A0 c0 l0 w hr0 hc0 hk hn h2
 cases h
end Go.Proofs.YtmkchdlkpbnldaaGreatDoor.PB
