/- What the laws share, part 5: Reg PBx51 PBx40 PBx41 PBx70 PBx74 PBx73 PBx80 PBx105 PBx47 PBx21 PBx75 PBx68. -/
import Derived.Test.YtmkchdlkpbnldaaGreatDoorG3
import Derived.Test.YtmkchdlkpbnldaaGreatDoorG4
namespace Go.Proofs.YtmkchdlkpbnldaaGreatDoorMine
open Go.RowKit Go.Proofs.YtmkchdlkpbnldaaGreatDoorW.PrintWords Go.Proofs.YtmkchdlkpbnldaaGreatDoorW.PrintLast Go.Proofs.YtmkchdlkpbnldaaGreatDoorW.PrintMore
set_option linter.unusedVariables false
section
variable {P : Program} {md : Region.Mode} {ops : Array Oper} {Q : Exit → Act → World → Prop} {S : World → Prop} {ds : List Nat} {fuel : Nat} {l : Array Bool} {a a' : Act} {w : World} {oi : Oper} {v : Value}
theorem pu (i n : Nat) (h : wpAnyLast P md ops Q S ds fuel (l.setIfInBounds i true) a' w) (hi : ops[i]? = some oi := by rfl) (hN : oi.dst = some n := by rfl)
    (hc : anyB md ops l (l.setIfInBounds i true) i = true := by exact any_of HT_.out (by kernel_rfl))
    (hy : Yields P ops oi v a := by first | exact Or.inl ⟨by rfl, by (intro w'; go_simp; with_reducible rfl)⟩ | exact Or.inr ⟨by rfl, by rfl⟩)
    (ha : a.put (some n) v = a' := by (simp only [Act.put, List.setIfInBounds_toArray, List.set_cons_zero, List.set_cons_succ, i64_w, i32_w]; rfl)) (hQ : ∀ c a w, Q (.panic c) (a.put oi.dst v) w → Q (.panic c) a w := by exact fun _ _ _ h => h) :
    wpAnyLast P md ops Q S ds (fuel + 1) l a w := pure_ _ hi hN hc hQ hy ha h
theorem ld (i n : Nat) (h : wpAnyLast P md ops Q S ds fuel (l.setIfInBounds i true) a' w) (hi : ops[i]? = some oi := by rfl) (hN : oi.dst = some n := by rfl)
    (hc : takeB md ops ds l (l.setIfInBounds i true) i = true := by exact take_of HT_.out (by kernel_rfl))
    (hy : YieldsIf P ops S oi v a := by first | exact Or.inl ⟨by rfl, by (intro w' s0; (try dsimp only at s0); go_split_ands; go_simp; with_reducible rfl)⟩ | exact Or.inr ⟨by rfl, by rfl⟩)
    (hS : S w := by assumption)
    (ha : a.put (some n) v = a' := by (simp only [Act.put, List.setIfInBounds_toArray, List.set_cons_zero, List.set_cons_succ, i64_w, i32_w]; rfl)) (hQ : ∀ c a w, Q (.panic c) (a.put oi.dst v) w → Q (.panic c) a w := by exact fun _ _ _ h => h) :
    wpAnyLast P md ops Q S ds (fuel + 1) l a w := take_ _ hi hN hc hQ hy hS ha h
theorem on1 (i n : Nat) (h : ∀ K : Act → World → Prop, Shut (∀ a' w', S w' → (S w' → wpAnyLast P md ops Q S ds fuel (l.setIfInBounds i true) a' w') → K a' w') → if Region.wanted oi (yielded ops a.tmps) = true then Oper.wp P oi a w K Q else K (a.put (some n) undef) w)
    (hi : ops[i]? = some oi := by rfl) (hN : oi.dst = some n := by rfl) (hc : readyB md ops l (l.setIfInBounds i true) i = true := by exact one_of HT_.out (by kernel_rfl)) (hd : i ∉ ds := by decide) :
    wpAnyLast P md ops Q S ds (fuel + 1) l a w := one_ _ hi hN hc hd h
theorem cal (i n : Nat) {f : FuncId} {fn : Func} {az : Array Operand} {ts : Array TypeId} (hf : P.funcs[f]? = some fn) (args : Array Value)
    (h : Calls P f args w fun e w' => ∃ v, e = .returned v ∧ S w' ∧ ∀ a', a.put (some n) v = a' → S w' → wpAnyLast P md ops Q S ds fuel (l.setIfInBounds i true) a' w')
    (hi : ops[i]? = some oi := by rfl) (hN : oi.dst = some n := by rfl) (hop : oi.op = .call { callee := .value (.func f), args := az, argTypes := ts } := by rfl)
    (hargs : az.map a.eval = args := by ((try simp only [List.map_toArray, List.map_cons, List.map_nil]); first | done | rfl))
    (hw : Region.wanted oi (yielded ops a.tmps) = true := by rfl) (hc : readyB md ops l (l.setIfInBounds i true) i = true := by exact one_of HT_.out (by kernel_rfl)) (hd : i ∉ ds := by decide)
    (hname : (fn.name == "runtime.NumGoroutine") = false := by kernel_rfl) (hb : fn.body.isSome = true := by rfl) :
    wpAnyLast P md ops Q S ds (fuel + 1) l a w :=
  on1 i n (fun K hK => goes_ hf hname hb args hw hN hop hargs (h.mono fun e w' ⟨v, he, hs, hk⟩ => ⟨v, he, hK _ _ hs (fun hs' => hk _ rfl hs')⟩)) hi hN hc hd
theorem fin (h : Q .normal a w) (hc : (Region.ready md ops l == []) = true := by exact done_of HT_.out (by kernel_rfl)) : wpAnyLast P md ops Q S ds fuel l a w := done_ hc h
end
end Go.Proofs.YtmkchdlkpbnldaaGreatDoorMine
namespace Go.Proofs.YtmkchdlkpbnldaaGreatDoor.PB
open Go.RowKit Go.Proofs.YtmkchdlkpbnldaaGreatDoorW.PrintWords Go.Proofs.YtmkchdlkpbnldaaGreatDoorW.PrintLast Go.Proofs.YtmkchdlkpbnldaaGreatDoorW.PrintMore
attribute [local go_sem] max2_int min2_int max_two min_two max_three min_three max_four min_four
open Go.Proofs.YtmkchdlkpbnldaaGreatDoorMine
set_option linter.unusedVariables false
set_option linter.unusedSimpArgs false
theorem z51_1 {p : Prop} (h : p := by first | (with_reducible assumption) | assumption) : p := h
theorem z51_2 {p : Prop} (h : p := by first | rfl | (simp [errW_none, errW_some] <;> rfl) | (simp [*, errW_none, errW_some] <;> rfl)) : p := h
def impl_scene_own.f (l0_0 : List (List (S45))) (l0_1 : List (S87)) (l0_2 : List (S45)) (a1 : Int) (a2 : Int) : Option (Bool) := if a1 < a2 then (if 0 ≤ a1 then (if a1 < (l0_1.length : Int) then (if 0 ≤ a2 then (if a2 < (l0_1.length : Int) then (some (((rd_T87 l0_1 a1).f0) == ((rd_T87 l0_1 a2).f0))) else (none)) else (none)) else (none)) else (none)) else (some false)
set_option maxHeartbeats 8000000 in
set_option maxRecDepth 100000 in
theorem impl_scene_own.calls (A0_0 : Option Addr) (c0_0 : Nat) (l0_0 : List (List (S45))) (A0_1 : Option Addr) (c0_1 : Nat) (l0_1 : List (S87)) (A0_2 : Option Addr) (c0_2 : Nat) (l0_2 : List (S45)) (a1 : Int) (a2 : Int) (r : Bool) (w : World) (hr0_0 : Kd.C (Kd.slice 45 k45) w A0_0 l0_0.length l0_0) (hc0_0 : l0_0.length ≤ c0_0) (hr0_1 : Kd.C k87 w A0_1 l0_1.length l0_1) (hc0_1 : l0_1.length ≤ c0_1) (hr0_2 : Kd.C k45 w A0_2 l0_2.length l0_2) (hc0_2 : l0_2.length ≤ c0_2) (h : impl_scene_own.f l0_0 l0_1 l0_2 a1 a2 = some r) :
  Calls Tryz.prog 51 #[.agg #[.slice A0_0 l0_0.length c0_0, .slice A0_1 l0_1.length c0_1, .slice A0_2 l0_2.length c0_2], .int .i64 a1, .int .i64 a2] w fun e w' => e = .returned (.bool r) ∧ Below w.heap.size w w' := by
 have hu59 := Tryz.underlying59; have HR0_0 := am_ hr0_0; have HC0_0 := am_ hc0_0; clear hr0_0 hc0_0; have HR0_1 := am_ hr0_1; have HC0_1 := am_ hc0_1; clear hr0_1 hc0_1; have HR0_2 := am_ hr0_2; have HC0_2 := am_ hc0_2; clear hr0_2 hc0_2; have HB := am_ (Below.refl w.heap.size w); have H : (if a1 < a2 then (if 0 ≤ a1 then (if a1 < (l0_1.length : Int) then (if 0 ≤ a2 then (if a2 < (l0_1.length : Int) then (some (((rd_T87 l0_1 a1).f0) == ((rd_T87 l0_1 a2).f0))) else (none)) else (none)) else (none)) else (none)) else (some false)) = some r := h; clear h; by_cases c4 : a1 < a2
 ·rw [if_pos c4] at H; have c4b0 := decide_eq_true c4; clear c4; by_cases c5 : 0 ≤ a1
  ·rw [if_pos c5] at H; have c5b0 := decide_eq_true c5; clear c5; by_cases c6 : a1 < (l0_1.length : Int)
   ·rw [if_pos c6] at H; have c6b0 := decide_eq_true c6; clear c6; by_cases c7 : 0 ≤ a2
    ·rw [if_pos c7] at H; have c7b0 := decide_eq_true c7; clear c7; by_cases c8 : a2 < (l0_1.length : Int)
     ·rw [if_pos c8] at H; have c8b0 := decide_eq_true c8; clear c8; obtain rfl := Option.some.inj H; go_enter Tryz.func51, Tryz.ntmps51; go_wp2_with (first | ((with_reducible refine gd 3 ?_); refine boxR w 3 #[.slice A0_0 l0_0.length c0_0, .slice A0_1 l0_1.length c0_1, .slice A0_2 l0_2.length c0_2] 59 ?_; clear HB; intro gb122 hg GE122 w9 BK122 hb HB; clear hb hg; obtain ⟨_, _, _, _, _, _⟩ := cz3 BK122; have p123 : 0 ≤ (a1 : Int) := of_decide_eq_true z51_1; have q123 : a1 < (l0_1.length : Int) := of_decide_eq_true z51_1; obtain ⟨ad123, e123, hx123_0, hx123_1, hx123_2⟩ := at_T87 HR0_1.out a1 p123 q123; cases e123; replace hx123_0 := xc HB hx123_0; replace hx123_1 := xc HB hx123_1; replace hx123_2 := xc HB hx123_2; replace p123 := eq_true p123; replace q123 := eq_true q123; have p124 : 0 ≤ (a2 : Int) := of_decide_eq_true z51_1; have q124 : a2 < (l0_1.length : Int) := of_decide_eq_true z51_1; obtain ⟨ad124, e124, hx124_0, hx124_1, hx124_2⟩ := at_T87 HR0_1.out a2 p124 q124; obtain rfl : ad123 = ad124 := (by injection e124); replace hx124_0 := xc HB hx124_0; replace hx124_1 := xc HB hx124_1; replace hx124_2 := xc HB hx124_2; replace p124 := eq_true p124; replace q124 := eq_true q124))
      repeat (go_quiet (first | ((with_reducible refine gd 3 ?_); refine boxR w 3 #[.slice A0_0 l0_0.length c0_0, .slice A0_1 l0_1.length c0_1, .slice A0_2 l0_2.length c0_2] 59 ?_; clear HB; intro gb122 hg GE122 w9 BK122 hb HB; clear hb hg; obtain ⟨_, _, _, _, _, _⟩ := cz3 BK122; have p123 : 0 ≤ (a1 : Int) := of_decide_eq_true z51_1; have q123 : a1 < (l0_1.length : Int) := of_decide_eq_true z51_1; obtain ⟨ad123, e123, hx123_0, hx123_1, hx123_2⟩ := at_T87 HR0_1.out a1 p123 q123; cases e123; replace hx123_0 := xc HB hx123_0; replace hx123_1 := xc HB hx123_1; replace hx123_2 := xc HB hx123_2; replace p123 := eq_true p123; replace q123 := eq_true q123; have p124 : 0 ≤ (a2 : Int) := of_decide_eq_true z51_1; have q124 : a2 < (l0_1.length : Int) := of_decide_eq_true z51_1; obtain ⟨ad124, e124, hx124_0, hx124_1, hx124_2⟩ := at_T87 HR0_1.out a2 p124 q124; obtain rfl : ad123 = ad124 := (by injection e124); replace hx124_0 := xc HB hx124_0; replace hx124_1 := xc HB hx124_1; replace hx124_2 := xc HB hx124_2; replace p124 := eq_true p124; replace q124 := eq_true q124)); try go_wp2_with (first | ((with_reducible refine gd 3 ?_); refine boxR w 3 #[.slice A0_0 l0_0.length c0_0, .slice A0_1 l0_1.length c0_1, .slice A0_2 l0_2.length c0_2] 59 ?_; clear HB; intro gb122 hg GE122 w9 BK122 hb HB; clear hb hg; obtain ⟨_, _, _, _, _, _⟩ := cz3 BK122; have p123 : 0 ≤ (a1 : Int) := of_decide_eq_true z51_1; have q123 : a1 < (l0_1.length : Int) := of_decide_eq_true z51_1; obtain ⟨ad123, e123, hx123_0, hx123_1, hx123_2⟩ := at_T87 HR0_1.out a1 p123 q123; cases e123; replace hx123_0 := xc HB hx123_0; replace hx123_1 := xc HB hx123_1; replace hx123_2 := xc HB hx123_2; replace p123 := eq_true p123; replace q123 := eq_true q123; have p124 : 0 ≤ (a2 : Int) := of_decide_eq_true z51_1; have q124 : a2 < (l0_1.length : Int) := of_decide_eq_true z51_1; obtain ⟨ad124, e124, hx124_0, hx124_1, hx124_2⟩ := at_T87 HR0_1.out a2 p124 q124; obtain rfl : ad123 = ad124 := (by injection e124); replace hx124_0 := xc HB hx124_0; replace hx124_1 := xc HB hx124_1; replace hx124_2 := xc HB hx124_2; replace p124 := eq_true p124; replace q124 := eq_true q124)))
      go_ret; exact ⟨z51_2, hh⟩
     rw [if_neg c8] at H; exact absurd H (by simp)
    rw [if_neg c7] at H; exact absurd H (by simp)
   rw [if_neg c6] at H; exact absurd H (by simp)
  rw [if_neg c5] at H; exact absurd H (by simp)
 rw [if_neg c4] at H; have c4b0 := decide_eq_false c4; clear c4; obtain rfl := Option.some.inj H; go_enter Tryz.func51, Tryz.ntmps51; go_wp2_with (first | ((with_reducible refine gd 3 ?_); refine boxR w 3 #[.slice A0_0 l0_0.length c0_0, .slice A0_1 l0_1.length c0_1, .slice A0_2 l0_2.length c0_2] 59 ?_; clear HB; intro gb122 hg GE122 w11 BK122 hb HB; clear hb hg))
 repeat (go_quiet (first | ((with_reducible refine gd 3 ?_); refine boxR w 3 #[.slice A0_0 l0_0.length c0_0, .slice A0_1 l0_1.length c0_1, .slice A0_2 l0_2.length c0_2] 59 ?_; clear HB; intro gb122 hg GE122 w11 BK122 hb HB; clear hb hg)); try go_wp2_with (first | ((with_reducible refine gd 3 ?_); refine boxR w 3 #[.slice A0_0 l0_0.length c0_0, .slice A0_1 l0_1.length c0_1, .slice A0_2 l0_2.length c0_2] 59 ?_; clear HB; intro gb122 hg GE122 w11 BK122 hb HB; clear hb hg)))
 go_ret; exact ⟨z51_2, hh⟩
theorem z40_1 {p : Prop} (h : p := by first | rfl | (simp [errW_none, errW_some] <;> rfl) | (simp [*, errW_none, errW_some] <;> rfl)) : p := h
def impl_Do_reads.f (a0_0 : Int) (a0_1 : Int) (a0_2 : Int) : Option (Bool) := if a0_0 = 2 then (some true) else (some (a0_0 == 5))
set_option maxHeartbeats 8000000 in
set_option maxRecDepth 100000 in
theorem impl_Do_reads.calls (a0_0 : Int) (a0_1 : Int) (a0_2 : Int) (r : Bool) (w : World) (h : impl_Do_reads.f a0_0 a0_1 a0_2 = some r) :
  Calls Tryz.prog 40 #[.agg #[.int .i64 a0_0, .int .i64 a0_1, .int .i64 a0_2]] w fun e w' => e = .returned (.bool r) ∧ Below w.heap.size w w' := by
 have hu45 := Tryz.underlying45; have HB := am_ (Below.refl w.heap.size w); have H : (if a0_0 = 2 then (some true) else (some (a0_0 == 5))) = some r := h; clear h; by_cases c2 : a0_0 = 2
 ·rw [if_pos c2] at H; have c2b0 := beq_iff_eq.mpr c2; have c2b1 := bne_eq_false_iff_eq.mpr c2; clear c2; obtain rfl := Option.some.inj H; go_enter Tryz.func40, Tryz.ntmps40; go_wp2_with (first | ((with_reducible refine gd 1 ?_); refine boxR w 1 #[.int .i64 a0_0, .int .i64 a0_1, .int .i64 a0_2] 45 ?_; clear HB; intro gb101 hg GE101 w3 BK101 hb HB; clear hb hg; obtain ⟨_, _, _, _, _, _⟩ := cz3 BK101))
  go_ret; exact ⟨z40_1, hh⟩
 rw [if_neg c2] at H; have c2b0 := beq_eq_false_iff_ne.mpr c2; have c2b1 := bne_iff_ne.mpr c2; obtain rfl := Option.some.inj H; go_enter Tryz.func40, Tryz.ntmps40; go_wp2_with (first | ((with_reducible refine gd 1 ?_); refine boxR w 1 #[.int .i64 a0_0, .int .i64 a0_1, .int .i64 a0_2] 45 ?_; clear HB; intro gb101 hg GE101 w5 BK101 hb HB; clear hb hg; obtain ⟨_, _, _, _, _, _⟩ := cz3 BK101))
 go_ret; exact ⟨z40_1, hh⟩
theorem z41_1 {p : Prop} (h : p := by first | rfl | (simp [errW_none, errW_some] <;> rfl) | (simp [*, errW_none, errW_some] <;> rfl)) : p := h
def impl_Do_writes.f (a0_0 : Int) (a0_1 : Int) (a0_2 : Int) : Option (Bool) := if a0_0 = 1 then (some true) else (if a0_0 = 3 then (some true) else (some (a0_0 == 6)))
set_option maxHeartbeats 8000000 in
set_option maxRecDepth 100000 in
theorem impl_Do_writes.calls (a0_0 : Int) (a0_1 : Int) (a0_2 : Int) (r : Bool) (w : World) (h : impl_Do_writes.f a0_0 a0_1 a0_2 = some r) :
  Calls Tryz.prog 41 #[.agg #[.int .i64 a0_0, .int .i64 a0_1, .int .i64 a0_2]] w fun e w' => e = .returned (.bool r) ∧ Below w.heap.size w w' := by
 have hu45 := Tryz.underlying45; have HB := am_ (Below.refl w.heap.size w); have H : (if a0_0 = 1 then (some true) else (if a0_0 = 3 then (some true) else (some (a0_0 == 6)))) = some r := h; clear h; by_cases c2 : a0_0 = 1
 ·rw [if_pos c2] at H; have c2b0 := beq_iff_eq.mpr c2; have c2b1 := bne_eq_false_iff_eq.mpr c2; clear c2; obtain rfl := Option.some.inj H; go_enter Tryz.func41, Tryz.ntmps41; go_wp2_with (first | ((with_reducible refine gd 1 ?_); refine boxR w 1 #[.int .i64 a0_0, .int .i64 a0_1, .int .i64 a0_2] 45 ?_; clear HB; intro gb102 hg GE102 w3 BK102 hb HB; clear hb hg; obtain ⟨_, _, _, _, _, _⟩ := cz3 BK102))
  go_ret; exact ⟨z41_1, hh⟩
 rw [if_neg c2] at H; have c2b0 := beq_eq_false_iff_ne.mpr c2; have c2b1 := bne_iff_ne.mpr c2; by_cases c5 : a0_0 = 3
 ·rw [if_pos c5] at H; have c5b0 := beq_iff_eq.mpr c5; have c5b1 := bne_eq_false_iff_eq.mpr c5; clear c5; obtain rfl := Option.some.inj H; go_enter Tryz.func41, Tryz.ntmps41; go_wp2_with (first | ((with_reducible refine gd 1 ?_); refine boxR w 1 #[.int .i64 a0_0, .int .i64 a0_1, .int .i64 a0_2] 45 ?_; clear HB; intro gb102 hg GE102 w6 BK102 hb HB; clear hb hg; obtain ⟨_, _, _, _, _, _⟩ := cz3 BK102))
  go_ret; exact ⟨z41_1, hh⟩
 rw [if_neg c5] at H; have c5b0 := beq_eq_false_iff_ne.mpr c5; have c5b1 := bne_iff_ne.mpr c5; obtain rfl := Option.some.inj H; go_enter Tryz.func41, Tryz.ntmps41; go_wp2_with (first | ((with_reducible refine gd 1 ?_); refine boxR w 1 #[.int .i64 a0_0, .int .i64 a0_1, .int .i64 a0_2] 45 ?_; clear HB; intro gb102 hg GE102 w8 BK102 hb HB; clear hb hg; obtain ⟨_, _, _, _, _, _⟩ := cz3 BK102))
 go_ret; exact ⟨z41_1, hh⟩
theorem z70_1 {p : Prop} (h : p := by first | rfl | (simp; done) | (simp [*]; done)) : p := h
theorem z70_2 {p : Prop} (h : p := by first | (with_reducible assumption) | assumption) : p := h
theorem z70_3 {p : Prop} (h : p := by repeat (first | exact Drawn0.refl _ | apply Drawn0.step)) : p := h
def slices_Index_int_int.l0 : Nat → List Int → Int → Int → Int → Option (Int)
  | 0, _, _, _, _ => none
  | k + 1, x0, x1, x7, x8 => if x8 < x7 then (if 0 ≤ x8 then (if x8 < (x0.length : Int) then (if x1 = (rd x0 x8) then (some x8) else (slices_Index_int_int.l0 k x0 x1 x7 (wrap64 (x8 + 1)))) else (none)) else (none)) else (some (-1))
def slices_Index_int_int.f (k : Nat) (l0 : List Int) (a1 : Int) : Option (Int) := slices_Index_int_int.l0 k l0 a1 (l0.length : Int) 0
set_option maxHeartbeats 8000000 in
set_option maxRecDepth 100000 in
theorem slices_Index_int_int.calls (k : Nat) (A0 : Option Addr) (c0 : Nat) (l0 : List Int) (a1 : Int) (r : Int) (w : World) (hr0 : Kd.C (Kd.int .i64) w A0 l0.length l0) (hc0 : l0.length ≤ c0) (h : slices_Index_int_int.f k l0 a1 = some r) :
  Calls Tryz.prog 70 #[.slice A0 l0.length c0, .int .i64 a1] w fun e w' => e = .returned (.int .i64 r) ∧ Drawn0 w w' := by
 have HR0 := am_ hr0; have HC0 := am_ hc0; clear hr0 hc0; have H : (slices_Index_int_int.l0 k l0 a1 (l0.length : Int) 0) = some r := h; clear h; have H' := am_ H; clear H; go_enter Tryz.func70, Tryz.ntmps70; go_wp2; go_loopg [8] k (fun kq v8 w' => ∃ (x8_1 : Int), v8 = .int .i64 x8_1 ∧ Aside0 (slices_Index_int_int.l0 kq l0 a1 (l0.length : Int) x8_1 = some r) ∧ Aside0 (kq ≤ k) ∧ Drawn0 w w')
 case atStart => exact ⟨(0), z70_1, H', ⟨Nat.le_refl _⟩, z70_3⟩
 case round =>
  clear H'; obtain ⟨x8_1, rfl, HA, HK1, ⟨m1, rfl⟩⟩ := hrel
  cases gk with
  | zero => exact absurd HA.out (by simp [slices_Index_int_int.l0])
  | succ k1 =>
   have H := HA.out; clear HA; simp only [slices_Index_int_int.l0] at H; by_cases c3 : x8_1 < (l0.length : Int)
   ·rw [if_pos c3] at H; have c3b0 := decide_eq_true c3; clear c3; by_cases c4 : 0 ≤ x8_1
    ·rw [if_pos c4] at H; have c4b0 := decide_eq_true c4; clear c4; by_cases c5 : x8_1 < (l0.length : Int)
     ·rw [if_pos c5] at H; have c5b0 := decide_eq_true c5; clear c5; by_cases c6 : a1 = (rd l0 x8_1)
      ·rw [if_pos c6] at H; have c6b0 := beq_iff_eq.mpr c6; have c6b1 := bne_eq_false_iff_eq.mpr c6; clear c6; obtain rfl := Option.some.inj H; have p106 : 0 ≤ (x8_1 : Int) := of_decide_eq_true z70_2; have q106 : x8_1 < (l0.length : Int) := of_decide_eq_true z70_2; obtain ⟨ad106, e106, hx106_0⟩ := Kd.at_int HR0.out x8_1 p106 q106; cases e106; replace p106 := eq_true p106; replace q106 := eq_true q106; go_wp2; go_ret; exact ⟨z70_1, z70_3⟩
      rw [if_neg c6] at H; have c6b0 := beq_eq_false_iff_ne.mpr c6; have c6b1 := bne_iff_ne.mpr c6; have H' := am_ H; clear H; have p106 : 0 ≤ (x8_1 : Int) := of_decide_eq_true z70_2; have q106 : x8_1 < (l0.length : Int) := of_decide_eq_true z70_2; obtain ⟨ad106, e106, hx106_0⟩ := Kd.at_int HR0.out x8_1 p106 q106; cases e106; replace p106 := eq_true p106; replace q106 := eq_true q106; go_wp2; go_roundg k1
      case measure => have := HK1.out; omega
      case rel => exact ⟨(wrap64 (x8_1 + 1)), z70_1, H', ⟨by have := HK1.out; omega⟩, z70_3⟩
     rw [if_neg c5] at H; exact absurd H (by simp)
    rw [if_neg c4] at H; exact absurd H (by simp)
   rw [if_neg c3] at H; have c3b0 := decide_eq_false c3; clear c3; obtain rfl := Option.some.inj H; go_wp2; go_ret; exact ⟨z70_1, z70_3⟩
theorem z74_1 {p : Prop} (h : p := by first | rfl | (simp; done) | (simp [*]; done)) : p := h
theorem z74_2 {p : Prop} (h : p := by first | (with_reducible assumption) | assumption) : p := h
theorem z74_3 {p : Prop} (h : p := by first | rfl | (simp [errW_none, errW_some] <;> rfl) | (simp [*, errW_none, errW_some] <;> rfl)) : p := h
mutual
def impl_scene_inside.l0 : Nat → Int → Int → Int → List (List (S45)) → List (S87) → List (S45) → Option (Int × Int × Bool)
  | 0, _, _, _, _, _, _ => none
  | k + 1, x1, x4, x7, x02, x01, x00 => if 0 ≤ x4 then (if x4 < (x00.length : Int) then (if ((rd_T45 x00 x4).f0) = 7 then (impl_scene_inside.l1 k x1 x4 x4 x02 x01 x00) else (if x4 = x1 then (impl_scene_inside.j1 k x1 x4 x7 false x02 x01 x00) else (impl_scene_inside.j1 k x1 x4 x7 (((rd_T45 x00 x4).f0) == 8) x02 x01 x00))) else (none)) else (none)
def impl_scene_inside.l1 : Nat → Int → Int → Int → List (List (S45)) → List (S87) → List (S45) → Option (Int × Int × Bool)
  | 0, _, _, _, _, _, _ => none
  | k + 1, x1, x4, x5, x02, x01, x00 => if 0 ≤ x5 then (if x5 < (x00.length : Int) then (if ((rd_T45 x00 x5).f0) = 8 then (some (x4, x5, decide (x1 ≤ x5))) else (impl_scene_inside.l1 k x1 x4 (wrap64 (x5 + 1)) x02 x01 x00)) else (none)) else (none)
def impl_scene_inside.j1 : Nat → Int → Int → Int → Bool → List (List (S45)) → List (S87) → List (S45) → Option (Int × Int × Bool)
  | 0, _, _, _, _, _, _, _ => none
  | k + 1, x1, x4, x7, x33, x02, x01, x00 => if x33 = true then (some (0, 0, false)) else (if (wrap64 (x4 - 1)) < 0 then (some (0, 0, false)) else (if 0 ≤ (wrap64 (x4 - 1)) then (if (wrap64 (x4 - 1)) < (x01.length : Int) then (if ((rd_T87 x01 (wrap64 (x4 - 1))).f0) = x7 then (impl_scene_inside.l0 k x1 (wrap64 (x4 - 1)) x7 x02 x01 x00) else (some (0, 0, false))) else (none)) else (none)))
end
def impl_scene_inside.f (k : Nat) (l0_0 : List (List (S45))) (l0_1 : List (S87)) (l0_2 : List (S45)) (a1 : Int) : Option (Int × Int × Bool) := if 0 ≤ a1 then (if a1 < (l0_1.length : Int) then (impl_scene_inside.l0 k a1 a1 ((rd_T87 l0_1 a1).f0) l0_0 l0_1 l0_2) else (none)) else (none)
set_option maxHeartbeats 8000000 in
set_option maxRecDepth 100000 in
theorem impl_scene_inside.calls (k : Nat) (A0_0 : Option Addr) (c0_0 : Nat) (l0_0 : List (List (S45))) (A0_1 : Option Addr) (c0_1 : Nat) (l0_1 : List (S87)) (A0_2 : Option Addr) (c0_2 : Nat) (l0_2 : List (S45)) (a1 : Int) (r1 : Int) (r2 : Int) (r3 : Bool) (w : World) (hr0_0 : Kd.C (Kd.slice 45 k45) w A0_0 l0_0.length l0_0) (hc0_0 : l0_0.length ≤ c0_0) (hr0_1 : Kd.C k87 w A0_1 l0_1.length l0_1) (hc0_1 : l0_1.length ≤ c0_1) (hr0_2 : Kd.C k45 w A0_2 l0_2.length l0_2) (hc0_2 : l0_2.length ≤ c0_2) (h : impl_scene_inside.f k l0_0 l0_1 l0_2 a1 = some (r1, r2, r3)) :
  Calls Tryz.prog 74 #[.agg #[.slice A0_0 l0_0.length c0_0, .slice A0_1 l0_1.length c0_1, .slice A0_2 l0_2.length c0_2], .int .i64 a1] w fun e w' => e = .returned (.tuple #[.int .i64 r1, .int .i64 r2, .bool r3]) ∧ Below w.heap.size w w' := by
 have hu59 := Tryz.underlying59; have HR0_0 := am_ hr0_0; have HC0_0 := am_ hc0_0; clear hr0_0 hc0_0; have HR0_1 := am_ hr0_1; have HC0_1 := am_ hc0_1; clear hr0_1 hc0_1; have HR0_2 := am_ hr0_2; have HC0_2 := am_ hc0_2; clear hr0_2 hc0_2; have HB := am_ (Below.refl w.heap.size w); have H : (if 0 ≤ a1 then (if a1 < (l0_1.length : Int) then (impl_scene_inside.l0 k a1 a1 ((rd_T87 l0_1 a1).f0) l0_0 l0_1 l0_2) else (none)) else (none)) = some (r1, r2, r3) := h; clear h; by_cases c3 : 0 ≤ a1
 ·rw [if_pos c3] at H; have c3b0 := decide_eq_true c3; clear c3; by_cases c4 : a1 < (l0_1.length : Int)
  ·rw [if_pos c4] at H; have c4b0 := decide_eq_true c4; clear c4; have H' := am_ H; clear H; go_enter Tryz.func74, Tryz.ntmps74; go_wp2_with (first | ((with_reducible refine gd 2 ?_); refine boxR w 2 #[.slice A0_0 l0_0.length c0_0, .slice A0_1 l0_1.length c0_1, .slice A0_2 l0_2.length c0_2] 59 ?_; clear HB; intro gb125 hg GE125 w5 BK125 hb HB; clear hb hg; obtain ⟨_, _, _, _, _, _⟩ := cz3 BK125; have p126 : 0 ≤ (a1 : Int) := of_decide_eq_true z74_2; have q126 : a1 < (l0_1.length : Int) := of_decide_eq_true z74_2; obtain ⟨ad126, e126, hx126_0, hx126_1, hx126_2⟩ := at_T87 HR0_1.out a1 p126 q126; cases e126; replace hx126_0 := xc HB hx126_0; replace hx126_1 := xc HB hx126_1; replace hx126_2 := xc HB hx126_2; replace p126 := eq_true p126; replace q126 := eq_true q126))
   go_loopg [4] k (fun kq v4 w' => ∃ (x4_1 : Int), v4 = .int .i64 x4_1 ∧ Aside0 (impl_scene_inside.l0 kq a1 x4_1 ((rd_T87 l0_1 a1).f0) l0_0 l0_1 l0_2 = some (r1, r2, r3)) ∧ Aside0 (kq ≤ k) ∧ Aside0 (w'.heap[gb125]? = some (.cells #[(.slice A0_0 l0_0.length c0_0), (.slice (some ad126) l0_1.length c0_1), (.slice A0_2 l0_2.length c0_2)] 59 (0, 0))) ∧ Aside0 (Below w.heap.size w w'))
   case atStart => exact ⟨(a1), z74_1, H', ⟨Nat.le_refl _⟩, ⟨bu BK125.out⟩, ⟨hh⟩⟩
   case round =>
    clear H'; obtain ⟨x4_1, rfl, HA, HK1, BK125, HB⟩ := hrel
    cases gk with
    | zero => exact absurd HA.out (by simp [impl_scene_inside.l0])
    | succ k1 =>
     have H := HA.out; clear HA; simp only [impl_scene_inside.l0] at H; by_cases c7 : 0 ≤ x4_1
     ·rw [if_pos c7] at H; have c7b0 := decide_eq_true c7; clear c7; by_cases c8 : x4_1 < (l0_2.length : Int)
      ·rw [if_pos c8] at H; have c8b0 := decide_eq_true c8; clear c8; by_cases c9 : ((rd_T45 l0_2 x4_1).f0) = 7
       ·rw [if_pos c9] at H; have c9b0 := beq_iff_eq.mpr c9; have c9b1 := bne_eq_false_iff_eq.mpr c9; clear c9; have H' := am_ H; clear H; have := cy1 BK125; have hcz10_1 := cf1 BK125.out; have hcz10_2 := cf2 BK125.out; have hfz10_0 := blk_frozen BK125.out 0; have hfz10_1 := blk_frozen BK125.out 1; have hfz10_2 := blk_frozen BK125.out 2; have p127 : 0 ≤ (x4_1 : Int) := of_decide_eq_true z74_2; have q127 : x4_1 < (l0_2.length : Int) := of_decide_eq_true z74_2; obtain ⟨ad127, e127, hx127_0, hx127_1, hx127_2⟩ := at_T45 HR0_2.out x4_1 p127 q127; cases e127; replace hx127_0 := xc HB hx127_0; replace hx127_1 := xc HB hx127_1; replace hx127_2 := xc HB hx127_2; replace p127 := eq_true p127; replace q127 := eq_true q127; go_wp2; go_loopg [5] k1 (fun kq v5 w' => ∃ (x5_2 : Int), v5 = .int .i64 x5_2 ∧ Aside0 (impl_scene_inside.l1 kq a1 x4_1 x5_2 l0_0 l0_1 l0_2 = some (r1, r2, r3)) ∧ Aside0 (kq ≤ k1) ∧ Aside0 (w'.heap[gb125]? = some (.cells #[(.slice A0_0 l0_0.length c0_0), (.slice (some ad126) l0_1.length c0_1), (.slice (some ad127) l0_2.length c0_2)] 59 (0, 0))) ∧ Aside0 (Below w.heap.size w w'))
        case atStart => exact ⟨(x4_1), z74_1, H', ⟨Nat.le_refl _⟩, ⟨bu BK125.out⟩, ⟨hh⟩⟩
        case round =>
         clear H'; obtain ⟨x5_2, rfl, HA, HK2, BK125, HB⟩ := hrel
         cases gk with
         | zero => exact absurd HA.out (by simp [impl_scene_inside.l1])
         | succ k2 =>
          have H := HA.out; clear HA; simp only [impl_scene_inside.l1] at H; by_cases c11 : 0 ≤ x5_2
          ·rw [if_pos c11] at H; have c11b0 := decide_eq_true c11; clear c11; by_cases c12 : x5_2 < (l0_2.length : Int)
           ·rw [if_pos c12] at H; have c12b0 := decide_eq_true c12; clear c12; by_cases c13 : ((rd_T45 l0_2 x5_2).f0) = 8
            ·rw [if_pos c13] at H; have c13b0 := beq_iff_eq.mpr c13; have c13b1 := bne_eq_false_iff_eq.mpr c13; clear c13; simp only [Option.some.injEq, Prod.mk.injEq] at H; obtain ⟨rfl, rfl, rfl⟩ := H; have := cy1 BK125; have hcz14_1 := cf1 BK125.out; have hcz14_2 := cf2 BK125.out; have hfz14_0 := blk_frozen BK125.out 0; have hfz14_1 := blk_frozen BK125.out 1; have hfz14_2 := blk_frozen BK125.out 2; have p130 : 0 ≤ (x5_2 : Int) := of_decide_eq_true z74_2; have q130 : x5_2 < (l0_2.length : Int) := of_decide_eq_true z74_2; obtain ⟨ad130, e130, hx130_0, hx130_1, hx130_2⟩ := at_T45 HR0_2.out x5_2 p130 q130; obtain rfl : ad127 = ad130 := (by injection e130); replace hx130_0 := xc HB hx130_0; replace hx130_1 := xc HB hx130_1; replace hx130_2 := xc HB hx130_2; replace p130 := eq_true p130; replace q130 := eq_true q130; go_wp2; go_ret3; exact ⟨z74_3, hh⟩
            rw [if_neg c13] at H; have c13b0 := beq_eq_false_iff_ne.mpr c13; have c13b1 := bne_iff_ne.mpr c13; have H' := am_ H; clear H; have := cy1 BK125; have hcz15_1 := cf1 BK125.out; have hcz15_2 := cf2 BK125.out; have hfz15_0 := blk_frozen BK125.out 0; have hfz15_1 := blk_frozen BK125.out 1; have hfz15_2 := blk_frozen BK125.out 2; have p130 : 0 ≤ (x5_2 : Int) := of_decide_eq_true z74_2; have q130 : x5_2 < (l0_2.length : Int) := of_decide_eq_true z74_2; obtain ⟨ad130, e130, hx130_0, hx130_1, hx130_2⟩ := at_T45 HR0_2.out x5_2 p130 q130; obtain rfl : ad127 = ad130 := (by injection e130); replace hx130_0 := xc HB hx130_0; replace hx130_1 := xc HB hx130_1; replace hx130_2 := xc HB hx130_2; replace p130 := eq_true p130; replace q130 := eq_true q130; go_wp2; go_roundg k2
            case measure => have := HK1.out; have := HK2.out; omega
            case rel => exact ⟨(wrap64 (x5_2 + 1)), z74_1, H', ⟨by have := HK1.out; have := HK2.out; omega⟩, ⟨bu BK125.out⟩, ⟨hh⟩⟩
           rw [if_neg c12] at H; exact absurd H (by simp)
          rw [if_neg c11] at H; exact absurd H (by simp)
       rw [if_neg c9] at H; have c9b0 := beq_eq_false_iff_ne.mpr c9; have c9b1 := bne_iff_ne.mpr c9; have HC16 := am_ H; clear H; have := cy1 BK125; have hcz17_1 := cf1 BK125.out; have hcz17_2 := cf2 BK125.out; have hfz17_0 := blk_frozen BK125.out 0; have hfz17_1 := blk_frozen BK125.out 1; have hfz17_2 := blk_frozen BK125.out 2; have p127 : 0 ≤ (x4_1 : Int) := of_decide_eq_true z74_2; have q127 : x4_1 < (l0_2.length : Int) := of_decide_eq_true z74_2; obtain ⟨ad127, e127, hx127_0, hx127_1, hx127_2⟩ := at_T45 HR0_2.out x4_1 p127 q127; cases e127; replace hx127_0 := xc HB hx127_0; replace hx127_1 := xc HB hx127_1; replace hx127_2 := xc HB hx127_2; replace p127 := eq_true p127; replace q127 := eq_true q127; go_upto_region 4 with (fail)
       go_cut [33] (fun v33 wc => ∃ (kq : Nat) (x33_15 : Bool), v33 = .bool x33_15 ∧ Aside0 (impl_scene_inside.j1 kq a1 x4_1 ((rd_T87 l0_1 a1).f0) x33_15 l0_0 l0_1 l0_2 = some (r1, r2, r3)) ∧ Aside0 (kq ≤ k1) ∧ Aside0 (wc.heap[gb125]? = some (.cells #[(.slice A0_0 l0_0.length c0_0), (.slice (some ad126) l0_1.length c0_1), (.slice (some ad127) l0_2.length c0_2)] 59 (0, 0))) ∧ Aside0 (Below w.heap.size w wc))
       case first =>
        have H := HC16.out; clear HC16; by_cases c18 : x4_1 = a1
        ·rw [if_pos c18] at H; have c18b0 := beq_iff_eq.mpr c18; have c18b1 := bne_eq_false_iff_eq.mpr c18; clear c18; (first | rw [c18b0] | (simp only [i64_w, i32_w]; rw [c18b0]) | skip); have H' := am_ H; clear H; go_wp2; go_meet
         case rel => exact ⟨_, (false), z74_1, H', ⟨by have := HK1.out; first | omega | exact Nat.le_refl _⟩, ⟨bu BK125.out⟩, ⟨hh⟩⟩
        rw [if_neg c18] at H; have c18b0 := beq_eq_false_iff_ne.mpr c18; have c18b1 := bne_iff_ne.mpr c18; (first | rw [c18b0] | (simp only [i64_w, i32_w]; rw [c18b0]) | skip); have H' := am_ H; clear H; have := cy1 BK125; have hcz19_1 := cf1 BK125.out; have hcz19_2 := cf2 BK125.out; have hfz19_0 := blk_frozen BK125.out 0; have hfz19_1 := blk_frozen BK125.out 1; have hfz19_2 := blk_frozen BK125.out 2; have p128 : 0 ≤ (x4_1 : Int) := of_decide_eq_true z74_2; have q128 : x4_1 < (l0_2.length : Int) := of_decide_eq_true z74_2; obtain ⟨ad128, e128, hx128_0, hx128_1, hx128_2⟩ := at_T45 HR0_2.out x4_1 p128 q128; obtain rfl : ad127 = ad128 := (by injection e128); replace hx128_0 := xc HB hx128_0; replace hx128_1 := xc HB hx128_1; replace hx128_2 := xc HB hx128_2; replace p128 := eq_true p128; replace q128 := eq_true q128; go_wp2; go_meet
        case rel => exact ⟨_, ((((rd_T45 l0_2 x4_1).f0) == 8)), z74_1, H', ⟨by have := HK1.out; first | omega | exact Nat.le_refl _⟩, ⟨bu BK125.out⟩, ⟨hh⟩⟩
       case rest =>
        clear HC16; obtain ⟨kq, x33_15, rfl, HA, HJ15, BK125, HB⟩ := hcut
        cases kq with
        | zero => exact absurd HA.out (by simp [impl_scene_inside.j1])
        | succ kj15 =>
         have H := HA.out; clear HA; simp only [impl_scene_inside.j1] at H; by_cases c20 : x33_15 = true
         ·subst c20; rw [if_pos rfl] at H; simp only [Option.some.injEq, Prod.mk.injEq] at H; obtain ⟨rfl, rfl, rfl⟩ := H; go_wp2; go_ret3; exact ⟨z74_3, hh⟩
         replace c20 := Bool.eq_false_iff.mpr c20; subst c20; rw [if_neg Bool.false_ne_true] at H; by_cases c21 : (wrap64 (x4_1 - 1)) < 0
         ·rw [if_pos c21] at H; have c21b0 := decide_eq_true c21; clear c21; simp only [Option.some.injEq, Prod.mk.injEq] at H; obtain ⟨rfl, rfl, rfl⟩ := H; go_wp2; go_ret3; exact ⟨z74_3, hh⟩
         rw [if_neg c21] at H; have c21b0 := decide_eq_false c21; clear c21; obtain ⟨ji22, hji22⟩ : ∃ j_ : Int, (wrap64 (x4_1 - 1)) = j_ := ⟨_, rfl⟩; replace H : (if 0 ≤ (ji22) then (if (ji22) < (l0_1.length : Int) then (if ((rd_T87 l0_1 (ji22)).f0) = ((rd_T87 l0_1 a1).f0) then (impl_scene_inside.l0 kj15 a1 ji22 ((rd_T87 l0_1 a1).f0) l0_0 l0_1 l0_2) else (some (0, 0, false))) else (none)) else (none)) = some (r1, r2, r3) := by first | (rw [hji22] at H; exact H) | (simp only [hji22] at H ⊢; exact H)
         (try rw [hji22] at c21b0); have hji22w : (IntKind.i64.wrap (x4_1 - 1)) = ji22 := (i64_w _).trans hji22; by_cases c23 : 0 ≤ (ji22)
         ·rw [if_pos c23] at H; have c23b0 := decide_eq_true c23; clear c23; by_cases c24 : (ji22) < (l0_1.length : Int)
          ·rw [if_pos c24] at H; have c24b0 := decide_eq_true c24; clear c24; by_cases c25 : ((rd_T87 l0_1 (ji22)).f0) = ((rd_T87 l0_1 a1).f0)
           ·rw [if_pos c25] at H; have c25b0 := beq_iff_eq.mpr c25; have c25b1 := bne_eq_false_iff_eq.mpr c25; clear c25; have H' := am_ H; clear H; have := cy1 BK125; have hcz26_1 := cf1 BK125.out; have hcz26_2 := cf2 BK125.out; have hfz26_0 := blk_frozen BK125.out 0; have hfz26_1 := blk_frozen BK125.out 1; have hfz26_2 := blk_frozen BK125.out 2; have p129 : 0 ≤ ((ji22) : Int) := of_decide_eq_true z74_2; have q129 : (ji22) < (l0_1.length : Int) := of_decide_eq_true z74_2; obtain ⟨ad129, e129, hx129_0, hx129_1, hx129_2⟩ := at_T87 HR0_1.out (ji22) p129 q129; obtain rfl : ad126 = ad129 := (by injection e129); replace hx129_0 := xc HB hx129_0; replace hx129_1 := xc HB hx129_1; replace hx129_2 := xc HB hx129_2; replace p129 := eq_true p129; replace q129 := eq_true q129; go_wp2; go_roundg kj15
            case measure => have := HK1.out; have := HJ15.out; omega
            case rel => exact ⟨(ji22), (by first | rfl | (simp; done) | (simp only [← hji22] <;> (first | rfl | simp)) | (simp [*]; done)), H', ⟨by have := HK1.out; have := HJ15.out; omega⟩, ⟨bu BK125.out⟩, ⟨hh⟩⟩
           rw [if_neg c25] at H; have c25b0 := beq_eq_false_iff_ne.mpr c25; have c25b1 := bne_iff_ne.mpr c25; simp only [Option.some.injEq, Prod.mk.injEq] at H; obtain ⟨rfl, rfl, rfl⟩ := H; have := cy1 BK125; have hcz27_1 := cf1 BK125.out; have hcz27_2 := cf2 BK125.out; have hfz27_0 := blk_frozen BK125.out 0; have hfz27_1 := blk_frozen BK125.out 1; have hfz27_2 := blk_frozen BK125.out 2; have p129 : 0 ≤ ((ji22) : Int) := of_decide_eq_true z74_2; have q129 : (ji22) < (l0_1.length : Int) := of_decide_eq_true z74_2; obtain ⟨ad129, e129, hx129_0, hx129_1, hx129_2⟩ := at_T87 HR0_1.out (ji22) p129 q129; obtain rfl : ad126 = ad129 := (by injection e129); replace hx129_0 := xc HB hx129_0; replace hx129_1 := xc HB hx129_1; replace hx129_2 := xc HB hx129_2; replace p129 := eq_true p129; replace q129 := eq_true q129; go_wp2; go_ret3; exact ⟨by first | rfl | (simp [errW_none, errW_some] <;> rfl) | (simp only [← hji22]; first | rfl | (simp [errW_none, errW_some] <;> rfl)) | (simp [*, errW_none, errW_some] <;> rfl), hh⟩
          rw [if_neg c24] at H; exact absurd H (by simp)
         rw [if_neg c23] at H; exact absurd H (by simp)
      rw [if_neg c8] at H; exact absurd H (by simp)
     rw [if_neg c7] at H; exact absurd H (by simp)
  rw [if_neg c4] at H; exact absurd H (by simp)
 rw [if_neg c3] at H; exact absurd H (by simp)
end Go.Proofs.YtmkchdlkpbnldaaGreatDoor.PB
namespace Go.Proofs.YtmkchdlkpbnldaaGreatDoor.PB
open Go.RowKit Go.Proofs.YtmkchdlkpbnldaaGreatDoorW.PrintWords Go.Proofs.YtmkchdlkpbnldaaGreatDoorW.PrintLast Go.Proofs.YtmkchdlkpbnldaaGreatDoorW.PrintMore
attribute [local go_sem] max2_int min2_int max_two min_two max_three min_three max_four min_four
open Go.Proofs.YtmkchdlkpbnldaaGreatDoorMine
set_option linter.unusedVariables false
set_option linter.unusedSimpArgs false
def impl_graph_uint64.f (l0 : List Int) : Option (List Int) := if l0.length < 1048577 then some l0 else none
set_option maxRecDepth 100000 in
set_option maxHeartbeats 800000 in
theorem impl_graph_uint64.calls (A0 : Option Addr) (c0 : Nat) (l0 : List Int) (r : List Int) (w : World) (hr0 : Kd.C (Kd.int .u64) w A0 l0.length l0) (hc0 : l0.length ≤ c0) (h : impl_graph_uint64.f l0 = some r) :
  Calls Tryz.prog 73 #[.slice A0 l0.length c0] w fun e w' => ∃ v0_ : Value, e = .returned (v0_) ∧ Kd.R (Kd.int .u64) 116 w' w.heap.size (fun _ => True) v0_ r ∧ Below w.heap.size w w' := by
 unfold impl_graph_uint64.f at h
 split at h
 ·rename_i hl
  injection h with h; subst h
  have qT : ∀ (w : World) (a : Option Addr) (n c n' c' : Nat), (binOp .eql 67 (.slice a n c) (.slice none n' c')).run Tryz.prog w = .ok (.bool a.isNone) w := fun w a n c n' c' => Lib.run_eql_slice_nil w _ _ a n c n' c' Tryz.underlying67
  rcases A0 with _ | ad
  ·obtain rfl := nil_of_none hr0
   go_enter Tryz.func73, Tryz.ntmps73
   go_wp2_with fail
   go_ret
   exact ⟨_, rfl, Kd.R_nil _ _ _ _ _, Below.refl _ _⟩
  go_enter Tryz.func73, Tryz.ntmps73
  go_wp2_with (at_builtin; refine park ?_)
  refine ⟨?_⟩
  refine Kd.R_append_rows (Kd.int .u64) (Rr := (Kd.int .u64).K (w.alloc (Obj.cells #[] 116))) (w0 := w) w.heap.size (by rfl) (.tmp 5) (.tmp 6) 67 116 (.int .u64 0) 8 rfl Tryz.underlying67 info116 rfl (by decide) (by omega) (.slice (some ⟨w.heap.size, 0, none⟩) 0 0) [] l0 (some ad) l0.length c0 (fun _ => True) (fun _ => False) rfl rfl ?aO ?aR ?aK (fun _ h => h.elim) (fun _ _ => trivial) ?aB (by simp) ?aL ?_
  case aO => exact R_empty _ _ _ _ _ (Nat.le_refl _) trivial
  case aR => exact C_rows (Kd.C_below hr0 (below_alloc (Below.refl _ _) _))
  case aK => intro x cs hx; exact hx
  case aB => exact below_alloc (Below.refl _ _) _
  case aL => simp; omega
  intro v1 w1 ho1 hb1 _ _
  go_wp2_with fail
  go_ret
  exact ⟨_, rfl, by simpa using ho1, hb1⟩
 cases h
theorem z80_1 {p : Prop} (h : p := by first | rfl | (simp; done) | (simp [*]; done)) : p := h
theorem z80_2 {p : Prop} (h : p := by first | (with_reducible assumption) | assumption) : p := h
theorem z80_3 {p : Prop} (h : p := by repeat (first | exact Drawn0.refl _ | apply Drawn0.step)) : p := h
def cmp_Or_int.l0 : Nat → Int → List Int → Int → Int → Option (Int)
  | 0, _, _, _, _ => none
  | k + 1, x3, x6, x7, x8 => if x8 < x7 then (if 0 ≤ x8 then (if x8 < (x6.length : Int) then (if (rd x6 x8) = x3 then (cmp_Or_int.l0 k x3 x6 x7 (wrap64 (x8 + 1))) else (some (rd x6 x8))) else (none)) else (none)) else (some x3)
def cmp_Or_int.f (k : Nat) (l0 : List Int) : Option (Int) := cmp_Or_int.l0 k 0 l0 (l0.length : Int) 0
set_option maxHeartbeats 8000000 in
set_option maxRecDepth 100000 in
theorem cmp_Or_int.calls (k : Nat) (A0 : Option Addr) (c0 : Nat) (l0 : List Int) (r : Int) (w : World) (hr0 : Kd.C (Kd.int .i64) w A0 l0.length l0) (hc0 : l0.length ≤ c0) (h : cmp_Or_int.f k l0 = some r) :
  Calls Tryz.prog 80 #[.slice A0 l0.length c0] w fun e w' => e = .returned (.int .i64 r) ∧ Drawn0 w w' := by
 have HR0 := am_ hr0; have HC0 := am_ hc0; clear hr0 hc0; have H : (cmp_Or_int.l0 k 0 l0 (l0.length : Int) 0) = some r := h; clear h; have H' := am_ H; clear H; go_enter Tryz.func80, Tryz.ntmps80; go_wp2; go_loopg [8] k (fun kq v8 w' => ∃ (x8_1 : Int), v8 = .int .i64 x8_1 ∧ Aside0 (cmp_Or_int.l0 kq 0 l0 (l0.length : Int) x8_1 = some r) ∧ Aside0 (kq ≤ k) ∧ Drawn0 w w')
 case atStart => exact ⟨(0), z80_1, H', ⟨Nat.le_refl _⟩, z80_3⟩
 case round =>
  clear H'; obtain ⟨x8_1, rfl, HA, HK1, ⟨m1, rfl⟩⟩ := hrel
  cases gk with
  | zero => exact absurd HA.out (by simp [cmp_Or_int.l0])
  | succ k1 =>
   have H := HA.out; clear HA; simp only [cmp_Or_int.l0] at H; by_cases c2 : x8_1 < (l0.length : Int)
   ·rw [if_pos c2] at H; have c2b0 := decide_eq_true c2; clear c2; by_cases c3 : 0 ≤ x8_1
    ·rw [if_pos c3] at H; have c3b0 := decide_eq_true c3; clear c3; by_cases c4 : x8_1 < (l0.length : Int)
     ·rw [if_pos c4] at H; have c4b0 := decide_eq_true c4; clear c4; by_cases c5 : (rd l0 x8_1) = 0
      ·rw [if_pos c5] at H; have c5b0 := beq_iff_eq.mpr c5; have c5b1 := bne_eq_false_iff_eq.mpr c5; clear c5; have H' := am_ H; clear H; have p158 : 0 ≤ (x8_1 : Int) := of_decide_eq_true z80_2; have q158 : x8_1 < (l0.length : Int) := of_decide_eq_true z80_2; obtain ⟨ad158, e158, hx158_0⟩ := Kd.at_int HR0.out x8_1 p158 q158; cases e158; replace p158 := eq_true p158; replace q158 := eq_true q158; go_wp2; go_roundg k1
       case measure => have := HK1.out; omega
       case rel => exact ⟨(wrap64 (x8_1 + 1)), z80_1, H', ⟨by have := HK1.out; omega⟩, z80_3⟩
      rw [if_neg c5] at H; have c5b0 := beq_eq_false_iff_ne.mpr c5; have c5b1 := bne_iff_ne.mpr c5; obtain rfl := Option.some.inj H; have p158 : 0 ≤ (x8_1 : Int) := of_decide_eq_true z80_2; have q158 : x8_1 < (l0.length : Int) := of_decide_eq_true z80_2; obtain ⟨ad158, e158, hx158_0⟩ := Kd.at_int HR0.out x8_1 p158 q158; cases e158; replace p158 := eq_true p158; replace q158 := eq_true q158; go_wp2; go_ret; exact ⟨z80_1, z80_3⟩
     rw [if_neg c4] at H; exact absurd H (by simp)
    rw [if_neg c3] at H; exact absurd H (by simp)
   rw [if_neg c2] at H; have c2b0 := decide_eq_false c2; clear c2; obtain rfl := Option.some.inj H; go_wp2; go_ret; exact ⟨z80_1, z80_3⟩
def cmp_isNaN_int.f (a0 : Int) : Option (Bool) := some (a0 != a0)
set_option maxHeartbeats 8000000 in
set_option maxRecDepth 100000 in
theorem cmp_isNaN_int.calls (a0 : Int) (r : Bool) (w : World) (h : cmp_isNaN_int.f a0 = some r) :
  Calls Tryz.prog 105 #[.int .i64 a0] w fun e w' => e = .returned (.bool r) ∧ Drawn0 w w' := by
 have H : (some (a0 != a0)) = some r := h; clear h; obtain rfl := Option.some.inj H; go_enter Tryz.func105, Tryz.ntmps105; go_wp2; go_ret; exact ⟨by first | rfl | (simp; done) | (simp [*]; done), by repeat (first | exact Drawn0.refl _ | apply Drawn0.step)⟩
def slices_Clone_int_int_47.f (l0 : List Int) : Option (List Int) := if l0.length < 1048577 then some l0 else none
set_option maxRecDepth 100000 in
set_option maxHeartbeats 800000 in
theorem slices_Clone_int_int_47.calls (A0 : Option Addr) (c0 : Nat) (l0 : List Int) (r : List Int) (w : World) (hr0 : Kd.C (Kd.int .i64) w A0 l0.length l0) (hc0 : l0.length ≤ c0) (h : slices_Clone_int_int_47.f l0 = some r) :
  Calls Tryz.prog 47 #[.slice A0 l0.length c0] w fun e w' => ∃ v0_ : Value, e = .returned (v0_) ∧ Kd.R (Kd.int .i64) 3 w' w.heap.size (fun _ => True) v0_ r ∧ Below w.heap.size w w' := by
 unfold slices_Clone_int_int_47.f at h
 split at h
 ·rename_i hl
  injection h with h; subst h
  have qT : ∀ (w : World) (a : Option Addr) (n c n' c' : Nat), (binOp .eql 33 (.slice a n c) (.slice none n' c')).run Tryz.prog w = .ok (.bool a.isNone) w := fun w a n c n' c' => Lib.run_eql_slice_nil w _ _ a n c n' c' Tryz.underlying33
  rcases A0 with _ | ad
  ·obtain rfl := nil_of_none hr0
   go_enter Tryz.func47, Tryz.ntmps47
   go_wp2_with fail
   go_ret
   exact ⟨_, rfl, Kd.R_nil _ _ _ _ _, Below.refl _ _⟩
  go_enter Tryz.func47, Tryz.ntmps47
  go_wp2_with (at_builtin; refine park ?_)
  refine ⟨?_⟩
  refine Kd.R_append_rows (Kd.int .i64) (Rr := (Kd.int .i64).K (w.alloc (Obj.cells #[] 3))) (w0 := w) w.heap.size (by rfl) (.tmp 5) (.tmp 6) 33 3 (.int .i64 0) 8 rfl Tryz.underlying33 info3 rfl (by decide) (by omega) (.slice (some ⟨w.heap.size, 0, none⟩) 0 0) [] l0 (some ad) l0.length c0 (fun _ => True) (fun _ => False) rfl rfl ?aO ?aR ?aK (fun _ h => h.elim) (fun _ _ => trivial) ?aB (by simp) ?aL ?_
  case aO => exact R_empty _ _ _ _ _ (Nat.le_refl _) trivial
  case aR => exact C_rows (Kd.C_below hr0 (below_alloc (Below.refl _ _) _))
  case aK => intro x cs hx; exact hx
  case aB => exact below_alloc (Below.refl _ _) _
  case aL => simp; omega
  intro v1 w1 ho1 hb1 _ _
  go_wp2_with fail
  go_ret
  exact ⟨_, rfl, by simpa using ho1, hb1⟩
 cases h
def impl_in.f (a0 : Int) (a1 : Int) (a2 : Int) : Option (Bool) := if a0 ≥ a1 then (some (decide (a0 ≤ a2))) else (some false)
set_option maxHeartbeats 8000000 in
set_option maxRecDepth 100000 in
theorem impl_in.calls (a0 : Int) (a1 : Int) (a2 : Int) (r : Bool) (w : World) (h : impl_in.f a0 a1 a2 = some r) :
  Calls Tryz.prog 21 #[.int .i64 a0, .int .i64 a1, .int .i64 a2] w fun e w' => e = .returned (.bool r) ∧ Drawn0 w w' := by
 have H : (if a0 ≥ a1 then (some (decide (a0 ≤ a2))) else (some false)) = some r := h; clear h; by_cases c4 : a0 ≥ a1
 ·rw [if_pos c4] at H; have c4b0 := decide_eq_true c4; clear c4; obtain rfl := Option.some.inj H; go_enter Tryz.func21, Tryz.ntmps21; go_wp2; go_ret; exact ⟨by first | rfl | (simp; done) | (simp [*]; done), by repeat (first | exact Drawn0.refl _ | apply Drawn0.step)⟩
 rw [if_neg c4] at H; have c4b0 := decide_eq_false c4; clear c4; obtain rfl := Option.some.inj H; go_enter Tryz.func21, Tryz.ntmps21; go_wp2; go_ret; exact ⟨by first | rfl | (simp; done) | (simp [*]; done), by repeat (first | exact Drawn0.refl _ | apply Drawn0.step)⟩
theorem z75_1 {p : Prop} (h : p := by first | rfl | (simp [errW_none, errW_some] <;> rfl) | (simp [*, errW_none, errW_some] <;> rfl)) : p := h
def impl_Do_valued.f (a0_0 : Int) (a0_1 : Int) (a0_2 : Int) : Option (Bool) := if a0_0 = 1 then (some true) else (some (a0_0 == 6))
set_option maxHeartbeats 8000000 in
set_option maxRecDepth 100000 in
theorem impl_Do_valued.calls (a0_0 : Int) (a0_1 : Int) (a0_2 : Int) (r : Bool) (w : World) (h : impl_Do_valued.f a0_0 a0_1 a0_2 = some r) :
  Calls Tryz.prog 75 #[.agg #[.int .i64 a0_0, .int .i64 a0_1, .int .i64 a0_2]] w fun e w' => e = .returned (.bool r) ∧ Below w.heap.size w w' := by
 have hu45 := Tryz.underlying45; have HB := am_ (Below.refl w.heap.size w); have H : (if a0_0 = 1 then (some true) else (some (a0_0 == 6))) = some r := h; clear h; by_cases c2 : a0_0 = 1
 ·rw [if_pos c2] at H; have c2b0 := beq_iff_eq.mpr c2; have c2b1 := bne_eq_false_iff_eq.mpr c2; clear c2; obtain rfl := Option.some.inj H; go_enter Tryz.func75, Tryz.ntmps75; go_wp2_with (first | ((with_reducible refine gd 1 ?_); refine boxR w 1 #[.int .i64 a0_0, .int .i64 a0_1, .int .i64 a0_2] 45 ?_; clear HB; intro gb350 hg GE350 w3 BK350 hb HB; clear hb hg; obtain ⟨_, _, _, _, _, _⟩ := cz3 BK350))
  go_ret; exact ⟨z75_1, hh⟩
 rw [if_neg c2] at H; have c2b0 := beq_eq_false_iff_ne.mpr c2; have c2b1 := bne_iff_ne.mpr c2; obtain rfl := Option.some.inj H; go_enter Tryz.func75, Tryz.ntmps75; go_wp2_with (first | ((with_reducible refine gd 1 ?_); refine boxR w 1 #[.int .i64 a0_0, .int .i64 a0_1, .int .i64 a0_2] 45 ?_; clear HB; intro gb350 hg GE350 w5 BK350 hb HB; clear hb hg; obtain ⟨_, _, _, _, _, _⟩ := cz3 BK350))
 go_ret; exact ⟨z75_1, hh⟩
def slices_Clone_int_int_68.f (l0 : List (List Int)) : Option (List (List Int)) := if l0.length < 1048577 then some l0 else none
set_option maxRecDepth 100000 in
set_option maxHeartbeats 800000 in
theorem slices_Clone_int_int_68.calls (P0_ : Nat → Prop) (A0 : Option Addr) (c0 : Nat) (l0 : List (List Int)) (r : List (List Int)) (w : World) (hs0 : Kd.V (Kd.slice 3 (Kd.int .i64)) 33 w w.heap.size (fun k_ => P0_ k_) (.slice A0 l0.length c0) l0) (h : slices_Clone_int_int_68.f l0 = some r) :
  Calls Tryz.prog 68 #[.slice A0 l0.length c0] w fun e w' => ∃ v0_ : Value, e = .returned (v0_) ∧ Kd.N (Kd.slice 3 (Kd.int .i64)) 33 w' w.heap.size (fun k_ => (P0_ k_ ∨ w.heap.size ≤ k_)) v0_ r ∧ Below w.heap.size w w' := by
 unfold slices_Clone_int_int_68.f at h
 split at h
 ·rename_i hl
  injection h with h; subst h
  have qT : ∀ (w : World) (a : Option Addr) (n c n' c' : Nat), (binOp .eql 63 (.slice a n c) (.slice none n' c')).run Tryz.prog w = .ok (.bool a.isNone) w := fun w a n c n' c' => Lib.run_eql_slice_nil w _ _ a n c n' c' Tryz.underlying63
  have HC := (Kd.V_reads' hs0).2.2
  rcases A0 with _ | ad
  ·obtain rfl := nil_of_none HC
   clear HC
   go_enter Tryz.func68, Tryz.ntmps68
   go_wp2_with fail
   go_ret
   exact ⟨_, rfl, Kd.N_nil _ _ _ _ _, Below.refl _ _⟩
  have HF := am_ (Kd.V_F (Kd.V_alloc (Kd.V_bound hs0) (Obj.cells #[] 33)))
  clear HC hs0
  go_enter Tryz.func68, Tryz.ntmps68
  go_wp2_with (at_builtin; refine park ?_)
  refine ⟨?_⟩
  refine Kd.N_append_rows (Kd.slice 3 (Kd.int .i64)) (w0 := w) w.heap.size (by rfl) (.tmp 5) (.tmp 6) 63 33 (.slice none 0 0) 24 rfl Tryz.underlying63 info33 rfl (by decide) (by omega) (.slice (some ⟨w.heap.size, 0, none⟩) 0 0) [] l0 (some ad) l0.length c0 (fun k_ => (P0_ k_ ∨ w.heap.size ≤ k_)) _ rfl rfl ?aO HF.out ?aK ?aF ?aB (by simp) ?aL ?_
  case aO => exact Kd.R_N (R_empty _ _ _ _ _ (Nat.le_refl _) (.inr (Nat.le_refl _)))
  case aK => intro k hk; exact ⟨.inl hk.1, fun e => by have := hk.2; simp [Value.ownBlock] at e; omega⟩
  case aF => intro k hk; simp at hk; exact .inr (by omega)
  case aB => exact below_alloc (Below.refl _ _) _
  case aL => simp; omega
  intro v1 w1 ho1 hb1 _ _
  go_wp2_with fail
  go_ret
  exact ⟨_, rfl, by simpa using ho1, hb1⟩
 cases h
end Go.Proofs.YtmkchdlkpbnldaaGreatDoor.PB
