-- Written by this session's wip/myprint.py (the kit's print.py, with hand-written chunks). Lean checks it.
import Derived.Test.YtefkbmhkhpekjaaPBx0
import Derived.Test.YtefkbmhkhpekjaaPBx31
import Derived.Test.YtefkbmhkhpekjaaPBx82
import Derived.Test.YtefkbmhkhpekjaaPBx90
import Derived.Maps.OwnSet
namespace Go.Proofs.Ytefkbmhkhpekjaa.PB
open Go.RowKit Go.Proofs.YtefkbmhkhpekjaaW.PrintWords Go.Proofs.YtefkbmhkhpekjaaW.PrintLast Go.Proofs.YtefkbmhkhpekjaaW.PrintMore
attribute [local go_sem] max2_int min2_int max_two min_two max_three min_three max_four min_four   -- for this text's walks alone
open Go.Proofs.YtefkbmhkhpekjaaMine
set_option linter.unusedVariables false
set_option linter.unusedSimpArgs false

theorem z35_1 {p : Prop} (h : p := by injection hk with hk; omega) : p := h
/-! ### impl_TurnPlain: function 35 -/
open Go.Maps in
theorem wpList_insert_own {H : Type} {P : Program} (w : World) {ops : Array Oper} {rest : List Oper} {o : Oper} {a : Act} {Q : Exit → Act → World → Prop}
    (hg : o.guard = none) (m x v : Operand) (t : TypeId) (hop : o.op = Op.insert t m x v)
    (k e : TypeId) (K : Keyed P k) (ht : P.underlying t = some (.map k e)) (R : Value → Option (DataW H × List MemPlace)) (b n : Nat) (D : DataW H)
    (hm : a.eval m = .map (some b)) (hown : w.ownsMap P k R b n D) (hn : n < maxLen) (key val : Value) (kl : Lit) (hx : a.eval x = key) (hv : a.eval v = val) (hkey : keyOf P k key = some kl)
    (d : DataW H) (ps : List MemPlace) (hval : R val = some (d, ps))
    (hK : ∀ w', w'.ownsMap P k R b (n + 1) (D.put kl d) → w.grownBy w' (some b) → wpList P ops Q rest (a.put o.dst undef) w') :
    wpList P ops Q (o :: rest) a w := by
  refine wpList_plain hg fun K' hK' => ?_
  obtain ⟨w', hrun, r1, r2⟩ := hown.update K ht hn hkey hval
  unfold Oper.wp
  simp [execOp, hop, hm, hx, hv, hrun, Result.andThen]
  exact hK' _ _ (hK w' r1 r2)
/-- The map of the changes: a take is a load, a give a store. -/
def plainD : DataW Unit := ((DataW.map []).put (.int .i64 5) (.lit (.int .i64 2))).put (.int .i64 6) (.lit (.int .i64 1))
def plainK (k : Int) : Int := if k = 5 then 2 else if k = 6 then 1 else k
theorem keyed3 : Go.Maps.Keyed Try.prog 3 := Go.Maps.int_keyed Try.underlying3
set_option maxRecDepth 100000 in
set_option maxHeartbeats 4000000 in
theorem turnPlain1 (w : World) (k p v c : Int) (bb : Bool) (gm b : Nat) (hk : 0 ≤ k ∧ k ≤ 9) (hm : w.heap[gm]? = some (.cells #[.map (some b)] 93 (0, 0))) (hown : w.ownsMap Try.prog 3 (plainElem Try.prog 3) b 2 plainD)
    (h1 : Go.Maps.has plainD (.int .i64 k) = bb) (h2 : plainD.atKey (.int .i64 k) (.lit (.int .i64 0)) = .lit (.int .i64 c)) :
    Calls Try.prog 83 #[.agg #[.int .i64 k, .int .i64 p, .int .i64 v], .pointer (some ⟨gm, 0, none⟩)] w fun e w' => e = .returned (.agg #[.int .i64 (if bb then c else k), .int .i64 p, .int .i64 v]) ∧ Below w.heap.size w w' := by
  have HM := am_ hm
  have hgl := blk_lt hm
  have HO := am_ hown
  have W : (Lit.int .i64 k).wf = true := WalkArith.wf_i64 (by omega)
  have hcm : ((w.alloc (Obj.cells #[.int .i64 k, .int .i64 p, .int .i64 v] 85)).alloc (Obj.cells #[.int .i64 0, .int .i64 0, .int .i64 0] 85)).cell? ⟨gm, 0, none⟩ = some (.map (some b)) := (blk_cell (blk_alloc (blk_alloc hm _) _) 0).trans rfl
  clear hm hown
  go_enter Try.func83, Try.ntmps83
  go_wp2_with (at_lookup; refine park ?_)
  refine ⟨?_⟩
  refine wpList_lookup_own_ok_int _ rfl _ _ 93 rfl 3 3 .i64 keyed3 Try.underlying93 Try.underlying3 (by kernel_rfl) b 2 plainD rfl ((HO.out.alloc _).alloc _) _ _ rfl (Go.Maps.keyOf_int_mk Try.underlying3 W) ?_
  intro c' hat hwc
  rw [h1]
  obtain rfl : c' = c := by rw [h2] at hat; injection hat with hat; injection hat with _ hat; exact hat.symm
  have hB : Below w.heap.size w ((w.alloc (Obj.cells #[.int .i64 k, .int .i64 p, .int .i64 v] 85)).alloc (Obj.cells #[.int .i64 0, .int .i64 0, .int .i64 0] 85)) := below_alloc (below_alloc (Below.refl _ _) _) _
  have HB := am_ hB
  clear hB
  cases bb
  · go_wp2_with fail
    refine bodyPost_ret (v := .agg #[.int .i64 k, .int .i64 p, .int .i64 v]) (by simp [results, Try.results83, go_sem]) rfl ⟨rfl, ?_⟩
    exact below_alloc (below_alloc (Below.refl _ _) _) _
  · go_wp2_with fail
    refine bodyPost_ret (v := .agg #[.int .i64 c', .int .i64 p, .int .i64 v]) (by simp [results, Try.results83, go_sem]) rfl ⟨rfl, ?_⟩
    exact below_alloc (below_alloc (Below.refl _ _) _) _

def plainF (d : S85) : Option S85 := if 0 ≤ d.f0 ∧ d.f0 ≤ 9 then some ⟨plainK d.f0, d.f1, d.f2⟩ else none
theorem plain_has (k : Int) (hk : 0 ≤ k ∧ k ≤ 9) : ∃ bb c, Go.Maps.has plainD (.int .i64 k) = bb ∧ plainD.atKey (.int .i64 k) (.lit (.int .i64 0)) = .lit (.int .i64 c) ∧ (if bb then c else k) = plainK k := by
  have : k = 0 ∨ k = 1 ∨ k = 2 ∨ k = 3 ∨ k = 4 ∨ k = 5 ∨ k = 6 ∨ k = 7 ∨ k = 8 ∨ k = 9 := by omega
  rcases this with rfl | rfl | rfl | rfl | rfl | rfl | rfl | rfl | rfl | rfl
  · exact ⟨false, 0, by rfl, by rfl, by rfl⟩
  · exact ⟨false, 0, by rfl, by rfl, by rfl⟩
  · exact ⟨false, 0, by rfl, by rfl, by rfl⟩
  · exact ⟨false, 0, by rfl, by rfl, by rfl⟩
  · exact ⟨false, 0, by rfl, by rfl, by rfl⟩
  · exact ⟨true, 2, by rfl, by rfl, by rfl⟩
  · exact ⟨true, 1, by rfl, by rfl, by rfl⟩
  · exact ⟨false, 0, by rfl, by rfl, by rfl⟩
  · exact ⟨false, 0, by rfl, by rfl, by rfl⟩
  · exact ⟨false, 0, by rfl, by rfl, by rfl⟩
theorem turnPlain1_calls (w : World) (d r : S85) (gm b : Nat) (hm : w.heap[gm]? = some (.cells #[.map (some b)] 93 (0, 0))) (hown : w.ownsMap Try.prog 3 (plainElem Try.prog 3) b 2 plainD) (h : plainF d = some r) :
  Calls Try.prog 83 #[.agg #[.int .i64 d.f0, .int .i64 d.f1, .int .i64 d.f2], .pointer (some ⟨gm, 0, none⟩)] w fun e w' => e = .returned (.agg #[.int .i64 r.f0, .int .i64 r.f1, .int .i64 r.f2]) ∧ Below w.heap.size w w' := by
 unfold plainF at h
 split at h
 ·rename_i hk
  obtain ⟨bb, c, h1, h2, h3⟩ := plain_has d.f0 hk
  obtain rfl := Option.some.inj h
  have := turnPlain1 w d.f0 d.f1 d.f2 c bb gm b hk hm hown h1 h2
  rw [h3] at this
  exact this
 ·exact absurd h (by simp)
theorem ownsMap_below {H : Type} {P : Program} {k : TypeId} {R : Value → Option (DataW H × List MemPlace)} {b n : Nat} {D : DataW H} {w W : World} (h : w.ownsMap P k R b n D) (hb : Below w.heap.size w W) : W.ownsMap P k R b n D := by
  have hlt := h.lt
  obtain ⟨es, clock, hh, F, hs, hD⟩ := h
  exact ⟨es, clock, (hb.block b hlt).trans hh, F, hs, hD⟩
def impl_TurnPlain.f (k : Nat) (l0_0 : List (List S85)) : Option (List (List S85)) := (impl_ProgOk.f k l0_0).bind fun b => if b = true then (impl_Prog_copied.f k l0_0).bind fun c => mapO (mapO plainF) c else some []
theorem impl_TurnPlain.mono : ∀ l0_0 k, LeO (impl_TurnPlain.f k l0_0) (impl_TurnPlain.f (k + 1) l0_0) := by
  intro l0_0 k
  unfold impl_TurnPlain.f
  exact LeO.bind (impl_ProgOk.mono _ _) (fun b => LeO.ite (LeO.bind (impl_Prog_copied.mono _ _) (fun _ => LeO.refl _)) (LeO.refl _))
set_option maxRecDepth 100000 in
set_option maxHeartbeats 8000000 in
theorem impl_TurnPlain.calls (k : Nat) (A0_0 : Option Addr) (c0_0 : Nat) (l0_0 : List (List (S85))) (r : List (List (S85))) (w : World) (hr0_0 : Kd.C (Kd.slice 85 k85) w A0_0 l0_0.length l0_0) (hc0_0 : l0_0.length ≤ c0_0) (h : impl_TurnPlain.f k l0_0 = some r) :
  Calls Try.prog 35 #[.agg #[.slice A0_0 l0_0.length c0_0]] w fun e w' => ∃ v0_ : Value, e = .returned (.agg #[v0_]) ∧ Kd.S (Kd.slice 85 k85) 82 w' w.heap.size (fun _ => True) v0_ r ∧ Below w.heap.size w w' := by
 have HC := am_ hr0_0
 obtain ⟨b, e1, h⟩ := Option.bind_eq_some_iff.mp h
 have E1 := am_ e1
 have H := am_ h
 clear hr0_0 e1 h
 have hmf : ∀ (fn : Fn) (first cap : Array Value) (w : World), (Instr.makeFunc fn first cap).run Try.prog w = .ok (.func fn first cap) w := fun _ _ _ _ => rfl
 have hmm := @run_makeMap Try.prog
 go_enter Try.func35, Try.ntmps35
 go_wp2_with (go_at_call 31; refine park ?_)
 refine ⟨?_⟩
 refine (impl_ProgOk.calls k A0_0 c0_0 l0_0 b _ (Kd.C_alloc (Kd.C_alloc HC.out _) _) hc0_0 E1.out).mono ?_
 rintro e w1 ⟨rfl, hb⟩
 have SZ : ((w.alloc (Obj.cells #[Value.slice A0_0 l0_0.length c0_0] 35)).alloc (Obj.cells #[Value.slice none 0 0] 35)).heap.size = w.heap.size + 2 := by rw [World.size_alloc, World.size_alloc]
 have hbr := blk_below (heap_alloc_new (w.alloc (Obj.cells #[Value.slice A0_0 l0_0.length c0_0] 35)) (Obj.cells #[Value.slice none 0 0] 35)) hb
 rw [World.size_alloc] at hbr
 have BR := am_ hbr
 have BP := am_ (blk_below (blk_alloc (heap_alloc_new w (Obj.cells #[Value.slice A0_0 l0_0.length c0_0] 35)) (Obj.cells #[Value.slice none 0 0] 35)) hb)
 have HB := am_ (below_then (below_alloc (below_alloc (Below.refl w.heap.size w) _) _) (below_alloc (below_alloc (Below.refl w.heap.size w) _) _).size hb)
 have HC1 := am_ (Kd.C_below (Kd.C_alloc (Kd.C_alloc HC.out _) _) hb)
 have LT := am_ (show w.heap.size + 2 ≤ w1.heap.size by have := hb.size; omega)
 clear hb hbr SZ HC E1
 cases b with
 | false =>
  have hcr : w1.cell? ⟨w.heap.size + 1, 0, none⟩ = some (.slice none 0 0) := (blk_cell BR.out 0).trans rfl
  have hfr := blk_frozen BR.out 0
  obtain rfl : [] = r := Option.some.inj H.out
  go_wp2_with fail
  refine bodyPost_ret (results_cell_row rfl _ _ (w.heap.size + 1) 35 #[.slice none 0 0] (0, 0) _ rfl (blk_set BR.out 0 _) Try.underlying35 rfl (by kernel_rfl)) rfl ?_
  exact ⟨_, rfl, Kd.S_nil _ _ _ _ _, below_set HB.out (by omega)⟩
 | true =>
  obtain ⟨cl, e2, e3⟩ := Option.bind_eq_some_iff.mp H.out
  have E2 := am_ e2
  have E3 := am_ e3
  clear e2 e3 H
  have hlt := LT.out
  have hown1 : (w1.alloc (.map #[] 0)).ownsMap Try.prog 3 (plainElem Try.prog 3) w1.heap.size 0 (.map [] : DataW Unit) := World.ownsMap_made _ _ _ _
  obtain ⟨w2, hr2, hown2, hg2⟩ := hown1.update (t := 93) (e := 3) keyed3 Try.underlying93 (by decide) (key := .int .i64 5) (val := .int .i64 2) (Go.Maps.keyOf_int_mk Try.underlying3 (by decide)) (plainElem_int Try.underlying3 (by decide))
  obtain ⟨w3, hr3, hown3, hg3⟩ := hown2.update (t := 93) (e := 3) keyed3 Try.underlying93 (by decide) (key := .int .i64 6) (val := .int .i64 1) (Go.Maps.keyOf_int_mk Try.underlying3 (by decide)) (plainElem_int Try.underlying3 (by decide))
  have HOWN := am_ hown3
  have HB3 := am_ (((below_alloc HB.out (.map #[] 0)).grown hg2 (below_alloc HB.out (.map #[] 0)).size (fun k hk => z35_1)))
  have BR3 := am_ (blk_grown (blk_grown (blk_alloc BR.out (.map #[] 0)) hg2 (fun e => by injection e with e; omega)) hg3 (fun e => by injection e with e; omega))
  have BP3 := am_ (blk_grown (blk_grown (blk_alloc BP.out (.map #[] 0)) hg2 (fun e => by injection e with e; omega)) hg3 (fun e => by injection e with e; omega))
  have HB4 := am_ (HB3.out.grown hg3 HB3.out.size (fun k hk => z35_1))
  clear hown1 hown2 hown3 HB3
  have HC3 := am_ (Kd.C_below (w := w1) HC1.out (show Below w1.heap.size w1 w3 from ((below_alloc (Below.refl w1.heap.size w1) (.map #[] 0)).grown hg2 (below_alloc (Below.refl w1.heap.size w1) (.map #[] 0)).size (fun k hk => z35_1)).grown hg3 ((below_alloc (Below.refl w1.heap.size w1) (.map #[] 0)).grown hg2 (below_alloc (Below.refl w1.heap.size w1) (.map #[] 0)).size (fun k hk => z35_1)).size (fun k hk => z35_1)))
  clear hg2 hg3
  have hcp : (w3.alloc (Obj.cells #[.map (some w1.heap.size)] 93)).cell? ⟨w.heap.size, 0, none⟩ = some (.slice A0_0 l0_0.length c0_0) := (blk_cell (blk_alloc BP3.out _) 0).trans rfl
  go_wp2_with (go_at_call 82; refine park ?_)
  refine ⟨?_⟩
  clear hcp hr2 hr3
  have hmc := heap_alloc_new w3 (Obj.cells #[.map (some w1.heap.size)] 93)
  have hoc := HOWN.out.alloc (Obj.cells #[.map (some w1.heap.size)] 93)
  have HB5 := am_ (below_alloc HB4.out (Obj.cells #[.map (some w1.heap.size)] 93))
  have BR5 := am_ (blk_alloc BR3.out (Obj.cells #[.map (some w1.heap.size)] 93))
  refine (each83 k plainF (.pointer (some ⟨w3.heap.size, 0, none⟩)) A0_0 c0_0 l0_0 cl r _ (Kd.C_alloc HC3.out _) hc0_0
   (fun W d d' hW hd => turnPlain1_calls W d d' w3.heap.size w1.heap.size (blk_below hmc hW) (ownsMap_below hoc hW) hd) E2.out E3.out).mono ?_
  rintro e w5 ⟨v5, rfl, hS, hb⟩
  obtain ⟨Av, cv, rfl⟩ := Kd.S_slice hS
  have BR6 := am_ (blk_below BR5.out hb)
  have HB6 := am_ (below_then HB5.out HB5.out.size hb)
  have LT6 := am_ (show w.heap.size + 2 ≤ (w3.alloc (Obj.cells #[.map (some w1.heap.size)] 93)).heap.size from blk_lt BR5.out)
  have HS6 := am_ (Kd.S_lower (Kd.S_mono (ok' := fun k => w.heap.size + 2 ≤ k) (Kd.S_bound hS) (fun k hk => by have := hk.2.1; have := LT6.out; omega)) (show w.heap.size ≤ _ from HB5.out.size))
  clear hS hb hmc hoc
  have hcr : w5.cell? ⟨w.heap.size + 1, 0, none⟩ = some (.slice none 0 0) := (blk_cell BR6.out 0).trans rfl
  have hfr := blk_frozen BR6.out 0
  go_wp2_with fail
  refine bodyPost_ret (results_cell_row rfl _ _ (w.heap.size + 1) 35 #[.slice Av r.length cv] (0, 0) _ rfl (blk_set BR6.out 0 _) Try.underlying35 rfl (by kernel_rfl)) rfl ?_
  exact ⟨_, rfl, Kd.S_mono (Kd.S_far (p := ⟨w.heap.size + 1, 0, none⟩) HS6.out (fun k hk => by show k ≠ w.heap.size + 1; omega) _) (fun _ _ => trivial), below_set HB6.out (by omega)⟩


end Go.Proofs.Ytefkbmhkhpekjaa.PB
