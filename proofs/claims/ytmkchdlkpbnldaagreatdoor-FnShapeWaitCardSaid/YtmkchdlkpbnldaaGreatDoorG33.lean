/- What the laws share, part 33: SeenSortF Compact CompactF SeenSort SeenPure. -/
import Derived.Test.YtmkchdlkpbnldaaGreatDoorGSeenOrd
import Derived.Laws.IdiomCopy
import Derived.Lib.SliceRun
import Derived.Test.YtmkchdlkpbnldaaGreatDoorG5
import Derived.Test.YtmkchdlkpbnldaaGreatDoorG18
namespace Go.Proofs.YtmkchdlkpbnldaaGreatDoor.PB
open Go.RowKit Go.Proofs.YtmkchdlkpbnldaaGreatDoorW.PrintWords Go.Proofs.YtmkchdlkpbnldaaGreatDoorW.PrintLast Go.Proofs.YtmkchdlkpbnldaaGreatDoorW.PrintMore
open Go.Proofs.YtmkchdlkpbnldaaGreatDoorMine Go.Sort Go.Lib Go.Shelf
set_option linter.unusedVariables false
set_option linter.unusedSimpArgs false
def ElOk (wb : World) (p : Hd × S35) : Prop := k35.K wb p.2 p.1.cells ∧ p.2.f0.length < 1000000 ∧ p.2.f1.length < 1000000
abbrev El (wb : World) := { p : Hd × S35 // ElOk wb p }
def elLt (wb : World) : El wb → El wb → Bool := ltOf fun x y : El wb => cmpX x.val.2 y.val.2
theorem elLt_is (wb : World) (x y : El wb) : elLt wb x y = decide (cmpX x.val.2 y.val.2 < 0) := rfl
theorem elLt_swo (wb : World) : SWO (elLt wb) where
  irrefl x := by rw [elLt_is, cmpX_self]; rfl
  trans x y z h1 h2 := by rw [elLt_is] at *; simp at *; exact cmpX_trans h1 h2
  ntrans x y z h1 h2 := by
    rw [elLt_is] at *
    simp only [decide_eq_false_iff_not, Int.not_lt] at *
    by_cases e1 : cmpX x.val.2 y.val.2 = 0
    · rw [cmpX_eq e1]; exact h2
    · by_cases e2 : cmpX y.val.2 z.val.2 = 0
      · rw [← cmpX_eq e2]; exact h1
      · have n1 := cmpX_neg x.val.2 y.val.2
        have n2 := cmpX_neg y.val.2 z.val.2
        have n3 := cmpX_neg x.val.2 z.val.2
        have := cmpX_trans (x := z.val.2) (y := y.val.2) (z := x.val.2) (by omega) (by omega)
        omega
theorem sort_below {wb w : World} {g n : Nat} {os : Array Obj} (F : Array Value) (hB : Below wb.heap.size wb w) (hg : wb.heap.size ≤ g) : Below wb.heap.size wb (grow (putRow id (Sort.ahead w n) g 0 F) os) :=
  hB.grown (grownBy_sortedV F) hB.size (fun k e => by cases e; exact hg)
set_option maxHeartbeats 2000000 in
set_option maxRecDepth 100000 in
theorem sortfunc_holds (wb w : World) (hB : Below wb.heap.size wb w) (v : Value) (ps : List (Hd × S35)) (hz : 0 < ps.length) (hn : ps.length ≤ 1000000) (hown : w.ownsRow wb.heap.size 35 2 v ps.length (hcells (ps.map (·.1)))) (hK : ∀ p ∈ ps, ElOk wb p) :
    Calls Tryz.prog 78 #[v, .func (.func 62) #[] #[]] w fun e w' => e = .returned (.tuple #[]) ∧ ∃ qs : List (Hd × S35), qs.Perm ps ∧ qs.Pairwise (fun a b => 0 ≤ cmpX b.2 a.2) ∧ w'.ownsRow wb.heap.size 35 2 v qs.length (hcells (qs.map (·.1))) ∧ Below wb.heap.size wb w' := by
  obtain ⟨hl, hv⟩ := hown
  rcases hv with ⟨_, h0⟩ | ⟨g, cap, cur, rfl, hg, hb, hnc, hcm, hcs, ht⟩
  · omega
  obtain ⟨d, hd⟩ : ∃ d : Array (El wb), d.toList.map (·.val) = ps := ⟨(ps.attach.map fun p => ⟨p.1, hK p.1 p.2⟩).toArray, by rw [List.toList_toArray, List.map_map]; exact List.attach_map_subtype_val ps⟩
  have hds : d.size = ps.length := by rw [← hd]; simp
  haveI : Inhabited (El wb) := ⟨d[0]'(by omega)⟩
  have hfl : ∀ d : Array (El wb), flatK (fun x : El wb => x.val.1.cells) 2 d = (hcells ((d.toList.map (·.val)).map (·.1))).toArray := fun d => by
    rw [flat_hcells (fun x : El wb => x.val.1) d, List.map_map]; rfl
  have hH : HoldsK (fun x : El wb => x.val.1.cells) 2 w g 0 d := by
    show Holds id w g 0 _
    rw [hfl d, hd]
    exact holds_of_blockV hb (by rw [hl]; exact ht)
  have hlt : g < w.heap.size := (Array.getElem?_eq_some_iff.1 hb).1
  have hcmp : CmpLays Tryz.prog 62 #[] (fun x : El wb => x.val.1.cells) 2 (fun x y : El wb => cmpX x.val.2 y.val.2) g 0 d.size w := by
    intro m os dk hs x y
    have hBW := sort_below (n := m) (os := os) (flatK (fun x : El wb => x.val.1.cells) 2 dk) hB hg
    obtain ⟨A0, c0, A1, c1, e1, l0, k0, l1, k1⟩ := k35_open x.property.1
    obtain ⟨A2, c2, A3, c3, e2, l2, k2, l3, k3⟩ := k35_open y.property.1
    have hc := compare_holds A0 c0 x.val.2.f0 A1 c1 x.val.2.f1 A2 c2 y.val.2.f0 A3 c3 y.val.2.f1 _ (Kd.C_below k0 hBW) l0 (Kd.C_below k1 hBW) l1 (Kd.C_below k2 hBW) l2 (Kd.C_below k3 hBW) l3 x.property.2.1 x.property.2.2
    have ea : (#[Value.agg x.val.1.cells.toArray, Value.agg y.val.1.cells.toArray] : Array Value) ++ #[] = #[.agg #[.slice A0 x.val.2.f0.length c0, .slice A1 x.val.2.f1.length c1], .agg #[.slice A2 y.val.2.f0.length c2, .slice A3 y.val.2.f1.length c3]] := by rw [e1, e2]; rfl
    show Calls Tryz.prog 62 (#[Value.agg x.val.1.cells.toArray, Value.agg y.val.1.cells.toArray] ++ #[]) _ _
    rw [ea]
    exact hc
  have hs := AnyQ.slices_SortFunc sortLay 2 Tryz.isAgg35 Tryz.sizeOf35 (fun x : El wb => x.val.1.cells) (fun _ => rfl) (fun x v hv => by simp [Hd.cells] at hv; rcases hv with rfl | rfl <;> rfl) (fun x y : El wb => cmpX x.val.2 y.val.2) (elLt_swo wb) 62 #[] g 0 cap d w (enters_of Tryz.func62 (by kernel_rfl) rfl) hcmp hH hlt (by omega)
  change Calls Tryz.prog 78 _ _ _ at hs
  rw [hds] at hs
  refine hs.mono ?_
  rintro e w' ⟨rfl, d', n, os, hp, hso, rfl⟩
  have hsz : d'.size = d.size := hp.1
  refine ⟨rfl, d'.toList.map (·.val), ?_, ?_, ?_, ?_⟩
  · rw [← hd]
    have h1 := hp.2.2
    rw [← hds] at h1
    have e1 : d.extract 0 d.size = d := by simp
    have e2 : d'.extract 0 d.size = d' := by rw [← hsz]; simp
    rw [e1, e2] at h1
    exact h1.map _
  · rw [List.pairwise_map]
    rw [List.pairwise_iff_getElem]
    intro i j hi hj hij
    have h1 := hso i j (Nat.zero_le _) hij (by simpa [hsz, hds] using hj)
    simp only [Array.length_toList] at hi hj
    rw [getElem!_pos d' j hj, getElem!_pos d' i hi] at h1
    have h2 : elLt wb d'[j] d'[i] = false := h1
    rw [elLt_is] at h2
    simpa using h2
  · have hln : (d'.toList.map (·.val)).length = ps.length := by simp [hsz, hds]
    rw [hln]
    refine ⟨by rw [hcells_len]; simp [hsz, hds], .inr ⟨g, cap, putCells id 0 (flatK (fun x : El wb => x.val.1.cells) 2 d') cur, rfl, hg, ?_, hnc, hcm, ?_, ?_⟩⟩
    · show (grow (putRow id (Sort.ahead w n) g 0 (flatK (fun x : El wb => x.val.1.cells) 2 d')) os).heap[g]? = _
      exact heap_sortedV _ hb
    · simp [putCells, hcs]
    · rw [hfl d']
      have h3 := take_putCellsV cur (hcells ((d'.toList.map (·.val)).map (·.1))) (by rw [hcells_len]; simp [hsz, hds, hcs]; omega)
      rw [hcells_len] at h3
      simpa [hsz, hds] using h3
  · exact sort_below _ hB hg
set_option maxRecDepth 100000 in
set_option maxHeartbeats 2000000 in
theorem scollect_holds (zs : List Hd) (hlen : zs.length ≤ 1000000) (w : World) (Bs : Nat) (sv : Value) (hBs : Bs < w.heap.size) (hsv : w.cell? ⟨Bs, 0, none⟩ = some sv) (hI : HdsAt w.heap.size w sv zs) :
    Calls Tryz.prog 77 #[.func (.func 79) #[] #[.pointer (some ⟨Bs, 0, none⟩)]] w fun e W' => ∃ v, e = .returned v ∧ W'.ownsRow w.heap.size 35 2 v zs.length (hcells zs) ∧ Below w.heap.size w W' := by
  have hA := callsIn_wide.1 (sappend_in Fence.wide 3 trivial trivial rfl (by omega) zs hlen w Bs sv hBs hsv hI)
  go_enter Tryz.func77, Tryz.ntmps77
  go_wp2_with (go_at_call 88; refine park ?_)
  refine ⟨?_⟩
  refine hA.mono ?_
  rintro e w' ⟨v, rfl, ho, hb⟩
  have HO := am_ ho
  have HB := am_ hb
  clear ho hb hA
  dsimp only
  go_wp2_with fail
  go_ret
  exact ⟨v, rfl, HO.out, HB.out⟩
def SortedOut (ps : List (Hd × S35)) (w : World) (e : Ending) (w' : World) : Prop := ∃ v, e = .returned v ∧ ∃ qs : List (Hd × S35), qs.Perm ps ∧ qs.Pairwise (fun a b => 0 ≤ cmpX b.2 a.2) ∧ w'.ownsRow w.heap.size 35 2 v qs.length (hcells (qs.map (·.1))) ∧ Below w.heap.size w w'
set_option maxRecDepth 100000 in
set_option maxHeartbeats 2000000 in
theorem sortedfunc_holds (ps : List (Hd × S35)) (hlen : ps.length ≤ 1000000) (w : World) (Bs : Nat) (sv : Value) (hBs : Bs < w.heap.size) (hsv : w.cell? ⟨Bs, 0, none⟩ = some sv) (hI : HdsAt w.heap.size w sv (ps.map (·.1))) (hK : ∀ p ∈ ps, ElOk w p) :
    Calls Tryz.prog 60 #[.func (.func 79) #[] #[.pointer (some ⟨Bs, 0, none⟩)], .func (.func 62) #[] #[]] w (SortedOut ps w) := by
  have HK := am_ hK
  have HI := am_ hI
  clear hK hI
  go_enter Tryz.func60, Tryz.ntmps60
  go_wp2_with (go_at_call 77; refine park ?_)
  refine ⟨?_⟩
  refine (scollect_holds (ps.map (·.1)) (by simpa using hlen) w Bs sv hBs hsv HI.out).mono ?_
  rintro e w1 ⟨v, rfl, ho, hb⟩
  rw [List.length_map] at ho
  have HO := am_ ho
  have HB := am_ hb
  clear ho hb
  dsimp only
  go_wp2_with (go_at_call 78; refine park ?_)
  refine ⟨?_⟩
  by_cases hz : 0 < ps.length
  · refine (sortfunc_holds w w1 HB.out v ps hz hlen HO.out HK.out).mono ?_
    rintro e w2 ⟨rfl, qs, hp, hs, ho, hb⟩
    have HP := am_ hp; have HS := am_ hs; have HO := am_ ho; have HB := am_ hb
    clear hp hs ho hb
    dsimp only
    go_wp2_with fail
    go_ret
    exact ⟨v, rfl, qs, HP.out, HS.out, HO.out, HB.out⟩
  · obtain rfl : ps = [] := List.eq_nil_of_length_eq_zero (by omega)
    obtain ⟨p, cap, rfl⟩ : ∃ (p : Option Addr) (cap : Nat), v = .slice p 0 cap := by
      rcases HO.out.2 with ⟨rfl, _⟩ | ⟨g, cap, _, rfl, _⟩
      · exact ⟨_, _, rfl⟩
      · exact ⟨_, _, rfl⟩
    have hn := AnyF.slices_SortFunc_none { sortLay with } p cap (.func (.func 62) #[] #[]) w1
    change Calls Tryz.prog 78 _ _ _ at hn
    refine hn.mono ?_
    rintro e w2 ⟨rfl, rfl⟩
    dsimp only
    go_wp2_with fail
    go_ret
    exact ⟨_, rfl, [], List.Perm.refl _, List.Pairwise.nil, HO.out, HB.out⟩
end Go.Proofs.YtmkchdlkpbnldaaGreatDoor.PB
namespace Go.Proofs.YtmkchdlkpbnldaaGreatDoor.PB
open Go.RowKit Go.Proofs.YtmkchdlkpbnldaaGreatDoorW.PrintWords Go.Proofs.YtmkchdlkpbnldaaGreatDoorW.PrintLast Go.Proofs.YtmkchdlkpbnldaaGreatDoorW.PrintMore
open Go.Proofs.YtmkchdlkpbnldaaGreatDoorMine
set_option linter.unusedVariables false
set_option linter.unusedSimpArgs false
set_option maxHeartbeats 4000000 in
set_option maxRecDepth 100000 in
theorem same_holds (wb w : World) (hB : Below wb.heap.size wb w) (p q : Hd × S35) (hp : ElOk wb p) (hq : ElOk wb q) :
    Calls Tryz.prog 63 #[.agg #[.slice p.1.A p.1.n p.1.c, .slice p.1.B p.1.m p.1.d], .agg #[.slice q.1.A q.1.n q.1.c, .slice q.1.B q.1.m q.1.d]] w fun e w' => e = .returned (.bool (cmpX p.2 q.2 == 0)) ∧ Below w.heap.size w w' := by
  obtain ⟨A0, c0, A1, c1, e1, l0, k0, l1, k1⟩ := k35_open hp.1
  obtain ⟨A2, c2, A3, c3, e2, l2, k2, l3, k3⟩ := k35_open hq.1
  simp only [Hd.cells, List.cons.injEq, and_true] at e1 e2
  rw [e1.1, e1.2, e2.1, e2.2]
  obtain ⟨w2, hW, BK0, BK1, HB⟩ := box2 w (.cells #[.slice A0 p.2.f0.length c0, .slice A1 p.2.f1.length c1] 35) (.cells #[.slice A2 q.2.f0.length c2, .slice A3 q.2.f1.length c3] 35)
  have hB2 := below_step hB HB.out
  have hc := compare_holds A0 c0 p.2.f0 A1 c1 p.2.f1 A2 c2 q.2.f0 A3 c3 q.2.f1 w2 (Kd.C_below k0 hB2) l0 (Kd.C_below k1 hB2) l1 (Kd.C_below k2 hB2) l2 (Kd.C_below k3 hB2) l3 hp.2.1 hp.2.2
  have HC := am_ hc
  have p0 := cf0 BK0.out
  have p1 := cf1 BK0.out
  have p2 := cf0 BK1.out
  have p3 := cf1 BK1.out
  clear hc k0 k1 k2 k3 e1 e2 hB2 hp hq hB
  go_enter Tryz.func63, Tryz.ntmps63
  go_wp2_with (go_at_call 62; (with_reducible refine HC.out.mono ?_); rintro e w6 ⟨rfl, hg⟩; have HG := am_ hg; clear hg)
  go_ret
  exact ⟨rfl, below_step HB.out HG.out.below⟩
instance : Inhabited S35 := ⟨z35⟩
def keepB (ps : List (Hd × S35)) (i : Nat) : Bool := i == 0 || cmpX (ps.getD i default).2 (ps.getD (i - 1) default).2 != 0
def dd (ps : List (Hd × S35)) : Nat → List (Hd × S35)
  | 0 => []
  | m + 1 => dd ps m ++ (if keepB ps m = true then [ps.getD m default] else [])
theorem dd_len (ps : List (Hd × S35)) : ∀ m, (dd ps m).length ≤ m
  | 0 => Nat.le_refl _
  | m + 1 => by
    have := dd_len ps m
    simp only [dd, List.length_append]
    split <;> simp <;> omega
theorem dd_take (ps : List (Hd × S35)) : ∀ m, m ≤ ps.length → (∀ i, i < m → keepB ps i = true) → dd ps m = ps.take m
  | 0, _, _ => by simp [dd]
  | m + 1, hm, h => by
    rw [dd, dd_take ps m (by omega) (fun i hi => h i (by omega)), if_pos (h m (by omega)), List.take_succ_eq_append_getElem (by omega), List.getD_eq_getElem?_getD, List.getElem?_eq_getElem (by omega)]
    rfl
def RowF (W : World) (g cap : Nat) (F : List Hd) : Prop := ∃ cur, W.heap[g]? = some (.cells cur 35 (0, 0)) ∧ cur.size = cap * 2 ∧ F.length ≤ cap ∧ cap ≤ maxLen ∧ ∀ p h, F[p]? = some h → cur[p * 2]? = some (.slice h.A h.n h.c) ∧ cur[p * 2 + 1]? = some (.slice h.B h.m h.d)
theorem RowF.of_own {W : World} {base g n cap : Nat} {F : List Hd} (h : W.ownsRow base 35 2 (.slice (some ⟨g, 0, none⟩) n cap) F.length (hcells F)) : RowF W g cap F ∧ base ≤ g ∧ n = F.length := by
  obtain ⟨hl, hv⟩ := h
  rcases hv with ⟨hv, _⟩ | ⟨g', cap', cur, hv, hg, hb, hnc, hcm, hcs, ht⟩
  · cases hv
  injection hv with e1 e2 e3
  injection e1 with e1
  injection e1 with e1
  subst e1; subst e3; subst e2
  refine ⟨⟨cur, hb, hcs, hnc, hcm, fun p h hp => ?_⟩, hg, rfl⟩
  have hlt := (List.getElem?_eq_some_iff.1 hp).1
  have key : ∀ t, t < F.length * 2 → cur[t]? = (hcells F)[t]? := fun t hlt => by
    rw [← ht, List.getElem?_take_of_lt hlt, Array.getElem?_toList]
  constructor
  · rw [key _ (by omega), hcells_get, show p * 2 / 2 = p by omega, hp, show p * 2 % 2 = 0 by omega]; rfl
  · rw [key _ (by omega), hcells_get, show (p * 2 + 1) / 2 = p by omega, hp, show (p * 2 + 1) % 2 = 1 by omega]; rfl
theorem RowF.own {W : World} {base g cap : Nat} {F : List Hd} (h : RowF W g cap F) (hg : base ≤ g) : W.ownsRow base 35 2 (.slice (some ⟨g, 0, none⟩) F.length cap) F.length (hcells F) := by
  obtain ⟨cur, hb, hcs, hnc, hcm, hp⟩ := h
  refine ⟨hcells_len F, .inr ⟨g, cap, cur, rfl, hg, hb, hnc, hcm, hcs, ?_⟩⟩
  apply List.ext_getElem?
  intro t
  by_cases ht : t < F.length * 2
  · rw [List.getElem?_take_of_lt ht, Array.getElem?_toList, hcells_get]
    have h2 : t / 2 < F.length := by omega
    obtain ⟨x, hx⟩ : ∃ x, F[t / 2]? = some x := ⟨_, List.getElem?_eq_getElem h2⟩
    obtain ⟨a, b⟩ := hp (t / 2) x hx
    rw [hx]
    rcases Nat.mod_two_eq_zero_or_one t with hm | hm
    · rw [show t / 2 * 2 = t by omega] at a
      rw [hm, a]; rfl
    · rw [show t / 2 * 2 + 1 = t by omega] at b
      rw [hm, b]; rfl
  · rw [List.getElem?_take_eq_none (by omega), List.getElem?_eq_none (by rw [hcells_len]; omega)]
theorem RowF.cell {W : World} {g cap : Nat} {F : List Hd} (h : RowF W g cap F) {p : Nat} {x : Hd} (hp : F[p]? = some x) : W.cell? ⟨g, p * 2, none⟩ = some (.slice x.A x.n x.c) ∧ W.cell? ⟨g, p * 2 + 1, none⟩ = some (.slice x.B x.m x.d) := by
  obtain ⟨cur, hb, _, _, _, hc⟩ := h
  exact ⟨(blk_cell hb _).trans (hc p x hp).1, (blk_cell hb _).trans (hc p x hp).2⟩
theorem RowF.below {W W' : World} {g cap : Nat} {F : List Hd} (h : RowF W g cap F) (hb : Below W.heap.size W W') : RowF W' g cap F := by
  obtain ⟨cur, hbk, r⟩ := h
  exact ⟨cur, blk_below hbk hb, r⟩
theorem RowF.put {W : World} {g cap : Nat} {F : List Hd} (h : RowF W g cap F) {p : Nat} (hp : p < F.length) (x : Hd) : RowF ((W.setCell ⟨g, p * 2, none⟩ (.slice x.A x.n x.c)).setCell ⟨g, p * 2 + 1, none⟩ (.slice x.B x.m x.d)) g cap (F.set p x) := by
  obtain ⟨cur, hb, hs, hn, hm, hc⟩ := h
  refine ⟨(cur.setIfInBounds (p * 2) (.slice x.A x.n x.c)).setIfInBounds (p * 2 + 1) (.slice x.B x.m x.d), blk_set (blk_set hb _ _) _ _, by simpa using hs, by simpa using hn, hm, fun q y hq => ?_⟩
  rw [Array.getElem?_setIfInBounds, Array.getElem?_setIfInBounds, Array.getElem?_setIfInBounds, Array.getElem?_setIfInBounds]
  rw [List.getElem?_set] at hq
  by_cases e : p = q
  · subst e
    rw [if_pos rfl, if_pos hp] at hq
    injection hq with hq; subst hq
    have h1 : p * 2 < cur.size := by omega
    have h2 : p * 2 + 1 < cur.size := by omega
    simp [h1, h2]
  · rw [if_neg e] at hq
    rw [if_neg (by omega), if_neg (by omega), if_neg (by omega), if_neg (by omega)]
    exact hc q y hq
theorem RowF.frozen {W : World} {g cap : Nat} {F : List Hd} (h : RowF W g cap F) (j : Nat) : W.frozen? ⟨g, j, none⟩ = false := by
  obtain ⟨cur, hb, _⟩ := h
  exact blk_frozen hb j
theorem setCells_blk {g : Nat} {e : TypeId} : ∀ (vs : List Value) (o : Nat) (W : World) (cur : Array Value), W.heap[g]? = some (.cells cur e (0, 0)) → ∃ cur', (W.setCells g o vs).heap[g]? = some (.cells cur' e (0, 0)) ∧ cur'.size = cur.size ∧ (∀ t, t < o → cur'[t]? = cur[t]?) ∧ ∀ base, base ≤ g → ∀ wb, Below base wb W → Below base wb (W.setCells g o vs)
  | [], o, W, cur, h => ⟨cur, h, rfl, fun _ _ => rfl, fun _ _ _ h => h⟩
  | v :: r, o, W, cur, h => by
    obtain ⟨cur', h1, h2, h3, h4⟩ := setCells_blk r (o + 1) (W.setCell ⟨g, o, none⟩ v) _ (blk_set h o v)
    refine ⟨cur', h1, by simpa using h2, fun t ht => ?_, fun base hg wb hB => h4 base hg wb (hB.setCell hg _)⟩
    rw [h3 t (by omega), Array.getElem?_setIfInBounds, if_neg (by omega)]
theorem RowF.clear {W : World} {g cap k : Nat} {F : List Hd} (h : RowF W g cap F) (hk : k ≤ F.length) (vs : List Value) : RowF (W.setCells g (k * 2) vs) g cap (F.take k) := by
  obtain ⟨cur, hb, hs, hn, hm, hc⟩ := h
  obtain ⟨cur', h1, h2, h3, _⟩ := setCells_blk vs (k * 2) W cur hb
  refine ⟨cur', h1, by rw [h2, hs], by simp; omega, hm, fun q y hq => ?_⟩
  have hq1 : q < k := by have := (List.getElem?_eq_some_iff.1 hq).1; simp at this; omega
  rw [List.getElem?_take_of_lt hq1] at hq
  rw [h3 _ (by omega), h3 _ (by omega)]
  exact hc q y hq
theorem zeroSeen (w : World) : (zeroValue 35).run Tryz.prog w = .ok (.agg #[.slice none 0 0, .slice none 0 0]) w := by kernel_rfl
theorem clear_seen (w : World) (ty : TypeId) (b o n c : Nat) (hn : 0 < n) (hc : ∀ j, j < n * 2 → (w.cell? ⟨b, o + j, none⟩).isSome = true) (hf : ∀ j, j < n * 2 → w.frozen? ⟨b, o + j, none⟩ = false) :
    (Builtin.clear_ #[31] ty #[.slice (some ⟨b, o, none⟩) n c]).run Tryz.prog w = .ok (.tuple #[]) (w.setCells b o (List.replicate (n * 2) (.slice none 0 0))) := by
  have hzc : (Builtin.zeroCells (Value.agg #[.slice none 0 0, .slice none 0 0]).cells n).toList = List.replicate (n * 2) (.slice none 0 0) := by
    simp [Builtin.zeroCells, Value.cells]
    apply List.ext_getElem
    · simp
    · intro i h1 h2
      rcases Nat.mod_two_eq_zero_or_one i with h | h <;> simp [h]
  have hst := run_storeCells_cells (P := Tryz.prog) b o (List.replicate (n * 2) (.slice none 0 0)) 0 w (by simpa using hc) (by simpa using hf) (by intro v hv'; rw [List.eq_of_mem_replicate hv']; rfl)
  simp only [Nat.add_zero] at hst
  obtain ⟨m, rfl⟩ : ∃ m, n = m + 1 := ⟨n - 1, by omega⟩
  simp [Builtin.clear_, run_underlying Tryz.underlying31, zeroSeen, hzc, hst]
def Mid (ps : List (Hd × S35)) (W : World) (g cap m kk : Nat) : Prop := kk = (dd ps m).length ∧ kk < m ∧ m ≤ ps.length ∧ ∃ F : List Hd, F.length = ps.length ∧ RowF W g cap F ∧ F.take kk = (dd ps m).map (·.1) ∧ ∀ j, m ≤ j + 1 → F[j]? = (ps.map (·.1))[j]?
theorem Mid.start {ps : List (Hd × S35)} {W : World} {g cap k : Nat} (h : RowF W g cap (ps.map (·.1))) (hk : k < ps.length) (hall : ∀ i, i < k → keepB ps i = true) (hn : keepB ps k = false) : Mid ps W g cap (k + 1) k := by
  have e : dd ps (k + 1) = ps.take k := by rw [dd, if_neg (by simp [hn]), List.append_nil, dd_take ps k (by omega) hall]
  refine ⟨by rw [e, List.length_take]; omega, by omega, by omega, ps.map (·.1), by simp, h, by rw [e, List.map_take], fun _ _ => rfl⟩
theorem Mid.below {ps : List (Hd × S35)} {W W' : World} {g cap m kk : Nat} (h : Mid ps W g cap m kk) (hb : Below W.heap.size W W') : Mid ps W' g cap m kk := by
  obtain ⟨a, b, b2, F, c, d, e, f⟩ := h
  exact ⟨a, b, b2, F, c, d.below hb, e, f⟩
theorem Mid.skip {ps : List (Hd × S35)} {W : World} {g cap m kk : Nat} (h : Mid ps W g cap m kk) (hm : m < ps.length) (hn : keepB ps m = false) : Mid ps W g cap (m + 1) kk := by
  obtain ⟨a, b, b2, F, c, d, e, f⟩ := h
  have e1 : dd ps (m + 1) = dd ps m := by rw [dd, if_neg (by simp [hn]), List.append_nil]
  exact ⟨by rw [e1, a], by omega, by omega, F, c, d, by rw [e1, e], fun j hj => f j (by omega)⟩
theorem Mid.keep {ps : List (Hd × S35)} {W : World} {g cap m kk : Nat} (h : Mid ps W g cap m kk) (hm : m < ps.length) (hn : keepB ps m = true) (x : Hd) (hx : (ps.map (·.1))[m]? = some x) : Mid ps ((W.setCell ⟨g, kk * 2, none⟩ (.slice x.A x.n x.c)).setCell ⟨g, kk * 2 + 1, none⟩ (.slice x.B x.m x.d)) g cap (m + 1) (kk + 1) := by
  obtain ⟨a, b, b2, F, c, d, e, f⟩ := h
  have e1 : dd ps (m + 1) = dd ps m ++ [ps.getD m default] := by rw [dd, if_pos hn]
  have hx2 : (ps.getD m default).1 = x := by
    rw [List.getElem?_map] at hx
    obtain ⟨y, hy, rfl⟩ := Option.map_eq_some_iff.mp hx
    rw [List.getD_eq_getElem?_getD, hy]; rfl
  refine ⟨by rw [e1, List.length_append, a]; rfl, by omega, by omega, F.set kk x, by simpa using c, d.put (by omega) x, ?_, fun j hj => ?_⟩
  · have hkl : kk < (F.set kk x).length := by rw [List.length_set]; omega
    have h1 := List.take_succ_eq_append_getElem hkl
    rw [e1, List.map_append, ← e, h1, List.take_set_of_le (Nat.le_refl _), List.getElem_set_self]
    show _ = List.take kk F ++ [(ps.getD m default).1]
    rw [hx2]
  · rw [List.getElem?_set_ne (by omega)]; exact f j (by omega)
theorem Mid.cell {ps : List (Hd × S35)} {W : World} {g cap m kk j : Nat} (h : Mid ps W g cap m kk) (hj : m ≤ j + 1) {x : Hd} (hx : (ps.map (·.1))[j]? = some x) : W.cell? ⟨g, j * 2, none⟩ = some (.slice x.A x.n x.c) ∧ W.cell? ⟨g, j * 2 + 1, none⟩ = some (.slice x.B x.m x.d) := by
  obtain ⟨a, b, b2, F, c, d, e, f⟩ := h
  exact d.cell ((f j hj).trans hx)
theorem Mid.frozen {ps : List (Hd × S35)} {W : World} {g cap m kk : Nat} (h : Mid ps W g cap m kk) (j : Nat) : W.frozen? ⟨g, j, none⟩ = false := by
  obtain ⟨a, b, b2, F, c, d, e, f⟩ := h
  exact d.frozen j
theorem Mid.old {ps : List (Hd × S35)} {W : World} {g cap m kk : Nat} (h : Mid ps W g cap m kk) : ∃ u v, W.cell? ⟨g, kk * 2, none⟩ = some u ∧ W.cell? ⟨g, kk * 2 + 1, none⟩ = some v := by
  obtain ⟨a, b, b2, F, c, d, e, f⟩ := h
  obtain ⟨x, hx⟩ : ∃ x, F[kk]? = some x := ⟨_, List.getElem?_eq_getElem (by omega)⟩
  exact ⟨_, _, d.cell hx⟩
theorem RowF.drew {W : World} {g cap : Nat} {F : List Hd} (h : RowF W g cap F) : RowF W.drew g cap F := by
  obtain ⟨cur, hb, r⟩ := h
  exact ⟨cur, blk_drew hb, r⟩
theorem Mid.drew {ps : List (Hd × S35)} {W : World} {g cap m kk : Nat} (h : Mid ps W g cap m kk) : Mid ps W.drew g cap m kk := by
  obtain ⟨a, b, b2, F, c, d, e, f⟩ := h
  exact ⟨a, b, b2, F, c, d.drew, e, f⟩
theorem Mid.has_ {ps : List (Hd × S35)} {W : World} {g cap m kk : Nat} (h : Mid ps W g cap m kk) (n : Nat) (hn : n ≤ ps.length) (j : Nat) (hj : j < (ps.length - n) * 2) : (W.cell? ⟨g, n * 2 + j, none⟩).isSome = true := by
  obtain ⟨a, b, b2, F, c, d, e, f⟩ := h
  obtain ⟨x, hx⟩ : ∃ x, F[n + j / 2]? = some x := ⟨_, List.getElem?_eq_getElem (by omega)⟩
  obtain ⟨h1, h2⟩ := d.cell hx
  rcases Nat.mod_two_eq_zero_or_one j with hm | hm
  · rw [show n * 2 + j = (n + j / 2) * 2 by omega, h1]; rfl
  · rw [show n * 2 + j = (n + j / 2) * 2 + 1 by omega, h2]; rfl
theorem Mid.end_ {ps : List (Hd × S35)} {W : World} {g cap m kk base : Nat} {wb : World} (h : Mid ps W g cap m kk) (hm : m = ps.length) (hg : base ≤ g) (hB : Below base wb W) (vs : List Value) : (W.setCells g (kk * 2) vs).ownsRow base 35 2 (.slice (some ⟨g, 0, none⟩) kk cap) (dd ps ps.length).length (hcells ((dd ps ps.length).map (·.1))) ∧ Below base wb (W.setCells g (kk * 2) vs) := by
  obtain ⟨a, b, b2, F, c, d, e, f⟩ := h
  subst hm
  have h1 := d.clear (k := kk) (by omega) vs
  have h2 := h1.own hg
  rw [e, List.length_map, ← a] at h2
  refine ⟨by rw [← a]; exact h2, ?_⟩
  obtain ⟨cur, hb, _⟩ := d
  exact (setCells_blk vs (kk * 2) W cur hb).choose_spec.2.2.2 base hg wb hB
def CompactOut (ps : List (Hd × S35)) (wb : World) (e : Ending) (w' : World) : Prop := ∃ v, e = .returned v ∧ w'.ownsRow wb.heap.size 35 2 v (dd ps ps.length).length (hcells ((dd ps ps.length).map (·.1))) ∧ Below wb.heap.size wb w'
theorem ps_get (ps : List (Hd × S35)) {j : Nat} (hj : j < ps.length) : ps[j]? = some (ps.getD j default) ∧ (ps.map (·.1))[j]? = some (ps.getD j default).1 ∧ ps.getD j default ∈ ps := by
  have h : ps.getD j default = ps[j] := by rw [List.getD_eq_getElem?_getD, List.getElem?_eq_getElem hj]; rfl
  rw [h]
  exact ⟨List.getElem?_eq_getElem hj, by simp [hj], List.getElem_mem hj⟩
theorem keepB_at (ps : List (Hd × S35)) {i : Nat} (hi : 1 ≤ i) : (cmpX (ps.getD i default).2 (ps.getD (i - 1) default).2 == 0) = !keepB ps i := by
  have : (i == 0) = false := by simp; omega
  simp [keepB, this, bne]
theorem wr64 {n : Int} (h0 : 0 ≤ n) (h1 : n < 9223372036854775808) : IntKind.i64.wrap n = n := by
  rw [i64_w]; unfold Go.RowKit.wrap64; omega
set_option maxHeartbeats 4000000 in
set_option maxRecDepth 100000 in
theorem compact_few (wb w : World) (hB : Below wb.heap.size wb w) (A : Option Addr) (cap : Nat) (ps : List (Hd × S35)) (hn : ps.length < 2) (hown : w.ownsRow wb.heap.size 35 2 (.slice A ps.length cap) ps.length (hcells (ps.map (·.1)))) :
    Calls Tryz.prog 59 #[.slice A ps.length cap, .func (.func 63) #[] #[]] w (CompactOut ps wb) := by
  have e : dd ps ps.length = ps := by
    rw [dd_take ps _ (Nat.le_refl _) (fun i hi => by obtain rfl : i = 0 := by omega
                                                     rfl), List.take_length]
  have HE := am_ e
  have HO := am_ hown
  clear e hown
  have h1 : ((ps.length : Int) < 2) = True := eq_true (by omega)
  go_enter Tryz.func59, Tryz.ntmps59
  go_wp2_with fail
  go_ret
  refine ⟨_, rfl, ?_, hB⟩
  rw [HE.out]; exact HO.out
set_option maxHeartbeats 4000000 in
set_option maxRecDepth 100000 in
theorem compact_many (wb w : World) (hB : Below wb.heap.size wb w) (g cap : Nat) (hg : wb.heap.size ≤ g) (ps : List (Hd × S35)) (hn : 2 ≤ ps.length) (hm : ps.length ≤ 1000000) (hc : ps.length ≤ cap) (hrow : RowF w g cap (ps.map (·.1))) (hK : ∀ p ∈ ps, ElOk wb p) :
    Calls Tryz.prog 59 #[.slice (some ⟨g, 0, none⟩) ps.length cap, .func (.func 63) #[] #[]] w (CompactOut ps wb) := by
  have HK := am_ hK
  have HR := am_ hrow
  have HB := am_ hB
  clear hK hrow hB
  have h1 : ((ps.length : Int) < 2) = False := eq_false (by omega)
  go_enter Tryz.func59, Tryz.ntmps59
  go_wp2_with fail
  go_loopg [5] (ps.length - 1) (fun kq v5 w' => ∃ k : Nat, v5 = .int .i64 k ∧ Aside0 (k + kq = ps.length ∧ 1 ≤ k) ∧ Aside0 (∀ i, i < k → keepB ps i = true) ∧ Aside0 (RowF w' g cap (ps.map (·.1))) ∧ Aside0 (Below wb.heap.size wb w'))
  case atStart => exact ⟨1, rfl, ⟨by omega⟩, ⟨fun i (hi : i < 1) => by rw [show i = 0 by omega]; rfl⟩, HR, HB⟩
  case round =>
    clear HR HB
    obtain ⟨k, rfl, HL, HA, HR, HB⟩ := hrel
    by_cases hlt : k < ps.length
    · obtain ⟨_, x1, x2⟩ := ps_get ps hlt
      obtain ⟨_, y1, y2⟩ := ps_get ps (show k - 1 < ps.length by omega)
      have hs := am_ (fun (W : World) (hW : Below wb.heap.size wb W) => same_holds wb W hW _ _ (HK.out _ x2) (HK.out _ y2))
      obtain ⟨k, rfl⟩ : ∃ j, k = j + 1 := ⟨k - 1, by have := HL.out.2; omega⟩
      rw [Nat.add_sub_cancel] at y1 y2 hs
      have e1 : (cmpX (ps.getD (k + 1) default).2 (ps.getD k default).2 == 0) = !keepB ps (k + 1) := keepB_at ps (i := k + 1) (by omega)
      rw [e1] at hs
      generalize hX : ps.getD (k + 1) default = X at *
      generalize hY : ps.getD k default = Y at *
      have hk1 : k < ps.length := by omega
      have hk2 : k + 1 < ps.length := hlt
      have hk3 : (k : Int) + 1 < ps.length := by omega
      have hk4 : (0 : Int) ≤ (k : Int) + 1 := by omega
      have hk5 : (k : Int) < ps.length := by omega
      have hk6 : (0 : Int) ≤ (k : Int) := by omega
      have hk7 : ((k : Int) + 1).toNat = k + 1 := by omega
      have hk8 : IntKind.i64.wrap ((k : Int) + 1 - 1) = (k : Int) := by rw [Int.add_sub_cancel]; exact wr64 (by omega) (by omega)
      have hk9 : IntKind.i64.wrap (k : Int) = (k : Int) := wr64 (by omega) (by omega)
      go_wp2_with fail
      have HB := am_ (below_drew1 HB.out)
      have HR := am_ HR.out.drew
      obtain ⟨q0, q1⟩ := HR.out.cell x1
      obtain ⟨q2, q3⟩ := HR.out.cell y1
      go_region_held3 (fun W => W.cell? ⟨g, (k + 1) * 2, none⟩ = some (.slice X.1.A X.1.n X.1.c) ∧ W.cell? ⟨g, (k + 1) * 2 + 1, none⟩ = some (.slice X.1.B X.1.m X.1.d) ∧ W.cell? ⟨g, k * 2, none⟩ = some (.slice Y.1.A Y.1.n Y.1.c) ∧ W.cell? ⟨g, k * 2 + 1, none⟩ = some (.slice Y.1.B Y.1.m Y.1.d)) (go_keep)
        (first | (go_at_call 63; (with_reducible refine (hs.out _ HB.out).mono ?_); rintro e w3 ⟨rfl, hb3⟩; replace q0 := pw_cell_below hb3 q0; replace q1 := pw_cell_below hb3 q1; replace q2 := pw_cell_below hb3 q2; replace q3 := pw_cell_below hb3 q3; replace HR := am_ (HR.out.below hb3); replace HB := am_ (below_step HB.out hb3); clear hb3))
      cases hk : keepB ps (k + 1)
      · have hk10 : ¬ cap = k + 1 := by omega
        have hk11 : (k : Int) + 1 ≤ ps.length := by omega
        have hk12 : (k : Int) + 1 ≤ cap := by omega
        go_wp2_with fail
        have HM := am_ (Mid.start HR.out hlt HA.out hk)
        clear q0 q1 q2 q3 hs HR hk3 hk4 hk5 hk6 hk7 hk8 hk9 hk10 hk11 hk12 hX hY x1 x2 y1 y2 e1 HA
        obtain ⟨n2, en⟩ : ∃ n2, ps.length - (k + 1) = n2 := ⟨_, rfl⟩
        obtain ⟨c2, ec⟩ : ∃ c2, cap - (k + 1) = c2 := ⟨_, rfl⟩
        rw [en, ec]
        go_loopg [5, 7] (n2 - 1) (fun kq v5 v7 w' => ∃ kk k2 : Nat, v5 = .int .i64 kk ∧ v7 = .int .i64 k2 ∧ Aside0 (k2 + kq = n2 ∧ 1 ≤ k2) ∧ Aside0 (Mid ps w' g cap (k + 1 + k2) kk) ∧ Aside0 (Below wb.heap.size wb w'))
        case atStart => exact ⟨k + 1, 1, by simp, rfl, ⟨by omega⟩, HM, HB⟩
        case round =>
          clear HM HB
          obtain ⟨kk, k2, rfl, rfl, HL2, HM, HB⟩ := hrel
          by_cases hlt2 : k2 < n2
          · obtain ⟨j, rfl⟩ : ∃ j, k2 = j + 1 := ⟨k2 - 1, by have := HL2.out.2; omega⟩
            obtain ⟨_, x1, x2⟩ := ps_get ps (show k + 1 + (j + 1) < ps.length by omega)
            obtain ⟨_, y1, y2⟩ := ps_get ps (show k + 1 + j < ps.length by omega)
            have hs := am_ (fun (W : World) (hW : Below wb.heap.size wb W) => same_holds wb W hW _ _ (HK.out _ x2) (HK.out _ y2))
            have e1 : (cmpX (ps.getD (k + 1 + (j + 1)) default).2 (ps.getD (k + 1 + j) default).2 == 0) = !keepB ps (k + 1 + (j + 1)) := keepB_at ps (i := k + 1 + (j + 1)) (by omega)
            rw [e1] at hs
            generalize hX : ps.getD (k + 1 + (j + 1)) default = X at *
            generalize hY : ps.getD (k + 1 + j) default = Y at *
            have hk1 : j < n2 := by omega
            have hk2 : j + 1 < n2 := hlt2
            have hk3 : (j : Int) + 1 < n2 := by omega
            have hk4 : (0 : Int) ≤ (j : Int) + 1 := by omega
            have hk5 : (j : Int) < n2 := by omega
            have hk6 : (0 : Int) ≤ (j : Int) := by omega
            have hk7 : ((j : Int) + 1).toNat = j + 1 := by omega
            have hk8 : IntKind.i64.wrap ((j : Int) + 1 - 1) = (j : Int) := by rw [Int.add_sub_cancel]; exact wr64 (by omega) (by omega)
            have hk9 : IntKind.i64.wrap (j : Int) = (j : Int) := wr64 (by omega) (by omega)
            go_wp2_with fail
            have HB := am_ (below_drew1 HB.out)
            have HM := am_ HM.out.drew
            obtain ⟨q0, q1⟩ := HM.out.cell (by omega) x1
            obtain ⟨q2, q3⟩ := HM.out.cell (by omega) y1
            rw [show (k + 1 + (j + 1)) * 2 = (k + 1) * 2 + (j + 1) * 2 by omega] at q0 q1
            rw [show (k + 1 + j) * 2 = (k + 1) * 2 + j * 2 by omega] at q2 q3
            cases hk : keepB ps (k + 1 + (j + 1))
            · rw [hk] at hs
              go_region_held3 (fun W => W.cell? ⟨g, (k + 1) * 2 + (j + 1) * 2, none⟩ = some (.slice X.1.A X.1.n X.1.c) ∧ W.cell? ⟨g, (k + 1) * 2 + (j + 1) * 2 + 1, none⟩ = some (.slice X.1.B X.1.m X.1.d) ∧ W.cell? ⟨g, (k + 1) * 2 + j * 2, none⟩ = some (.slice Y.1.A Y.1.n Y.1.c) ∧ W.cell? ⟨g, (k + 1) * 2 + j * 2 + 1, none⟩ = some (.slice Y.1.B Y.1.m Y.1.d)) (go_keep)
                (first | (go_at_call 63; (with_reducible refine (hs.out _ HB.out).mono ?_); rintro e w3 ⟨rfl, hb3⟩; replace q0 := pw_cell_below hb3 q0; replace q1 := pw_cell_below hb3 q1; replace q2 := pw_cell_below hb3 q2; replace q3 := pw_cell_below hb3 q3; replace HM := am_ (HM.out.below hb3); replace HB := am_ (below_step HB.out hb3); clear hb3))
              go_wp2_with fail
              go_roundg (n2 - (j + 1 + 1))
              case rel => exact ⟨kk, j + 1 + 1, rfl, by simp, ⟨by omega⟩, ⟨HM.out.skip (by omega) hk⟩, HB⟩
              case measure => have := HL2.out; omega
            · rw [hk] at hs
              go_region_held3 (fun W => W.cell? ⟨g, (k + 1) * 2 + (j + 1) * 2, none⟩ = some (.slice X.1.A X.1.n X.1.c) ∧ W.cell? ⟨g, (k + 1) * 2 + (j + 1) * 2 + 1, none⟩ = some (.slice X.1.B X.1.m X.1.d) ∧ W.cell? ⟨g, (k + 1) * 2 + j * 2, none⟩ = some (.slice Y.1.A Y.1.n Y.1.c) ∧ W.cell? ⟨g, (k + 1) * 2 + j * 2 + 1, none⟩ = some (.slice Y.1.B Y.1.m Y.1.d)) (go_keep)
                (first | (go_at_call 63; (with_reducible refine (hs.out _ HB.out).mono ?_); rintro e w3 ⟨rfl, hb3⟩; replace q0 := pw_cell_below hb3 q0; replace q1 := pw_cell_below hb3 q1; replace q2 := pw_cell_below hb3 q2; replace q3 := pw_cell_below hb3 q3; replace HM := am_ (HM.out.below hb3); replace HB := am_ (below_step HB.out hb3); clear hb3))
              obtain ⟨o0, o1, r0, r1⟩ := HM.out.old
              have f0 := HM.out.frozen (kk * 2)
              have f1 := HM.out.frozen (kk * 2 + 1)
              have hkk := HM.out.2.1
              have hm2 : kk < ps.length := by omega
              have hm3 : (kk : Int) < ps.length := by omega
              go_wp2_with fail
              go_roundg (n2 - (j + 1 + 1))
              case rel => exact ⟨kk + 1, j + 1 + 1, by simp, by simp, ⟨by omega⟩, ⟨HM.out.keep (by omega) hk X.1 x1⟩, ⟨below_set (below_set HB.out hg) hg⟩⟩
              case measure => have := HL2.out; omega
          · obtain rfl : k2 = n2 := by have := HL2.out.1; omega
            have hkk := HM.out.2.1
            have hm1 : kk ≤ ps.length := by omega
            have hm2 : ¬ cap = kk := by omega
            have hm3 : (kk : Int) ≤ ps.length := by omega
            have hm4 : kk ≤ cap := by omega
            have hm5 : (kk : Int) ≤ cap := by omega
            have hcl : ∀ ty, (Builtin.clear_ #[31] ty #[.slice (some ⟨g, kk * 2, none⟩) (ps.length - kk) (cap - kk)]).run Tryz.prog wr = .ok (.tuple #[]) (wr.setCells g (kk * 2) (List.replicate ((ps.length - kk) * 2) (.slice none 0 0))) := fun ty => clear_seen wr ty g (kk * 2) _ _ (by omega) (HM.out.has_ kk (by omega)) (fun j _ => HM.out.frozen _)
            have HE := am_ (HM.out.end_ (by omega) hg HB.out (List.replicate ((ps.length - kk) * 2) (.slice none 0 0)))
            clear HM
            go_wp2_with fail
            go_ret
            exact ⟨_, rfl, HE.out⟩
      · go_wp2_with fail
        go_roundg (ps.length - 1 - (k + 1))
        case rel => exact ⟨k + 1 + 1, by simp, ⟨by have := HL.out; omega⟩, ⟨fun i hi => by
          by_cases e : i = k + 1
          · rw [e]; exact hk
          · exact HA.out i (by omega)⟩, HR, HB⟩
        case measure => have := HL.out; omega
    · obtain rfl : k = ps.length := by have := HL.out.1; omega
      have e : dd ps ps.length = ps := by rw [dd_take ps _ (Nat.le_refl _) HA.out, List.take_length]
      have HE := am_ e
      clear e
      go_wp2_with fail
      go_ret
      refine ⟨_, rfl, ?_, HB.out⟩
      rw [HE.out]
      have := HR.out.own hg
      rw [List.length_map] at this
      exact this
theorem compact_holds (wb w : World) (hB : Below wb.heap.size wb w) (v : Value) (ps : List (Hd × S35)) (hm : ps.length ≤ 1000000) (hown : w.ownsRow wb.heap.size 35 2 v ps.length (hcells (ps.map (·.1)))) (hK : ∀ p ∈ ps, ElOk wb p) :
    Calls Tryz.prog 59 #[v, .func (.func 63) #[] #[]] w (CompactOut ps wb) := by
  by_cases hn : 2 ≤ ps.length
  · rcases hown.2 with ⟨_, h0⟩ | ⟨g, cap, cur, rfl, hg, hb, hnc, hcm, hcs, ht⟩
    · omega
    · have h1 := RowF.of_own (F := ps.map (·.1)) (n := ps.length) (by rw [List.length_map]; exact hown)
      exact compact_many wb w hB g cap hg ps hn hm hnc h1.1 hK
  · obtain ⟨A, c, rfl⟩ : ∃ A c, v = .slice A ps.length c := by
      rcases hown.2 with ⟨rfl, h0⟩ | ⟨g, cap, cur, rfl, _⟩
      · exact ⟨none, 0, by rw [h0]⟩
      · exact ⟨_, _, rfl⟩
    exact compact_few wb w hB A c ps (by omega) hown
theorem hds_of_C {w : World} {A : Option Addr} {c : Nat} {l : List S35} (h : Kd.C k35 w A l.length l) (hl : ∀ x ∈ l, x.f0.length < 1000000 ∧ x.f1.length < 1000000) :
    ∃ ps : List (Hd × S35), ps.map (·.2) = l ∧ HdsAt w.heap.size w (.slice A l.length c) (ps.map (·.1)) ∧ ∀ p ∈ ps, ElOk w p := by
  have hx : ∀ i : Fin l.length, ∃ x : Hd, ElOk w (x, l[i]) ∧ ∃ ad : Addr, A = some ad ∧ w.cell? (ad.add (i.val * 2)) = some (.slice x.A x.n x.c) ∧ w.cell? ⟨(ad.add (i.val * 2)).block, (ad.add (i.val * 2)).off + 1, none⟩ = some (.slice x.B x.m x.d) := fun i => by
    obtain ⟨ad, A0, c0, A1, c1, e, x0, x1, l0, g0, l1, g1⟩ := at_T35 h (i.val : Int) (by omega) (by have := i.isLt; omega)
    have er : rd_T35 l (i.val : Int) = l[i] := by simp [rd_T35]
    rw [er] at x0 x1 l0 g0 l1 g1
    simp only [Int.toNat_natCast] at x0 x1
    exact ⟨⟨A0, _, c0, A1, _, c1⟩, ⟨k35_mk w _ l0 g0 l1 g1, hl _ (List.getElem_mem _)⟩, ad, e, x0, x1⟩
  obtain ⟨f, hf⟩ := Classical.axiomOfChoice hx
  have hlen : (List.ofFn fun i : Fin l.length => (f i, l[i])).length = l.length := by simp
  refine ⟨List.ofFn fun i : Fin l.length => (f i, l[i]), ?_, ⟨A, c, by simp, fun hz => ?_⟩, fun p hp => ?_⟩
  · apply List.ext_getElem
    · simp
    · intro i h1 h2; simp
  · have hz' : 0 < l.length := by simpa using hz
    obtain ⟨ad, e, x0, _⟩ := (hf ⟨0, hz'⟩).2
    refine ⟨ad, e, ?_, fun j hj => ?_⟩
    · have := World.block_lt_of_cell? w _ x0
      rwa [Go.Proofs.YtmkchdlkpbnldaaGreatDoorW.PrintWords.add_block] at this
    · have hj' : j < l.length := by simpa using hj
      obtain ⟨ad', e', y0, y1⟩ := (hf ⟨j, hj'⟩).2
      obtain rfl : ad = ad' := by rw [e] at e'; injection e'
      have eg : ((List.ofFn fun i : Fin l.length => (f i, l[i])).map (·.1))[j]?.getD default = f ⟨j, hj'⟩ := by simp [hj']
      rw [eg]
      exact ⟨y0, y1⟩
  · obtain ⟨i, rfl⟩ := List.mem_ofFn.1 hp
    exact (hf i).1
set_option maxRecDepth 100000 in
set_option maxHeartbeats 2000000 in
theorem svalues_holds (A : Option Addr) (n c : Nat) (w : World) :
    Calls Tryz.prog 61 #[.slice A n c] w fun e w' => ∃ B, e = .returned (.func (.func 79) #[] #[.pointer (some ⟨B, 0, none⟩)]) ∧ B < w'.heap.size ∧ w'.cell? ⟨B, 0, none⟩ = some (.slice A n c) ∧ Below w.heap.size w w' := by
  go_enter Tryz.func61, Tryz.ntmps61
  go_wp2_with fail
  go_ret
  exact ⟨w.heap.size, rfl, by simp, (Boxed.new w 31 (.slice A n c)).cell, below_alloc (Below.refl _ _) _⟩
def ssort_T5 : Bool × List (List Nat × List Nat) := (true, [([], []), ([], []), ([1], [1]), ([2], [2]), ([], []), ([4], [4]), ([5, 3], [5]), ([3, 6], [3, 6]), ([7], [7]), ([0, 8, 6], [0, 8]), ([9, 9, 0, 1, 2, 3, 4, 5, 6, 7, 8, 9], [0, 9])])
def ssort_B5 : List Nat := [0, 0, 2, 6, 0, 16, 62, 126, 254, 511, 1023]
theorem ssort_tab5 : rtab .any (opsOf Tryz.f30 5) = ssort_T5 := by kernel_rfl
theorem ssort_bits5 : waitsOk ssort_T5.2 ssort_B5 = true := by kernel_rfl
def SortOut (l : List S35) (w : World) (e : Ending) (w' : World) : Prop := ∃ A c r, e = .returned (.slice A r.length c) ∧ r.length ≤ c ∧ Kd.C k35 w' A r.length r ∧ Below w.heap.size w w' ∧ ∃ qs : List (Hd × S35), (qs.map (·.2)).Perm l ∧ qs.Pairwise (fun a b => 0 ≤ cmpX b.2 a.2) ∧ r = (dd qs qs.length).map (·.2)
theorem dd_mem (ps : List (Hd × S35)) : ∀ m, m ≤ ps.length → ∀ x ∈ dd ps m, x ∈ ps
  | 0, _, x, h => by cases h
  | m + 1, hm, x, h => by
    rw [dd, List.mem_append] at h
    rcases h with h | h
    · exact dd_mem ps m (by omega) x h
    · split at h
      · rw [List.mem_singleton] at h; subst h; exact (ps_get ps (by omega)).2.2
      · cases h
theorem row_of_own {w : World} {base n : Nat} {v : Value} {F : List Hd} (hn : n = F.length) (h : w.ownsRow base 35 2 v n (hcells F)) : ∃ A c, v = .slice A F.length c ∧ (0 < F.length → ∃ g, A = some ⟨g, 0, none⟩ ∧ base ≤ g ∧ RowF w g c F) := by
  subst hn
  rcases h.2 with ⟨rfl, h0⟩ | ⟨g, cap, cur, rfl, hg, r⟩
  · exact ⟨none, 0, by rw [h0], fun hz => by omega⟩
  · exact ⟨_, _, rfl, fun _ => ⟨g, rfl, hg, (RowF.of_own h).1⟩⟩
set_option maxRecDepth 100000 in
set_option maxHeartbeats 8000000 in
theorem seenSort_holds (A : Option Addr) (c : Nat) (l : List S35) (w : World) (hr : Kd.C k35 w A l.length l) (hc : l.length ≤ c) (hl : l.length ≤ 1000000) (hb : ∀ x ∈ l, x.f0.length < 1000000 ∧ x.f1.length < 1000000) :
    Calls Tryz.prog 30 #[.slice A l.length c] w (SortOut l w) := by
  have HR := am_ hr
  clear hr
  go_enter Tryz.func30, Tryz.ntmps30
  go_wp2_with (go_at_call 61; refine park ?_)
  refine ⟨?_⟩
  refine (svalues_holds A l.length c w).mono ?_
  rintro e w1 ⟨B, rfl, hB, hBc, hb1⟩
  obtain ⟨ps, hps, hat, hel⟩ := hds_of_C (c := c) (Kd.C_below HR.out hb1) hb
  have hpl : ps.length = l.length := by rw [← hps]; simp
  have HB := am_ hb1
  have HS := am_ (sortedfunc_holds ps (by omega) w1 B _ hB hBc hat hel)
  clear hb1 hat hBc hB
  dsimp only
  go_wp2_with (go_at_call 60; refine park ?_)
  refine ⟨?_⟩
  refine HS.out.mono ?_
  rintro e w2 ⟨v, rfl, qs, hp, hs, ho, hb2⟩
  have hql : qs.length = l.length := by rw [hp.length_eq, hpl]
  have hqk : ∀ p ∈ qs, ElOk w1 p := fun p hpq => hel p (hp.mem_iff.1 hpq)
  have HC := am_ (compact_holds w1 w2 hb2 v qs (by omega) ho hqk)
  have HP := am_ (show (qs.map (·.2)).Perm l by rw [← hps]; exact hp.map _)
  have HQ := am_ hs; have HK := am_ hqk
  clear hp hs ho hb2 hqk hel HS
  dsimp only
  go_wp2_with (go_at_call 59; refine park ?_)
  refine ⟨?_⟩
  refine HC.out.mono ?_
  rintro e w3 ⟨v, rfl, ho, hb3⟩
  obtain ⟨A3, c3, hv, hrow⟩ := row_of_own (by simp) ho
  have hrk : ∀ p ∈ dd qs qs.length, ElOk w3 p := fun p hp => ⟨k35.K_below hb3 (HK.out p (dd_mem qs _ (Nat.le_refl _) p hp)).1, (HK.out p (dd_mem qs _ (Nat.le_refl _) p hp)).2⟩
  have hrl := dd_len qs qs.length
  have HB := am_ (below_step HB.out hb3)
  obtain ⟨rs, hrs⟩ : ∃ rs, dd qs qs.length = rs := ⟨_, rfl⟩
  rw [hrs] at hrow hrk hrl hv
  rw [List.length_map] at hv hrow
  subst hv
  have hrn : rs.length ≤ 1000000 := by omega
  have HRW := am_ hrow; have HK := am_ hrk; have HRS := am_ hrs
  clear ho hb3 hrow hrk hrs HC hrl hql hpl hps
  dsimp only
  go_wp2_with fail
  go_loopg [3, 11] rs.length (fun kq v3 v11 w' => ∃ i : Nat, v11 = .int .i64 i ∧ Aside0 (i + kq = rs.length) ∧ Aside0 (Kd.R k35 35 w' w3.heap.size (fun _ => True) v3 ((rs.map (·.2)).take i)) ∧ Aside0 (Below w3.heap.size w3 w'))
  case atStart => exact ⟨0, rfl, ⟨by omega⟩, ⟨Kd.R_nil _ _ _ _ _⟩, ⟨Below.refl _ _⟩⟩
  case round =>
    obtain ⟨i, rfl, HL, HO, HB3⟩ := hrel
    by_cases hlt : i < rs.length
    · obtain ⟨g, rfl, hg, hrf⟩ := HRW.out (by omega)
      obtain ⟨_, x1, x2⟩ := ps_get rs hlt
      obtain ⟨A0, c0, A1, c1, e0, l0, g0, l1, g1⟩ := k35_open (k35.K_below HB3.out (HK.out _ x2).1)
      obtain ⟨b0, b1⟩ := (HK.out _ x2).2
      obtain ⟨q0, q1⟩ := (hrf.below HB3.out).cell x1
      obtain ⟨X, hX⟩ : ∃ X, rs.getD i default = X := ⟨_, rfl⟩
      rw [hX] at x1 x2 e0 l0 g0 l1 g1 b0 b1 q0 q1
      simp only [Hd.cells, List.cons.injEq, and_true] at e0
      rw [e0.1] at q0
      rw [e0.2] at q1
      have hk1 : (i : Int) < rs.length := by omega
      have hk2 : (0 : Int) ≤ i := by omega
      have G0 := am_ g0; have G1 := am_ g1; have X1 := am_ (show rs[i]? = some X from hX ▸ (ps_get rs hlt).1)
      clear g0 g1 x1 x2 hrf e0 hX
      go_wp2_with fail
      obtain ⟨W1, hW, HB4, BK5, SZ⟩ := box1 wr (.cells #[.slice A0 X.2.f0.length c0, .slice A1 X.2.f1.length c1] 35)
      rw [hW]
      have HB4 := am_ (below_drew1 HB4.out)
      have BK5 := am_ (blk_drew BK5.out)
      have HO4 := am_ (Kd.R_below HO.out HB4.out)
      have hlt4 := Kd.R_lt HO.out
      have HB3 := am_ (below_step HB3.out HB4.out)
      have p0 := cf0 BK5.out
      have p1 := cf1 BK5.out
      clear hW q0 q1
      refine start_ (n := 11) (S := fun W => W.cell? ⟨wr.heap.size, 0, none⟩ = some (.slice A0 X.2.f0.length c0) ∧ W.cell? ⟨wr.heap.size, 1, none⟩ = some (.slice A1 X.2.f1.length c1)) (ds := []) _ (by kernel_rfl) rfl rfl ⟨p0, p1⟩ (fun hHeld => ?_)
      refine with_tabW ssort_tab5 ssort_bits5 (fun HT_ HW_ => ?_)
      generalize W1.drew = w4 at *
      refine pu 0 15 ?_
      refine pu 1 16 ?_
      refine ld 2 17 ?_
      refine pu 4 19 ?_
      refine ld 5 20 ?_
      refine cal 3 18 Tryz.func47 #[.slice A0 X.2.f0.length c0] ?_
      refine (slices_Clone_int_int_47.calls A0 c0 X.2.f0 X.2.f0 w4 (Kd.C_below G0.out HB4.out) l0 (by unfold slices_Clone_int_int_47.f; rw [if_pos (by omega)])).mono ?_
      rintro e w5 ⟨v5, rfl, hR5, hb5⟩
      have hsz4 := HB4.out.size
      have hsz3 := HB3.out.size
      replace p0 := pw_cell_below hb5 p0
      replace p1 := pw_cell_below hb5 p1
      have V5 := am_ (Kd.R_mono (Kd.R_bound (Kd.R_lower hR5 hsz3)) (ok' := fun k => True) (fun _ _ => trivial))
      have V5 := am_ (Kd.R_mono (Kd.R_bound hR5) (ok' := fun k => wr.heap.size ≤ k) (fun k hk => Nat.le_trans hsz4 hk.2.1))
      have V5 := am_ (Kd.R_lower V5.out hsz3)
      have HO5 := am_ (Kd.R_below HO4.out hb5)
      have BK5 := am_ (blk_below BK5.out hb5)
      have HB4 := am_ (below_step HB4.out hb5)
      have HB3 := am_ (below_step HB3.out hb5)
      clear hR5 hb5
      refine ⟨_, rfl, ⟨p0, p1⟩, fun a1 ha1 hHeld => ?_⟩
      simp only [Act.put, List.setIfInBounds_toArray, List.set_cons_zero, List.set_cons_succ] at ha1
      subst ha1
      refine cal 6 21 Tryz.func47 #[.slice A1 X.2.f1.length c1] ?_
      refine (slices_Clone_int_int_47.calls A1 c1 X.2.f1 X.2.f1 w5 (Kd.C_below G1.out HB4.out) l1 (by unfold slices_Clone_int_int_47.f; rw [if_pos (by omega)])).mono ?_
      rintro e w6 ⟨v6, rfl, hR6, hb6⟩
      have hsz4 := HB4.out.size
      have hsz3 := HB3.out.size
      replace p0 := pw_cell_below hb6 p0
      replace p1 := pw_cell_below hb6 p1
      have V6 := am_ (Kd.R_mono (Kd.R_bound hR6) (ok' := fun k => wr.heap.size ≤ k) (fun k hk => Nat.le_trans hsz4 hk.2.1))
      have V6 := am_ (Kd.R_lower V6.out hsz3)
      have V5 := am_ (Kd.R_below V5.out hb6)
      have HO6 := am_ (Kd.R_below HO5.out hb6)
      have BK5 := am_ (blk_below BK5.out hb6)
      have HB4 := am_ (below_step HB4.out hb6)
      have HB3 := am_ (below_step HB3.out hb6)
      clear hR6 hb6
      refine ⟨_, rfl, ⟨p0, p1⟩, fun a1 ha1 hHeld => ?_⟩
      simp only [Act.put, List.setIfInBounds_toArray, List.set_cons_zero, List.set_cons_succ] at ha1
      subst ha1
      obtain ⟨A5, c5, rfl⟩ := Kd.R_slice V5.out
      obtain ⟨A6, c6, rfl⟩ := Kd.R_slice V6.out
      refine pu 7 22 ?_
      refine on1 8 23 (fun K hK => ?_)
      refine value_ (w1 := ?_) (v := ?_) (by rfl) rfl ?_ ?_
      rotate_left 2
      · go_simp
        constructor
        · rfl
        rfl
      refine hK.out _ _ ⟨(World.cell?_alloc_lt _ _ _ (World.block_lt_of_cell? _ _ p0)).trans p0, (World.cell?_alloc_lt _ _ _ (World.block_lt_of_cell? _ _ p1)).trans p1⟩ (fun hHeld => ?_)
      clear hK K
      refine norm_ (a' := ?_) ?_ ?_
      rotate_left
      · show Act.put _ (some 23) _ = _
        simp only [Act.put, List.setIfInBounds_toArray, List.set_cons_zero, List.set_cons_succ]
        rfl
      refine on1 9 24 (fun K hK => ?_)
      refine Kd.R_append_step k35 (w0 := w3) w3.heap.size (by rfl) (.tmp 15) (.tmp 23) 31 35 (.agg #[.slice none 0 0, .slice none 0 0]) 48 rfl Tryz.underlying31 info35' rfl (by decide) (by omega) u3 ((rs.map (·.2)).take i) X.2 [.slice A5 X.2.f0.length c5, .slice A6 X.2.f1.length c6] (fun _ => True) (fun k => wr.heap.size ≤ k) rfl rfl (k35_mkM _ _ _ _ V5.out V6.out) (fun k hk => ⟨trivial, fun e => by have := hlt4 k e.symm; omega⟩) (fun _ _ => trivial) HO6.out HB3.out HB3.out.size (by rw [List.length_take, List.length_map]; omega) ?_
      intro v7 w7 ho7 hb7 hg7 hat7
      have e7 : (rs.map (·.2)).take i ++ [X.2] = (rs.map (·.2)).take (i + 1) := by
        have h1 : i < (rs.map (·.2)).length := by rw [List.length_map]; exact hlt
        rw [List.take_succ_eq_append_getElem h1]
        have h2 := (List.getElem?_eq_some_iff.1 X1.out).2
        simp [h2]
      rw [e7] at ho7
      refine hK.out _ _ ?_ (fun hHeld => ?_)
      · have BK7 := blk_grown BK5.out hg7 (fun e => by have := hlt4 _ e.symm; omega)
        exact ⟨cf0 BK7, cf1 BK7⟩
      clear hK K
      refine norm_ (a' := ?_) ?_ ?_
      rotate_left
      · show Act.put _ (some 24) _ = _
        simp only [Act.put, List.setIfInBounds_toArray, List.set_cons_zero, List.set_cons_succ]
        rfl
      refine pu 10 3 ?_
      refine fin ?_
      go_wp2_with fail
      go_roundg (rs.length - (i + 1))
      case rel => exact ⟨i + 1, by simp, ⟨by omega⟩, ⟨ho7⟩, ⟨hb7⟩⟩
      case measure => have := HL.out; omega
    · obtain rfl : i = rs.length := by have := HL.out; omega
      rw [List.take_of_length_le (by simp)] at HO
      obtain ⟨Ao, co, eo, hco, hC⟩ := Kd.R_reads HO.out
      subst eo
      have HC := am_ hC
      clear hC
      go_wp2_with fail
      go_ret
      exact ⟨Ao, co, _, rfl, hco, HC.out, below_step HB.out HB3.out, qs, HP.out, HQ.out, by rw [HRS.out]⟩
end Go.Proofs.YtmkchdlkpbnldaaGreatDoor.PB
namespace Go.Proofs.YtmkchdlkpbnldaaGreatDoor.PB
open Go.RowKit Go.Proofs.YtmkchdlkpbnldaaGreatDoorW.PrintWords Go.Proofs.YtmkchdlkpbnldaaGreatDoorW.PrintLast Go.Proofs.YtmkchdlkpbnldaaGreatDoorW.PrintMore
open Go.Proofs.YtmkchdlkpbnldaaGreatDoorMine
set_option linter.unusedVariables false
def insX (x : S35) : List S35 → List S35
  | [] => [x]
  | y :: ys => if cmpX x y < 0 then x :: y :: ys else if cmpX x y = 0 then y :: ys else y :: insX x ys
def sortX : List S35 → List S35
  | [] => []
  | x :: xs => insX x (sortX xs)
abbrev Strict (l : List S35) : Prop := l.Pairwise fun a b => cmpX a b < 0
theorem insX_mem (x : S35) : ∀ (l : List S35) (y : S35), y ∈ insX x l ↔ y = x ∨ y ∈ l
  | [], y => by simp [insX]
  | z :: zs, y => by
    simp only [insX]
    split
    · simp
    · split
      · rename_i h; have := cmpX_eq h; subst this; simp
      · simp only [List.mem_cons, insX_mem x zs y]
        constructor
        · rintro (h | h | h) <;> simp [h]
        · rintro (h | h | h) <;> simp [h]
theorem insX_strict (x : S35) : ∀ l : List S35, Strict l → Strict (insX x l)
  | [], _ => by simp [insX]
  | z :: zs, h => by
    simp only [insX]
    obtain ⟨h1, h2⟩ := List.pairwise_cons.1 h
    split
    · rename_i hx
      refine List.pairwise_cons.2 ⟨fun y hy => ?_, h⟩
      rcases List.mem_cons.1 hy with rfl | hy
      · exact hx
      · exact cmpX_trans hx (h1 y hy)
    · split
      · exact h
      · rename_i a b
        refine List.pairwise_cons.2 ⟨fun y hy => ?_, insX_strict x zs h2⟩
        rcases (insX_mem x zs y).1 hy with rfl | hy
        · have := cmpX_neg y z; omega
        · exact h1 y hy
theorem sortX_mem : ∀ (l : List S35) (y : S35), y ∈ sortX l ↔ y ∈ l
  | [], y => by simp [sortX]
  | x :: xs, y => by rw [sortX, insX_mem, sortX_mem xs y, List.mem_cons]
theorem sortX_strict : ∀ l : List S35, Strict (sortX l)
  | [] => List.Pairwise.nil
  | x :: xs => insX_strict x _ (sortX_strict xs)
theorem strict_unique : ∀ {a b : List S35}, Strict a → Strict b → (∀ y, y ∈ a ↔ y ∈ b) → a = b
  | [], [], _, _, _ => rfl
  | [], y :: ys, _, _, h => by have := (h y).2 (by simp); simp at this
  | x :: xs, [], _, _, h => by have := (h x).1 (by simp); simp at this
  | x :: xs, y :: ys, h1, h2, h => by
    obtain ⟨p1, p2⟩ := List.pairwise_cons.1 h1
    obtain ⟨q1, q2⟩ := List.pairwise_cons.1 h2
    have hxy : x = y := by
      rcases List.mem_cons.1 ((h x).1 (by simp)) with e | hx
      · exact e
      · rcases List.mem_cons.1 ((h y).2 (by simp)) with e | hy
        · exact e.symm
        · have a := q1 x hx; have b := p1 y hy; have := cmpX_neg x y; omega
    subst hxy
    congr 1
    refine strict_unique p2 q2 fun z => ⟨fun hz => ?_, fun hz => ?_⟩
    · rcases List.mem_cons.1 ((h z).1 (by simp [hz])) with e | hz'
      · subst e; have := p1 z hz; rw [cmpX_self] at this; omega
      · exact hz'
    · rcases List.mem_cons.1 ((h z).2 (by simp [hz])) with e | hz'
      · subst e; have := q1 z hz; rw [cmpX_self] at this; omega
      · exact hz'
theorem dd_strict (qs : List (Hd × S35)) (hs : qs.Pairwise fun a b => 0 ≤ cmpX b.2 a.2) : ∀ m, m ≤ qs.length → Strict ((dd qs m).map (·.2)) ∧ (∀ i, i < m → (qs.getD i default).2 ∈ (dd qs m).map (·.2)) ∧ (0 < m → ∀ x ∈ (dd qs m).map (·.2), cmpX x (qs.getD (m - 1) default).2 ≤ 0)
  | 0, _ => ⟨List.Pairwise.nil, fun i hi => by omega, fun h => by omega⟩
  | m + 1, hm => by
    obtain ⟨a, b, c⟩ := dd_strict qs hs m (by omega)
    have hle : ∀ i, i < m → 0 ≤ cmpX (qs.getD m default).2 (qs.getD i default).2 := fun i hi => by
      have h1 := List.pairwise_iff_getElem.1 hs i m (by omega) (by omega) hi
      rw [List.getD_eq_getElem?_getD, List.getD_eq_getElem?_getD, List.getElem?_eq_getElem (show m < qs.length by omega), List.getElem?_eq_getElem (show i < qs.length by omega)]
      exact h1
    cases hk : keepB qs m
    · have e : dd qs (m + 1) = dd qs m := by rw [dd, if_neg (by simp [hk]), List.append_nil]
      have h0 : m ≠ 0 := fun h => by subst h; simp [keepB] at hk
      have e2 : cmpX (qs.getD m default).2 (qs.getD (m - 1) default).2 = 0 := by
        have := keepB_at qs (i := m) (by omega)
        rw [hk] at this; simpa using this
      have e3 := cmpX_eq e2
      rw [e]
      refine ⟨a, fun i hi => ?_, fun _ x hx => ?_⟩
      · by_cases him : i = m
        · subst him; rw [e3]; exact b _ (by omega)
        · exact b i (by omega)
      · show cmpX x (qs.getD m default).2 ≤ 0
        rw [e3]; exact c (by omega) x hx
    · have e : dd qs (m + 1) = dd qs m ++ [qs.getD m default] := by rw [dd, if_pos hk]
      rw [e, List.map_append]
      have hlt : ∀ x ∈ (dd qs m).map (·.2), cmpX x (qs.getD m default).2 < 0 := fun x hx => by
        by_cases h0 : m = 0
        · subst h0; simp [dd] at hx
        · have h1 := c (by omega) x hx
          have h2 := hle (m - 1) (by omega)
          have h3 : cmpX (qs.getD m default).2 (qs.getD (m - 1) default).2 ≠ 0 := by
            have := keepB_at qs (i := m) (by omega)
            rw [hk] at this; simpa using this
          have h4 := cmpX_neg (qs.getD m default).2 (qs.getD (m - 1) default).2
          by_cases h5 : cmpX x (qs.getD (m - 1) default).2 = 0
          · rw [cmpX_eq h5]; omega
          · exact cmpX_trans (y := (qs.getD (m - 1) default).2) (by omega) (by omega)
      refine ⟨List.pairwise_append.2 ⟨a, List.pairwise_singleton _ _, fun x hx y hy => ?_⟩, fun i hi => ?_, fun _ x hx => ?_⟩
      · simp at hy; subst hy; simpa using hlt x hx
      · by_cases him : i = m
        · subst him; simp
        · exact List.mem_append.2 (.inl (b i (by omega)))
      · show cmpX x (qs.getD m default).2 ≤ 0
        rcases List.mem_append.1 hx with hx | hx
        · have := hlt x hx; omega
        · simp at hx; subst hx; have := cmpX_self (qs.getD m default).2; simp at this; simp [this]
theorem sortOut_is {l : List S35} {qs : List (Hd × S35)} {r : List S35} (hp : (qs.map (·.2)).Perm l) (hs : qs.Pairwise fun a b => 0 ≤ cmpX b.2 a.2) (hr : r = (dd qs qs.length).map (·.2)) : r = sortX l := by
  subst hr
  obtain ⟨a, b, _⟩ := dd_strict qs hs qs.length (Nat.le_refl _)
  refine strict_unique a (sortX_strict l) fun y => ?_
  rw [sortX_mem, ← hp.mem_iff]
  constructor
  · intro h
    obtain ⟨p, hp1, rfl⟩ := List.mem_map.1 h
    exact List.mem_map.2 ⟨p, dd_mem qs _ (Nat.le_refl _) p hp1, rfl⟩
  · intro h
    obtain ⟨p, hp1, rfl⟩ := List.mem_map.1 h
    obtain ⟨i, hi, rfl⟩ := List.mem_iff_getElem.1 hp1
    have := b i hi
    rwa [List.getD_eq_getElem?_getD, List.getElem?_eq_getElem hi] at this
theorem seenSort_is (A : Option Addr) (c : Nat) (l : List S35) (w : World) (hr : Kd.C k35 w A l.length l) (hc : l.length ≤ c) (hl : l.length ≤ 1000000) (hb : ∀ x ∈ l, x.f0.length < 1000000 ∧ x.f1.length < 1000000) :
    Calls Tryz.prog 30 #[.slice A l.length c] w fun e w' => ∃ A' c', e = .returned (.slice A' (sortX l).length c') ∧ (sortX l).length ≤ c' ∧ Kd.C k35 w' A' (sortX l).length (sortX l) ∧ Below w.heap.size w w' :=
  (seenSort_holds A c l w hr hc hl hb).mono fun e w' ⟨A', c', r, he, h1, h2, h3, qs, hp, hs, hq⟩ => by
    obtain rfl := sortOut_is hp hs hq
    exact ⟨A', c', he, h1, h2, h3⟩
end Go.Proofs.YtmkchdlkpbnldaaGreatDoor.PB
