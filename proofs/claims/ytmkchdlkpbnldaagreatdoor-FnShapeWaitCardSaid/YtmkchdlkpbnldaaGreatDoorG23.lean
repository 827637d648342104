/- What the laws share, part 23: Del SeenVals Sorted Tz PBx83 Len PBx71. -/
import Derived.Test.YtmkchdlkpbnldaaGreatDoorG3
import Derived.Test.YtmkchdlkpbnldaaGreatDoorProg
import Derived.WalkKit
import Derived.KernelRfl
import Derived.Deep.RegionLaw
import Derived.Lib.SliceRun
import Derived.Lib.SlicesDelete
import Derived.Lib.Walk
import Derived.Sort.WalkB12
import Derived.RangeFuncBox
import Derived.RangeFuncNested
import Derived.RangeFuncLeaves
import Derived.Shelf.Abstract
import Derived.OwnWalkIn
import Derived.TacticsInMore
import Derived.LoopNIn
import Derived.LoopIn
import Derived.Maps.AppendAt
import Derived.Test.YtmkchdlkpbnldaaGreatDoorG4
import Derived.Sort.OwnSortedInts
namespace Go.Proofs.YtmkchdlkpbnldaaGreatDoor.PB
open Go.RowKit Go.Lib Go.Sort Go.Proofs
set_option linter.unusedVariables false
theorem infoInt1 : (Tryz.prog.info? 3).map (fun i => (i.zero, i.size, i.bytes)) = some (some (.int .i64 0), 1, 8) := by kernel_rfl
theorem zeroInt (w : World) : (zeroValue 3).run Tryz.prog w = .ok (.int .i64 0) w := by kernel_rfl
set_option maxHeartbeats 4000000 in
set_option maxRecDepth 1000000 in
theorem del_holds (blk cap i : Nat) (d : Array Int) (w : World) (hH : Holds (Value.int .i64) w blk 0 d) (hcap : d.size ≤ cap) (hm : cap ≤ 9223372036854775807) (hj : i + 1 ≤ d.size) :
    Calls Tryz.prog 83 #[.slice (some ⟨blk, 0, none⟩) d.size cap, .int .i64 i, .int .i64 ((i + 1 : Nat) : Int)] w fun e w' => e = .returned (.slice (some ⟨blk, 0, none⟩) (i + (d.size - (i + 1))) cap) ∧ ∃ q, w' = putRow (Value.int .i64) (Sort.ahead w q) blk 0 (d.toList.take i ++ d.toList.drop (i + 1) ++ List.replicate (i + 1 - i) 0).toArray := by
  obtain ⟨i0, hi0, hz0, hz1, hz2⟩ := info_parts infoInt1
  obtain ⟨j, hjj⟩ : ∃ j, j = i + 1 := ⟨_, rfl⟩
  rw [← hjj]
  rw [← hjj] at hj
  have hij : i ≤ j := by omega
  have hlt : i < j := by omega
  clear hjj
  obtain ⟨news, hnews⟩ : ∃ news, news = (d.toList.drop j).map (Value.int .i64) := ⟨_, rfl⟩
  have hlen : news.length = d.size - j := by rw [hnews]; simp
  have hget : ∀ t, t < d.size - j → news[t]? = some (Value.int .i64 d[j + t]!) := by
    intro t ht
    rw [hnews, List.getElem?_map, List.getElem?_drop, Array.getElem?_toList, getElem!_pos d (j + t) (by omega), Array.getElem?_eq_getElem (by omega)]
    rfl
  obtain ⟨A, hA, hsrc⟩ : ∃ A : Addr, (if cap = j then some (⟨blk, 0, none⟩ : Addr) else some ⟨blk, j, none⟩) = some A ∧ Hid (∀ t u, news[t]? = some u → w.drew.cell? (A.add t) = some u) := by
    by_cases h : cap = j
    · refine ⟨⟨blk, 0, none⟩, by simp [h], fun t u hu => ?_⟩
      have h0 : news.length = 0 := by rw [hlen]; omega
      rw [List.length_eq_zero_iff.1 h0] at hu
      simp at hu
    · refine ⟨⟨blk, j, none⟩, by simp [h], fun t u hu => ?_⟩
      have ht : t < d.size - j := by
        have := (List.getElem?_eq_some_iff.1 hu).1
        rwa [hlen] at this
      rw [hget t ht] at hu
      rw [Addr.add_lit]
      have h2 := (hH (j + t) (by omega)).1
      rw [Nat.zero_add] at h2
      exact h2.trans hu
  have s1 : Hid (news.length = (d.size - j) * 1) := by rw [Nat.mul_one]; exact hlen
  have s2 : Hid (∀ u ∈ news, u.oneCell' = true) := by
    intro u hu
    rw [hnews] at hu
    obtain ⟨x, _, rfl⟩ := List.mem_map.1 hu
    rfl
  have s3 : Hid (∀ t, t < news.length → (w.drew.cell? ⟨blk, 0 + i * 1 + t, none⟩).isSome = true ∧ w.drew.frozen? ⟨blk, 0 + i * 1 + t, none⟩ = false) := by
    intro t ht
    rw [hlen] at ht
    rw [Nat.mul_one, Nat.add_assoc]
    exact ⟨by show (w.cell? _).isSome = true; rw [(hH (i + t) (by omega)).1]; rfl, (hH (i + t) (by omega)).2⟩
  obtain ⟨W1, hW1⟩ : ∃ W1, W1 = w.drew.setCells blk (0 + i * 1) news := ⟨_, rfl⟩
  have hW1' : W1 = putRow (Value.int .i64) (Sort.ahead w 1) blk 0 (lay d i (d.toList.drop j)) := by
    rw [hW1, hnews, Nat.mul_one, ← putRow_setCells (Value.int .i64) (Sort.ahead w 1) blk 0 _ d i (by simp; omega), putRow_self (Value.int .i64) (Sort.ahead w 1) blk 0 d (holds_ahead (Value.int .i64) w 1 blk 0 d hH)]
    rfl
  have hH1 : Holds (Value.int .i64) W1 blk 0 (lay d i (d.toList.drop j)) := by rw [hW1']; exact holds_putRow (Value.int .i64) _ blk 0 d _ (holds_ahead (Value.int .i64) w 1 blk 0 d hH) (lay_size _ _ _)
  have hcl : ∀ ty, (Builtin.clear_ #[33] ty #[.slice (some ⟨blk, i + (d.size - j), none⟩) (d.size - (i + (d.size - j))) (cap - (i + (d.size - j)))]).run Tryz.prog W1 = .ok (.tuple #[]) (W1.setCells blk (i + (d.size - j)) (List.replicate (d.size - (i + (d.size - j))) (.int .i64 0))) :=
    fun ty => Lib.run_clear_slice W1 _ _ ty _ Tryz.underlying33 zeroInt rfl rfl blk (i + (d.size - j)) _ _ (by omega) (fun t ht => by have h := (hH1 (i + (d.size - j) + t) (by rw [lay_size]; omega)).1; rw [Nat.zero_add] at h; rw [h]; rfl) (fun t ht => by have h := (hH1 (i + (d.size - j) + t) (by rw [lay_size]; omega)).2; rwa [Nat.zero_add] at h)
  have X : Aside (W1 = putRow (Value.int .i64) (Sort.ahead w 1) blk 0 (lay d i (d.toList.drop j))) := hW1'
  have hW : Hid (W1 = w.drew.setCells blk (0 + i * 1) news) := hW1
  have hic : i ≤ cap := by omega
  have hjc : j ≤ cap := by omega
  clear hW1 hW1' hH1 hH hget hnews hlen
  go_enter Tryz.func83, Tryz.ntmps83
  go_wp2_with fail
  go_region_law (refine step_append_room rfl (.tmp 22) (.tmp 25) 33 rfl 3 i0 1 Tryz.underlying33 hi0 hz1 blk 0 i cap (by simp [Act.eval, Act.put]) A (d.size - j) (cap - j) news (by simp [Act.eval, Act.put]) s1.out hsrc.out s2.out (by omega) s3.out ?_; rw [← hW.out])
  go_wp2
  go_ret
  refine ⟨rfl, 1, ?_⟩
  rw [← delete_arr d i j 0 hij hj, ← putRow_setCells (Value.int .i64) _ blk 0 _ _ (i + (d.size - j)) (by rw [lay_size]; simp; omega), ← X.out, List.map_replicate, show d.size - (i + (d.size - j)) = j - i by omega, Nat.zero_add]
end Go.Proofs.YtmkchdlkpbnldaaGreatDoor.PB
namespace Go.Proofs.YtmkchdlkpbnldaaGreatDoor.PB
open Go.RowKit Go.Shelf Go.Proofs
set_option linter.unusedVariables false
attribute [local go_sem] Oper.semAt_some
structure Hd where
  A : Option Addr
  n : Nat
  c : Nat
  B : Option Addr
  m : Nat
  d : Nat
  deriving Inhabited
def Hd.a (x : Hd) : Value := .slice x.A x.n x.c
def Hd.b (x : Hd) : Value := .slice x.B x.m x.d
def Hd.cells (x : Hd) : List Value := [.slice x.A x.n x.c, .slice x.B x.m x.d]
def hupto (zs : List Hd) (k : Nat) : List Hd := (List.range k).map fun j => zs[j]?.getD default
theorem hupto_succ (zs : List Hd) (k : Nat) : hupto zs (k + 1) = hupto zs k ++ [zs[k]?.getD default] := by simp [hupto, List.range_succ]
theorem hupto_length (zs : List Hd) (k : Nat) : (hupto zs k).length = k := by simp [hupto]
theorem hupto_all (zs : List Hd) : hupto zs zs.length = zs := by
  apply List.ext_getElem
  · simp [hupto]
  · intro i h1 h2
    simp [hupto, h2]
theorem hupto_take (zs : List Hd) {k : Nat} (hk : k ≤ zs.length) : hupto zs k = zs.take k := by
  apply List.ext_getElem
  · simp [hupto, hk]
  · intro i h1 h2
    have : i < zs.length := by simp [hupto] at h1; omega
    simp [hupto, this]
set_option maxRecDepth 100000 in
set_option maxHeartbeats 2000000 in
theorem svalues1_in (F : Fence) (n : Nat) (h7 : F.fn 79) (hro : F.round = none) (hn : 1 ≤ n) (l Bs n₀ BJ len cap : Nat) (ad : Addr) (zs : List Hd) (hreach : len * 8 ≤ 140737488351232) (hb : ad.block < n₀) (J Jx : List Hd → World → Prop) (hJ : AbidesFrom BJ J)
    (hY : ∀ pre x W, J pre W → pre.length < len → YieldAt F (n - 1) Tryz.prog l #[.agg #[.slice x.A x.n x.c, .slice x.B x.m x.d]] W fun e W' =>
      (e = .returned (.bool true) ∧ J (pre ++ [x]) W' ∧ Below n₀ W W') ∨ (e = .returned (.bool false) ∧ Jx (pre ++ [x]) W'))
    (W : World) (hn₀ : n₀ ≤ W.heap.size) (hBs : W.cell? ⟨Bs, 0, none⟩ = some (.slice (some ad) len cap)) (hc : ∀ j, j < len → W.cell? (ad.add (j * 2)) = some (.slice (zs[j]?.getD default).A (zs[j]?.getD default).n (zs[j]?.getD default).c) ∧ W.cell? ⟨(ad.add (j * 2)).block, (ad.add (j * 2)).off + 1, none⟩ = some (.slice (zs[j]?.getD default).B (zs[j]?.getD default).m (zs[j]?.getD default).d)) (h0 : J [] W) :
    CallsIn F n Tryz.prog 79 #[.func (.yield l) #[] #[], .pointer (some ⟨Bs, 0, none⟩)] W fun e W' => (∃ v, e = .returned v) ∧
      ((∃ ys, ys = hupto zs len ∧ J ys W') ∨ (∃ pre, (∃ k, k ≤ len ∧ pre = hupto zs k) ∧ Jx pre W')) := by
  refine callsIn_of_wp Tryz.func79 rfl h7 ?_ hro
  simp only [Tryz.ntmps79, List.size_toArray, List.length_cons, List.length_nil, Nat.reduceAdd, Nat.reduceSub, Array.replicate_succ, Array.replicate_zero, List.push_toArray, List.append_toArray, List.nil_append, List.cons_append]
  gi_wp2
  gi_loopw [7] (fun i wr => ∃ k : Nat, k ≤ len ∧ i = .int .i64 k ∧ J (hupto zs k) wr ∧ Below n₀ W wr)
    (fun i _ => len - (intOf i).toNat)
  case atStart => exact ⟨0, Nat.zero_le _, rfl, h0, Below.refl _ _⟩
  case round =>
    obtain ⟨k, hk, rfl, hJs, hnx⟩ := hrel
    have hcx : k < len → wr.cell? (ad.add (k * 2)) = some (.slice (zs[k]?.getD default).A (zs[k]?.getD default).n (zs[k]?.getD default).c) ∧ wr.cell? ⟨(ad.add (k * 2)).block, (ad.add (k * 2)).off + 1, none⟩ = some (.slice (zs[k]?.getD default).B (zs[k]?.getD default).m (zs[k]?.getD default).d) := fun h =>
      ⟨(hnx.cell (p := ad.add (k * 2)) (by rw [Go.Proofs.YtmkchdlkpbnldaaGreatDoorW.PrintWords.add_block]; exact hb)).trans (hc k h).1, (hnx.cell (p := ⟨(ad.add (k * 2)).block, (ad.add (k * 2)).off + 1, none⟩) (by show (ad.add (k * 2)).block < n₀; rw [Go.Proofs.YtmkchdlkpbnldaaGreatDoorW.PrintWords.add_block]; exact hb)).trans (hc k h).2⟩
    by_cases hlt : k < len
    · obtain ⟨x, hx⟩ : ∃ x, zs[k]?.getD default = x := ⟨_, rfl⟩
      rw [hx] at hcx
      obtain ⟨hc1, hc2⟩ := hcx hlt
      have hJ2 := hJ _ _ (wr.alloc (.cells #[.slice x.A x.n x.c, .slice x.B x.m x.d] 35)) none hJs (World.grownBy_alloc _ _ _) (fun r e => by cases e)
      obtain ⟨fn, tmps, assign, body, hy, hR⟩ := hY _ x _ hJ2 (by rw [hupto_length]; exact hlt)
      have hbx : Below n₀ wr (wr.alloc (.cells #[.slice x.A x.n x.c, .slice x.B x.m x.d] 35)) := (Below.refl _ _).alloc (Nat.le_trans hn₀ hnx.size) _
      have HX := hx
      clear hx
      gi_wp2
      refine hR.mono ?_
      rintro e W3 (⟨rfl, hJ3, hk3⟩ | ⟨rfl, hJx3⟩)
      · gi_wp2
        go_roundw
        case rel => exact ⟨k + 1, by omega, by simp, by rw [hupto_succ, HX]; exact hJ3, (hnx.trans hbx).trans hk3⟩
        case measure => simp [intOf]; omega
      · gi_wp2
        refine bodyPost_ret (results_none rfl _ _ _) rfl ?_
        exact ⟨⟨_, rfl⟩, .inr ⟨_, ⟨k + 1, by omega, rfl⟩, by rw [hupto_succ, HX]; exact hJx3⟩⟩
    · obtain rfl : k = len := by omega
      gi_wp2
      go_end0
      exact ⟨⟨_, rfl⟩, .inl ⟨_, rfl, hJs⟩⟩
def HdsAt (n₀ : Nat) (W : World) (sv : Value) (zs : List Hd) : Prop := ∃ A c, sv = .slice A zs.length c ∧ (0 < zs.length → ∃ ad : Addr, A = some ad ∧ ad.block < n₀ ∧ ∀ j, j < zs.length → W.cell? (ad.add (j * 2)) = some (.slice (zs[j]?.getD default).A (zs[j]?.getD default).n (zs[j]?.getD default).c) ∧ W.cell? ⟨(ad.add (j * 2)).block, (ad.add (j * 2)).off + 1, none⟩ = some (.slice (zs[j]?.getD default).B (zs[j]?.getD default).m (zs[j]?.getD default).d))
theorem HdsAt.below {n₀ : Nat} {A B : World} (h : Below n₀ A B) {sv : Value} {zs : List Hd} : HdsAt n₀ A sv zs → HdsAt n₀ B sv zs := fun ⟨P, c, e, hp⟩ => ⟨P, c, e, fun hz => by
  obtain ⟨ad, ha, hb, hc⟩ := hp hz
  exact ⟨ad, ha, hb, fun j hj => ⟨(h.cell (p := ad.add (j * 2)) (by rw [Go.Proofs.YtmkchdlkpbnldaaGreatDoorW.PrintWords.add_block]; exact hb)).trans (hc j hj).1, (h.cell (p := ⟨(ad.add (j * 2)).block, (ad.add (j * 2)).off + 1, none⟩) (by show (ad.add (j * 2)).block < n₀; rw [Go.Proofs.YtmkchdlkpbnldaaGreatDoorW.PrintWords.add_block]; exact hb)).trans (hc j hj).2⟩⟩⟩
set_option maxRecDepth 100000 in
set_option maxHeartbeats 1000000 in
theorem svalues1_nil_in (F : Fence) (n : Nat) (h7 : F.fn 79) (hro : F.round = none) (l Bs : Nat) (A : Option Addr) (c : Nat) (J : List Hd → World → Prop) (W : World) (hBs : W.cell? ⟨Bs, 0, none⟩ = some (.slice A 0 c)) (h0 : J [] W) :
    CallsIn F n Tryz.prog 79 #[.func (.yield l) #[] #[], .pointer (some ⟨Bs, 0, none⟩)] W fun e W' => (∃ v, e = .returned v) ∧ J [] W' := by
  refine callsIn_of_wp Tryz.func79 rfl h7 ?_ hro
  simp only [Tryz.ntmps79, List.size_toArray, List.length_cons, List.length_nil, Nat.reduceAdd, Nat.reduceSub, Array.replicate_succ, Array.replicate_zero, List.push_toArray, List.append_toArray, List.nil_append, List.cons_append]
  gi_wp2
  gi_loopw [7] (fun i wr => i = .int .i64 0 ∧ J [] wr) (fun _ _ => 0)
  case atStart => exact ⟨rfl, h0⟩
  case round =>
    obtain ⟨rfl, hJs⟩ := hrel
    gi_wp2
    go_end0
    exact ⟨⟨_, rfl⟩, hJs⟩
theorem svalues_stops (F : Fence) (n : Nat) (h7 : F.fn 79) (hro : F.round = none) (hn : 1 ≤ n) (Bs n₀ : Nat) (sv : Value) (zs : List Hd) (hreach : zs.length * 8 ≤ 140737488351232) (w : World) (hBs : Bs < w.heap.size) (hn₀ : n₀ ≤ w.heap.size)
    (hc : w.cell? ⟨Bs, 0, none⟩ = some sv) (hI : HdsAt n₀ w sv zs) :
    SeqStopsK F n Tryz.prog 79 #[.pointer (some ⟨Bs, 0, none⟩)] (fun x : Hd => #[.agg #[.slice x.A x.n x.c, .slice x.B x.m x.d]]) (Below n₀) (fun ys => ys = zs) (fun pre => pre <+: zs) zs.length w := fun l J Jx W hW hJ _ hY h0 => by
  have hc' := (hW.cell (p := ⟨Bs, 0, none⟩) hBs).trans hc
  obtain ⟨A, c, rfl, hp⟩ := hI.below (hW.mono hn₀)
  by_cases hz : 0 < zs.length
  · obtain ⟨ad, rfl, hb, hcs⟩ := hp hz
    refine (svalues1_in F n h7 hro hn l Bs n₀ _ zs.length c ad zs hreach hb J Jx hJ hY W (Nat.le_trans hn₀ hW.size) hc' hcs h0).mono ?_
    rintro e W' ⟨he, ⟨ys, rfl, hj⟩ | ⟨pre, ⟨k, hk, rfl⟩, hj⟩⟩
    · exact ⟨he, .inl ⟨_, hupto_all zs, hj⟩⟩
    · exact ⟨he, .inr ⟨_, by rw [hupto_take zs hk]; exact List.take_prefix _ _, hj⟩⟩
  · obtain rfl : zs = [] := List.eq_nil_of_length_eq_zero (by omega)
    exact (svalues1_nil_in F n h7 hro l Bs A c J W hc' h0).mono fun e W' ⟨he, hj⟩ => ⟨he, .inl ⟨_, rfl, hj⟩⟩
theorem info35' : (Tryz.prog.info? 35).map (fun i => (i.zero, i.size, i.bytes)) = some (some (.agg #[.slice none 0 0, .slice none 0 0]), 2, 48) := by kernel_rfl
def hcells (zs : List Hd) : List Value := zs.flatMap Hd.cells
theorem hcells_len (zs : List Hd) : (hcells zs).length = zs.length * 2 := by
  induction zs with
  | nil => rfl
  | cons x xs ih => simp only [hcells, List.flatMap_cons, List.length_append, List.length_cons] at *; rw [ih]; simp [Hd.cells]; omega
theorem hcells_snoc (zs : List Hd) (x : Hd) : hcells (zs ++ [x]) = hcells zs ++ x.cells := by simp [hcells]
set_option maxRecDepth 100000 in
set_option maxHeartbeats 2000000 in
theorem sappend_in (F : Fence) (n : Nat) (h3 : F.fn 88) (h5 : F.fn 79) (hro : F.round = none) (hn : 3 ≤ n) (zs : List Hd) (hlen : zs.length ≤ 1000000) (w : World) (Bs : Nat) (sv : Value) (hBs : Bs < w.heap.size) (hsv : w.cell? ⟨Bs, 0, none⟩ = some sv) (hI : HdsAt w.heap.size w sv zs) :
    CallsIn F n Tryz.prog 88 #[.slice none 0 0, .func (.func 79) #[] #[.pointer (some ⟨Bs, 0, none⟩)]] w fun e W' => ∃ v, e = .returned v ∧ W'.ownsRow w.heap.size 35 2 v zs.length (hcells zs) ∧ Below w.heap.size w W' := by
  have h1 : 1 ≤ n := by omega
  obtain ⟨i0, hi, hz0, hz1, hz2⟩ := info_parts info35'
  refine callsIn_of_wp_marks Tryz.func88 rfl h3 ?_ hro
  simp only [Tryz.ntmps88, List.size_toArray, List.length_cons, List.length_nil, Nat.reduceAdd, Nat.reduceSub, Array.replicate_succ, Array.replicate_zero, List.push_toArray, List.append_toArray, List.nil_append, List.cons_append]
  gi_wp2
  have bO := Boxed.new w 31 (.slice none 0 0)
  have hB0 : Below w.heap.size w (w.alloc (.cells #[.slice none 0 0] 31)) := (Below.refl _ w).alloc (Nat.le_refl _) _
  refine wpIn_rangeFunc_ownH hro h1 (gf := 79) (lb := #[.pointer (some ⟨Bs, 0, none⟩)]) rfl h5 (enters_of Tryz.func79 (by kernel_rfl) rfl)
    (svalues_stops F (n - 1) h5 hro (by omega) Bs w.heap.size sv zs (by omega) _ (by simp; omega) (by simp) ((hB0.cell (p := ⟨Bs, 0, none⟩) hBs).trans hsv) (hI.below hB0)) (fun h k => belowK_t h k) (belowK_b (by simp)) (Below.refl _ _) (fun _ => rfl)
    (fun pre W => (∃ v, Boxed W w.heap.size 31 v ∧ W.ownsRow w.heap.size 35 2 v pre.length (hcells pre) ∧ (v = .slice none 0 0 ↔ pre = [])) ∧ Below w.heap.size w W)
    (fun _ _ _ => False)
    (OwnFrom.and (Own.from (holdsRow_own w.heap.size w.heap.size 31 35 2 (fun pre : List Hd => pre.length) (fun pre => hcells pre) (fun pre v => v = .slice none 0 0 ↔ pre = [])) _) (ownFrom_below (Nat.le_refl _) (by simp)))
    (fun _ _ _ _ _ hs _ _ => hs)
    ⟨⟨_, bO, World.ownsRow_nil _ _ _ _, by simp⟩, hB0⟩
    (fun x a' W => ∃ p : Nat, w.heap.size + 1 ≤ p ∧ W.heap[p]? = some (.cells #[.slice x.A x.n x.c, .slice x.B x.m x.d] 35 (0, 0)) ∧ a' = { tmps := #[.slice none 0 0, .func (.func 79) #[] #[.pointer (some ⟨Bs, 0, none⟩)], .pointer (some ⟨w.heap.size, 0, none⟩), undef, .slice none 0 0, .pointer (some ⟨p, 0, none⟩), .func (.func 79) #[] #[.pointer (some ⟨Bs, 0, none⟩)], .agg #[.slice x.A x.n x.c, .slice x.B x.m x.d], undef, undef, undef, undef, undef], defers := [] }) ?hAx ?assign ?body ?done ?stop
  case hAx =>
    rintro x a' _ W W' row ⟨p, hp, hc, e⟩ hg hr
    exact ⟨p, hp, (hg.block p (Array.getElem?_eq_some_iff.1 hc).1 (fun e' => by obtain ⟨_, o, ho, hcell⟩ := hr p e'.symm; rw [hc] at ho; cases ho; cases hcell)).trans hc, e⟩
  case assign =>
    intro l pre x W K hI' hK
    gi_wp2
    obtain ⟨⟨v, hv, hrow, hnil⟩, hB⟩ := hI'
    exact hK _ _ ((KeepsOthers.alloc W _).from _) ((Below.refl _ _).alloc hB.size _) ⟨⟨v, hv.alloc _, hrow.alloc _, hnil⟩, hB.alloc hB.size _⟩ ⟨W.heap.size, hv.lt, World.alloc_heap_new W _, rfl⟩
  case body =>
    rintro l pre x a' W hl hr ⟨⟨v, hv, hrow, hnil⟩, hB⟩ ⟨p, hp, hpc, rfl⟩ hlt
    have hc := hv.cell
    have c0 : W.cell? ⟨p, 0, none⟩ = some (.slice x.A x.n x.c) := by simp [World.cell?, hpc]
    have c1 : W.cell? ⟨p, 1, none⟩ = some (.slice x.B x.m x.d) := by simp [World.cell?, hpc]
    gi_wp2_with (gi_at_builtin; refine Go.Proofs.YtmkchdlkpbnldaaGreatDoorMine.park ?_)
    refine ⟨?_⟩
    have hcc : ∀ (j : Nat) (u : Value), x.cells[j]? = some u → (W.alloc (Obj.cells #[Value.slice x.A x.n x.c, Value.slice x.B x.m x.d] 35)).cell? ((⟨W.heap.size, 0, none⟩ : Addr).add j) = some u := by
      intro j u hu
      have hn := World.alloc_heap_new W (Obj.cells #[Value.slice x.A x.n x.c, Value.slice x.B x.m x.d] 35)
      match j, hu with
      | 0, hu => simp [Hd.cells] at hu; subst hu; exact Go.Proofs.YtmkchdlkpbnldaaGreatDoorMine.cf0 hn
      | 1, hu => simp [Hd.cells] at hu; subst hu; exact Go.Proofs.YtmkchdlkpbnldaaGreatDoorMine.cf1 hn
      | j + 2, hu => simp [Hd.cells] at hu
    refine wpListIn_append_own _ rfl _ _ 31 rfl w.heap.size 35 i0 (.agg #[.slice none 0 0, .slice none 0 0]) 2 48 Tryz.underlying31 hi hz0 hz1 hz2 rfl (by decide) _ _ _ rfl (hrow.alloc _) ⟨W.heap.size, 0, none⟩ 1 1 x.cells rfl rfl hcc (by intro u hu; simp [Hd.cells] at hu; rcases hu with rfl | rfl <;> rfl) (by unfold maxLen; omega) (by omega) (by have := hB.size; simp; omega) ?_
    intro v' w1 hown' hgrow _
    obtain ⟨g', cap', rfl⟩ := ownsRow_succ hown'
    obtain ⟨hv1, hv2, hr2, hk2, hb2⟩ := hv.appended (by decide) hrow hB.size (Nat.le_refl _) hown' hgrow
    have hc1 := hv1.cell
    have hf1 := hv1.frozen
    clear hcc
    gi_wp2
    exact ⟨hk2.from _, hb2, ⟨_, hv2, by rw [hcells_snoc]; simpa using hr2, by simp⟩, hB.trans hb2⟩
  case done =>
    rintro D ys W hD rfl ⟨⟨v, hv, hrow, hnil⟩, hB⟩ hK
    have hc := hv.cell
    gi_wp2
    refine ⟨by simp, .inl ⟨_, _, rfl, run_takeDeferred hK, ?_⟩⟩
    exact ⟨_, results_tmp rfl _ _ _, v, rfl, ownsRow_putObj hrow _ hK rfl, hB.trans (belowK_b (w := w) (Nat.le_refl _) W D _ _ (by simp at hD; omega) hK rfl rfl)⟩
  case stop =>
    rintro D c pre W _ _ h _
    exact h.elim
def upto (zs : List Int) (k : Nat) : List Int := (List.range k).map fun j => zs[j]?.getD 0
theorem upto_succ (zs : List Int) (k : Nat) : upto zs (k + 1) = upto zs k ++ [zs[k]?.getD 0] := by simp [upto, List.range_succ]
theorem upto_length (zs : List Int) (k : Nat) : (upto zs k).length = k := by simp [upto]
theorem upto_all (zs : List Int) : upto zs zs.length = zs := by
  apply List.ext_getElem
  · simp [upto]
  · intro i h1 h2
    simp [upto, h2]
theorem upto_take (zs : List Int) {k : Nat} (hk : k ≤ zs.length) : upto zs k = zs.take k := by
  apply List.ext_getElem
  · simp [upto, hk]
  · intro i h1 h2
    have : i < zs.length := by simp [upto] at h1; omega
    simp [upto, this]
set_option maxRecDepth 100000 in
set_option maxHeartbeats 2000000 in
theorem values1_in (F : Fence) (n : Nat) (h7 : F.fn 94) (hro : F.round = none) (hn : 1 ≤ n) (l Bs n₀ len cap : Nat) (ad : Addr) (zs : List Int) (hreach : len * 8 ≤ 140737488351232) (hb : ad.block < n₀) (J Jx : List Int → World → Prop)
    (hY : ∀ pre x W, J pre W → pre.length < len → YieldAt F (n - 1) Tryz.prog l #[.int .i64 x] W fun e W' =>
      (e = .returned (.bool true) ∧ J (pre ++ [x]) W' ∧ Below n₀ W W') ∨ (e = .returned (.bool false) ∧ Jx (pre ++ [x]) W'))
    (W : World) (hBs : W.cell? ⟨Bs, 0, none⟩ = some (.slice (some ad) len cap)) (hc : ∀ j, j < len → W.cell? (ad.add j) = some (.int .i64 (zs[j]?.getD 0))) (h0 : J [] W) :
    CallsIn F n Tryz.prog 94 #[.func (.yield l) #[] #[], .pointer (some ⟨Bs, 0, none⟩)] W fun e W' => (∃ v, e = .returned v) ∧
      ((∃ ys, ys = upto zs len ∧ J ys W') ∨ (∃ pre, (∃ k, k ≤ len ∧ pre = upto zs k) ∧ Jx pre W')) := by
  refine callsIn_of_wp Tryz.func94 rfl h7 ?_ hro
  simp only [Tryz.ntmps94, List.size_toArray, List.length_cons, List.length_nil, Nat.reduceAdd, Nat.reduceSub, Array.replicate_succ, Array.replicate_zero, List.push_toArray, List.append_toArray, List.nil_append, List.cons_append]
  gi_wp2
  gi_loopw [7] (fun i wr => ∃ k : Nat, k ≤ len ∧ i = .int .i64 k ∧ J (upto zs k) wr ∧ Below n₀ W wr)
    (fun i _ => len - (intOf i).toNat)
  case atStart => exact ⟨0, Nat.zero_le _, rfl, h0, Below.refl _ _⟩
  case round =>
    obtain ⟨k, hk, rfl, hJs, hnx⟩ := hrel
    have hcx : k < len → wr.cell? (ad.add k) = some (.int .i64 (zs[k]?.getD 0)) := fun h => (hnx.cell (p := ad.add k) (by rw [Go.Proofs.YtmkchdlkpbnldaaGreatDoorW.PrintWords.add_block]; exact hb)).trans (hc k h)
    by_cases hlt : k < len
    · obtain ⟨fn, tmps, assign, body, hy, hR⟩ := hY _ (zs[k]?.getD 0) wr hJs (by rw [upto_length]; exact hlt)
      have hcx' := hcx hlt
      gi_wp2
      refine hR.mono ?_
      rintro e W3 (⟨rfl, hJ3, hk3⟩ | ⟨rfl, hJx3⟩)
      · gi_wp2
        go_roundw
        case rel => exact ⟨k + 1, by omega, by simp, by rw [upto_succ]; exact hJ3, hnx.trans hk3⟩
        case measure => simp [intOf]; omega
      · gi_wp2
        refine bodyPost_ret (results_none rfl _ _ _) rfl ?_
        exact ⟨⟨_, rfl⟩, .inr ⟨_, ⟨k + 1, by omega, (upto_succ _ _).symm⟩, hJx3⟩⟩
    · obtain rfl : k = len := by omega
      gi_wp2
      go_end0
      exact ⟨⟨_, rfl⟩, .inl ⟨_, rfl, hJs⟩⟩
def IntsAt (n₀ : Nat) (W : World) (sv : Value) (zs : List Int) : Prop := ∃ A c, sv = .slice A zs.length c ∧ (0 < zs.length → ∃ ad : Addr, A = some ad ∧ ad.block < n₀ ∧ ∀ j, j < zs.length → W.cell? (ad.add j) = some (.int .i64 (zs[j]?.getD 0)))
theorem IntsAt.below {n₀ : Nat} {A B : World} (h : Below n₀ A B) {sv : Value} {zs : List Int} : IntsAt n₀ A sv zs → IntsAt n₀ B sv zs := fun ⟨P, c, e, hp⟩ => ⟨P, c, e, fun hz => by
  obtain ⟨ad, ha, hb, hc⟩ := hp hz
  exact ⟨ad, ha, hb, fun j hj => (h.cell (p := ad.add j) (by rw [Go.Proofs.YtmkchdlkpbnldaaGreatDoorW.PrintWords.add_block]; exact hb)).trans (hc j hj)⟩⟩
set_option maxRecDepth 100000 in
set_option maxHeartbeats 1000000 in
theorem values1_nil_in (F : Fence) (n : Nat) (h7 : F.fn 94) (hro : F.round = none) (l Bs : Nat) (A : Option Addr) (c : Nat) (J : List Int → World → Prop) (W : World) (hBs : W.cell? ⟨Bs, 0, none⟩ = some (.slice A 0 c)) (h0 : J [] W) :
    CallsIn F n Tryz.prog 94 #[.func (.yield l) #[] #[], .pointer (some ⟨Bs, 0, none⟩)] W fun e W' => (∃ v, e = .returned v) ∧ J [] W' := by
  refine callsIn_of_wp Tryz.func94 rfl h7 ?_ hro
  simp only [Tryz.ntmps94, List.size_toArray, List.length_cons, List.length_nil, Nat.reduceAdd, Nat.reduceSub, Array.replicate_succ, Array.replicate_zero, List.push_toArray, List.append_toArray, List.nil_append, List.cons_append]
  gi_wp2
  gi_loopw [7] (fun i wr => i = .int .i64 0 ∧ J [] wr) (fun _ _ => 0)
  case atStart => exact ⟨rfl, h0⟩
  case round =>
    obtain ⟨rfl, hJs⟩ := hrel
    gi_wp2
    go_end0
    exact ⟨⟨_, rfl⟩, hJs⟩
theorem values_stops (F : Fence) (n : Nat) (h7 : F.fn 94) (hro : F.round = none) (hn : 1 ≤ n) (Bs n₀ : Nat) (sv : Value) (zs : List Int) (hreach : zs.length * 8 ≤ 140737488351232) (w : World) (hBs : Bs < w.heap.size) (hn₀ : n₀ ≤ w.heap.size)
    (hc : w.cell? ⟨Bs, 0, none⟩ = some sv) (hI : IntsAt n₀ w sv zs) :
    SeqStopsK F n Tryz.prog 94 #[.pointer (some ⟨Bs, 0, none⟩)] (fun x : Int => #[Value.int .i64 x]) (Below n₀) (fun ys => ys = zs) (fun pre => pre <+: zs) zs.length w := fun l J Jx W hW _ _ hY h0 => by
  have hc' := (hW.cell (p := ⟨Bs, 0, none⟩) hBs).trans hc
  obtain ⟨A, c, rfl, hp⟩ := hI.below (hW.mono hn₀)
  by_cases hz : 0 < zs.length
  · obtain ⟨ad, rfl, hb, hcs⟩ := hp hz
    refine (values1_in F n h7 hro hn l Bs n₀ zs.length c ad zs hreach hb J Jx hY W hc' hcs h0).mono ?_
    rintro e W' ⟨he, ⟨ys, rfl, hj⟩ | ⟨pre, ⟨k, hk, rfl⟩, hj⟩⟩
    · exact ⟨he, .inl ⟨_, upto_all zs, hj⟩⟩
    · exact ⟨he, .inr ⟨_, by rw [upto_take zs hk]; exact List.take_prefix _ _, hj⟩⟩
  · obtain rfl : zs = [] := List.eq_nil_of_length_eq_zero (by omega)
    exact (values1_nil_in F n h7 hro l Bs A c J W hc' h0).mono fun e W' ⟨he, hj⟩ => ⟨he, .inl ⟨_, rfl, hj⟩⟩
theorem infoInt : (Tryz.prog.info? 3).map (fun i => (i.zero, i.size, i.bytes)) = some (some (.int .i64 0), 1, 8) := by kernel_rfl
set_option maxRecDepth 100000 in
set_option maxHeartbeats 2000000 in
theorem append_in (F : Fence) (n : Nat) (h3 : F.fn 106) (h5 : F.fn 94) (hro : F.round = none) (hn : 3 ≤ n) (zs : List Int) (hlen : zs.length ≤ 1000000) (w : World) (Bs : Nat) (sv : Value) (hBs : Bs < w.heap.size) (hsv : w.cell? ⟨Bs, 0, none⟩ = some sv) (hI : IntsAt w.heap.size w sv zs) :
    CallsIn F n Tryz.prog 106 #[.slice none 0 0, .func (.func 94) #[] #[.pointer (some ⟨Bs, 0, none⟩)]] w fun e W' => ∃ v, e = .returned v ∧ W'.ownsRow w.heap.size 3 1 v zs.length (zs.map (Value.int .i64)) ∧ Below w.heap.size w W' := by
  have h1 : 1 ≤ n := by omega
  obtain ⟨i0, hi, hz0, hz1, hz2⟩ := info_parts infoInt
  refine callsIn_of_wp_marks Tryz.func106 rfl h3 ?_ hro
  simp only [Tryz.ntmps106, List.size_toArray, List.length_cons, List.length_nil, Nat.reduceAdd, Nat.reduceSub, Array.replicate_succ, Array.replicate_zero, List.push_toArray, List.append_toArray, List.nil_append, List.cons_append]
  gi_wp2
  have bO := Boxed.new w 33 (.slice none 0 0)
  have hB0 : Below w.heap.size w (w.alloc (.cells #[.slice none 0 0] 33)) := (Below.refl _ w).alloc (Nat.le_refl _) _
  refine wpIn_rangeFunc_ownG hro h1 (gf := 94) (lb := #[.pointer (some ⟨Bs, 0, none⟩)]) rfl h5 (enters_of Tryz.func94 (by kernel_rfl) rfl)
    (values_stops F (n - 1) h5 hro (by omega) Bs w.heap.size sv zs (by omega) _ (by simp; omega) (by simp) ((hB0.cell (p := ⟨Bs, 0, none⟩) hBs).trans hsv) (hI.below hB0)) belowK_t (belowK_b (by simp)) (Below.refl _ _) (fun _ => rfl)
    (fun pre W => (∃ v, Boxed W w.heap.size 33 v ∧ W.ownsRow w.heap.size 3 1 v pre.length (pre.map (Value.int .i64)) ∧ (v = .slice none 0 0 ↔ pre = [])) ∧ Below w.heap.size w W)
    (fun _ _ _ => False)
    (OwnFrom.and (Own.from (holdsRow_own w.heap.size w.heap.size 33 3 1 (fun pre : List Int => pre.length) (fun pre => pre.map (Value.int .i64)) (fun pre v => v = .slice none 0 0 ↔ pre = [])) _) (ownFrom_below (Nat.le_refl _) (by simp)))
    (fun _ _ _ _ _ hs _ _ => hs)
    ⟨⟨_, bO, World.ownsRow_nil _ _ _ _, by simp⟩, hB0⟩
    (fun x => { tmps := #[.slice none 0 0, .func (.func 94) #[] #[.pointer (some ⟨Bs, 0, none⟩)], .pointer (some ⟨w.heap.size, 0, none⟩), undef, .slice none 0 0, .int .i64 x, .func (.func 94) #[] #[.pointer (some ⟨Bs, 0, none⟩)], .int .i64 x, undef, undef, undef, undef, undef], defers := [] }) ?assign ?body ?done ?stop
  case assign =>
    intro l x W K hK
    gi_wp2
    exact hK
  case body =>
    rintro l pre x W ⟨⟨v, hv, hrow, hnil⟩, hB⟩ hlt
    have hc := hv.cell
    gi_wp2_with (gi_at_builtin; refine wpListIn_append_own _ rfl _ _ 33 rfl w.heap.size 3 i0 (.int .i64 0) 1 8 Tryz.underlying33 hi hz0 hz1 hz2 rfl (by decide) _ _ _ rfl (hrow.alloc _) ⟨W.heap.size, 0, none⟩ 1 1 [.int .i64 x] rfl rfl (cell_one_new _ _ _) (by simp [Value.oneCell']) (by unfold maxLen; omega) (by omega) (by have := hB.size; simp; omega) ?_; intro v' w1 hown' hgrow _; obtain ⟨g', cap', rfl⟩ := ownsRow_succ hown'; obtain ⟨hv1, hv2, hr2, hk2, hb2⟩ := hv.appended (by decide) hrow hB.size (Nat.le_refl _) hown' hgrow; have hc1 := hv1.cell; have hf1 := hv1.frozen)
    exact ⟨hk2.from _, hb2, ⟨_, hv2, by simpa using hr2, by simp⟩, hB.trans hb2⟩
  case done =>
    rintro D ys W hD rfl ⟨⟨v, hv, hrow, hnil⟩, hB⟩ hK
    have hc := hv.cell
    gi_wp2
    refine ⟨by simp, .inl ⟨_, _, rfl, run_takeDeferred hK, ?_⟩⟩
    exact ⟨_, results_tmp rfl _ _ _, v, rfl, ownsRow_putObj hrow _ hK rfl, hB.trans (belowK_b (w := w) (Nat.le_refl _) W D _ _ (by simp at hD; omega) hK rfl rfl)⟩
  case stop =>
    rintro D c pre W _ _ h _
    exact h.elim
end Go.Proofs.YtmkchdlkpbnldaaGreatDoor.PB
namespace Go.Proofs.YtmkchdlkpbnldaaGreatDoor.PB
open Go.RowKit Go.Proofs.YtmkchdlkpbnldaaGreatDoorW.PrintWords Go.Proofs.YtmkchdlkpbnldaaGreatDoorW.PrintLast Go.Proofs.YtmkchdlkpbnldaaGreatDoorW.PrintMore Go.Proofs.YtmkchdlkpbnldaaGreatDoorMine
set_option linter.unusedVariables false
def tzTab : List Int := [0, 1, 56, 2, 57, 49, 28, 3, 61, 58, 42, 50, 38, 29, 17, 4, 62, 47, 59, 36, 45, 43, 51, 22, 53, 39, 33, 30, 24, 18, 12, 5, 63, 55, 48, 27, 60, 41, 37, 16, 46, 35, 44, 21, 52, 32, 23, 11, 54, 26, 40, 15, 34, 20, 31, 10, 25, 14, 19, 9, 13, 8, 7, 6]
def Tab (w : World) : Prop := ∀ j, j < 64 → w.cell? ⟨0, j, none⟩ = some (.int .u8 (tzTab.getD j 0))
theorem Tab.below {w W : World} (h : Tab w) (hb : Below w.heap.size w W) : Tab W := fun j hj =>
  (hb.cell (p := ⟨0, j, none⟩) (World.block_lt_of_cell? w _ (h j hj))).trans (h j hj)
def tzIdx (x : Int) : Int := IntKind.u64.wrap (bits BinOp.and IntKind.u64 x (IntKind.u64.wrap (-x)) * 285870213051353865) / 288230376151711744
theorem tzIdx_le (x : Int) : 0 ≤ tzIdx x ∧ tzIdx x < 64 := by
  unfold tzIdx
  generalize bits BinOp.and IntKind.u64 x (IntKind.u64.wrap (-x)) * 285870213051353865 = y
  have h0 : 0 ≤ IntKind.u64.wrap y ∧ IntKind.u64.wrap y < 18446744073709551616 := by
    have e : IntKind.u64.wrap y = y % 18446744073709551616 := by simp [IntKind.wrap, IntKind.bits, IntKind.signed]
    rw [e]
    omega
  omega
set_option maxRecDepth 100000 in
set_option maxHeartbeats 2000000 in
theorem tz_calls (x : Int) (h0 : 0 < x) (w : World) (T : List Int) (hT : ∀ j, j < 64 → w.cell? ⟨0, j, none⟩ = some (.int .u8 (T.getD j 0))) :
    Calls Tryz.prog 71 #[.int .u64 x] w fun e w' => e = .returned (.int .i64 (wrap64 (T.getD (tzIdx x).toNat 0))) ∧ w' = w := by
  have hx : ((x == 0) : Bool) = false := beq_eq_false_iff_ne.mpr (by omega)
  have hi := tzIdx_le x
  unfold tzIdx at hi
  have hi := am_ hi
  go_enter Tryz.func71, Tryz.ntmps71
  go_wp2_with fail
  all_goals first | (rename_i hf; exact absurd hi.out hf) | skip
  go_ret
  exact ⟨by simp [tzIdx], rfl⟩
def tzOf (x : Int) : Int := tzTab.getD (tzIdx x).toNat 0
theorem tzTab_le : ∀ j, j < 64 → 0 ≤ tzTab.getD j 0 ∧ tzTab.getD j 0 < 64 := by decide
theorem tzOf_le (x : Int) : 0 ≤ tzOf x ∧ tzOf x < 64 := tzTab_le _ (by have := tzIdx_le x; omega)
theorem tz_holds (x : Int) (h0 : 0 < x) (w : World) (hT : Tab w) :
    Calls Tryz.prog 71 #[.int .u64 x] w fun e w' => e = .returned (.int .i64 (tzOf x)) ∧ Drawn0 w w' := by
  refine (tz_calls x h0 w tzTab hT).mono ?_
  rintro e w' ⟨rfl, rfl⟩
  have h := tzOf_le x
  refine ⟨?_, ⟨0, rfl⟩⟩
  rw [show wrap64 (tzTab.getD (tzIdx x).toNat 0) = tzOf x from by show wrap64 (tzOf x) = tzOf x; unfold wrap64; omega]
end Go.Proofs.YtmkchdlkpbnldaaGreatDoor.PB
namespace Go.Proofs.YtmkchdlkpbnldaaGreatDoor.PB
open Go.RowKit Go.Proofs.YtmkchdlkpbnldaaGreatDoorW.PrintWords Go.Proofs.YtmkchdlkpbnldaaGreatDoorW.PrintLast Go.Proofs.YtmkchdlkpbnldaaGreatDoorW.PrintMore
attribute [local go_sem] max2_int min2_int max_two min_two max_three min_three max_four min_four
open Go.Proofs.YtmkchdlkpbnldaaGreatDoorMine
set_option linter.unusedVariables false
set_option linter.unusedSimpArgs false
def slices_Delete_int_int.f (l0 : List Int) (a1 a2 : Int) : Option (List Int) := if 0 ≤ a1 then (if a2 = a1 + 1 then (if a1 < (l0.length : Int) then some (l0.eraseIdx a1.toNat) else none) else none) else none
set_option maxRecDepth 100000 in
set_option maxHeartbeats 800000 in
theorem slices_Delete_int_int.own (v : Value) (base : Nat) (ok : Nat → Prop) (l0 : List Int) (a1 a2 : Int) (r : List Int) (w : World) (ho : Kd.R (Kd.int .i64) 3 w base ok v l0) (h : slices_Delete_int_int.f l0 a1 a2 = some r) :
    Calls Tryz.prog 83 #[v, .int .i64 a1, .int .i64 a2] w fun e w' => ∃ v0_ : Value, e = .returned v0_ ∧ Kd.R (Kd.int .i64) 3 w' base ok v0_ r ∧ v0_.ownBlock = v.ownBlock ∧ w.grownBy w' v.ownBlock := by
  unfold slices_Delete_int_int.f at h
  split at h
  · rename_i h0
    split at h
    · rename_i h1
      split at h
      · rename_i h2
        injection h with h; subst h
        obtain ⟨i, rfl⟩ := Int.eq_ofNat_of_zero_le h0
        have hi : i < l0.length := by omega
        subst h1
        rw [Int.toNat_natCast]
        obtain ⟨hok, inner, how, hr⟩ := ho
        have he : inner = l0.map (Value.int .i64) := Kd.reps_encs hr
        rcases how.2 with ⟨_, hn⟩ | ⟨g, cap, cur, rfl, hg, hh, hle, hcap, hsz, ht⟩
        · omega
        have hm : maxLen ≤ 9223372036854775807 := by decide
        have ht' : cur.toList.take l0.length = l0.map (Value.int .i64) := by rw [← he, ← ht, show (Kd.int .i64).sz = 1 from rfl, Nat.mul_one]
        have hH := holds_of_blockI hh ht'
        have hsz' : cur.size = cap := by rw [hsz, show (Kd.int .i64).sz = 1 from rfl, Nat.mul_one]
        have hd := del_holds g cap i l0.toArray w hH (by simpa using hle) (by omega) (by simp; omega)
        simp only [List.size_toArray] at hd
        refine (show Calls Tryz.prog 83 #[.slice (some ⟨g, 0, none⟩) l0.length cap, .int .i64 (i : Int), .int .i64 ((i : Int) + 1)] w _ from hd).mono ?_
        rintro e w' ⟨rfl, q, rfl⟩
        obtain ⟨ts, hts⟩ : ∃ ts : List Int, ts = l0.take i ++ l0.drop (i + 1) ++ List.replicate (i + 1 - i) 0 := ⟨_, rfl⟩
        have htl : ts.length = l0.length := by rw [hts]; simp; omega
        have hlen : (l0.eraseIdx i).length = i + (l0.length - (i + 1)) := by rw [List.length_eraseIdx, if_pos hi]; omega
        rw [← hts]
        have hgb := Go.grownBy_sortedI (w := w) (g := g) (n := q) (os := #[]) ts.toArray
        have hhp := Go.heap_sortedI (w := w) (g := g) (n := q) (os := #[]) ts.toArray hh
        have hgw : Go.Sort.grow (Go.Sort.putRow (Value.int .i64) (Go.Sort.ahead w q) g 0 ts.toArray) #[] = Go.Sort.putRow (Value.int .i64) (Go.Sort.ahead w q) g 0 ts.toArray := by simp [Go.Sort.grow]; rfl
        rw [hgw] at hgb hhp
        refine ⟨_, rfl, ⟨hok, (l0.eraseIdx i).map (Value.int .i64), ⟨by simp [Kd.int, Kd.scalar], .inr ⟨g, cap, _, by rw [hlen], hg, hhp, by omega, hcap, by simp [Go.Sort.putCells, hsz], ?_⟩⟩, Kd.reps_scalar _⟩, rfl, hgb⟩
        rw [show (Kd.int .i64).sz = 1 from rfl, Nat.mul_one]
        have htk := Go.take_putCellsI cur ts (by omega)
        have : (l0.eraseIdx i).length ≤ ts.length := by omega
        rw [← Nat.min_eq_left this, ← List.take_take, htk, ← List.map_take]
        congr 1
        rw [hts, List.eraseIdx_eq_take_drop_succ]
        rw [List.take_append_of_le_length, List.take_of_length_le]
        all_goals (simp; try omega)
      cases h
    cases h
  cases h
end Go.Proofs.YtmkchdlkpbnldaaGreatDoor.PB
namespace Go.Proofs.YtmkchdlkpbnldaaGreatDoor.PB
open Go.RowKit Go.Proofs.YtmkchdlkpbnldaaGreatDoorW.PrintWords Go.Proofs.YtmkchdlkpbnldaaGreatDoorW.PrintLast Go.Proofs.YtmkchdlkpbnldaaGreatDoorW.PrintMore Go.Proofs.YtmkchdlkpbnldaaGreatDoorMine Go.Shelf
set_option linter.unusedVariables false
set_option linter.unusedSimpArgs false
set_option maxRecDepth 100000 in
set_option maxHeartbeats 2000000 in
theorem len64_small (n : Int) (h0 : 0 ≤ n) (h1 : n ≤ 12) (w : World) :
    Calls Tryz.prog 104 #[.int .u64 n] w fun e w' => ∃ v : Int, e = .returned (.int .i64 v) ∧ 0 ≤ v ∧ v ≤ 4 ∧ w' = w := by
  have hn : n = 0 ∨ n = 1 ∨ n = 2 ∨ n = 3 ∨ n = 4 ∨ n = 5 ∨ n = 6 ∨ n = 7 ∨ n = 8 ∨ n = 9 ∨ n = 10 ∨ n = 11 ∨ n = 12 := by omega
  clear h0 h1
  go_enter Tryz.func104, Tryz.ntmps104
  rcases hn with rfl | rfl | rfl | rfl | rfl | rfl | rfl | rfl | rfl | rfl | rfl | rfl | rfl <;> go_wp2_with fail
  all_goals go_ret
  all_goals exact ⟨_, rfl, by decide +kernel, by decide +kernel, rfl⟩
set_option maxRecDepth 100000 in
set_option maxHeartbeats 2000000 in
theorem len_small (n : Int) (h0 : 0 ≤ n) (h1 : n ≤ 12) (w : World) :
    Calls Tryz.prog 90 #[.int .u64 n] w fun e w' => ∃ v : Int, e = .returned (.int .i64 v) ∧ 0 ≤ v ∧ v ≤ 4 ∧ w' = w := by
  go_enter Tryz.func90, Tryz.ntmps90
  go_wp2_with (go_at_call 104; refine park ?_)
  refine ⟨?_⟩
  refine (len64_small n h0 h1 w).mono ?_
  rintro e w' ⟨v, rfl, hv0, hv1, rfl⟩
  go_wp2_with fail
  go_ret
  exact ⟨v, rfl, hv0, hv1, rfl⟩
end Go.Proofs.YtmkchdlkpbnldaaGreatDoor.PB
namespace Go.Proofs.YtmkchdlkpbnldaaGreatDoor.PB
open Go.RowKit Go.Proofs.YtmkchdlkpbnldaaGreatDoorW.PrintWords Go.Proofs.YtmkchdlkpbnldaaGreatDoorW.PrintLast Go.Proofs.YtmkchdlkpbnldaaGreatDoorW.PrintMore
attribute [local go_sem] max2_int min2_int max_two min_two max_three min_three max_four min_four
open Go.Proofs.YtmkchdlkpbnldaaGreatDoorMine
set_option linter.unusedVariables false
set_option linter.unusedSimpArgs false
def bits_TrailingZeros64.f (a0 : Int) : Option Int := if 0 < a0 then some (tzOf a0) else none
theorem bits_TrailingZeros64.calls (a0 : Int) (r : Int) (w : World) (h : bits_TrailingZeros64.f a0 = some r) (hT : Tab w := by first | exact HT.out | exact Tab.below HT.out HB.out | exact Tab.below HT.out (by repeat (first | exact HB.out | apply below_alloc | apply pw_below_drewN | apply below_drew1))) :
  Calls Tryz.prog 71 #[.int .u64 a0] w fun e w' => e = .returned (.int .i64 r) ∧ Drawn0 w w' := by
 unfold bits_TrailingZeros64.f at h
 split at h
 ·injection h with h; subst h
  exact tz_holds a0 ‹_› w hT
 cases h
end Go.Proofs.YtmkchdlkpbnldaaGreatDoor.PB
