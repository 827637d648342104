-- Written by this session's wip/myprint.py (the kit's print.py, with hand-written chunks). Lean checks it.
import Derived.Test.YtefkbmhkhpekjaaPBx0
import Derived.Test.YtefkbmhkhpekjaaPBx118
namespace Go.Proofs.Ytefkbmhkhpekjaa.PB
open Go.RowKit Go.Proofs.YtefkbmhkhpekjaaW.PrintWords Go.Proofs.YtefkbmhkhpekjaaW.PrintLast Go.Proofs.YtefkbmhkhpekjaaW.PrintMore
attribute [local go_sem] max2_int min2_int max_two min_two max_three min_three max_four min_four   -- for this text's walks alone
open Go.Proofs.YtefkbmhkhpekjaaMine
set_option linter.unusedVariables false
set_option linter.unusedSimpArgs false

/-! ### laws_markDoSS: function 80 -/
def laws_markDoSS.l0 : Nat → List (List S85) → Int → Int → Option (Int × List (List S85))
  | 0, _, _, _ => none
  | k + 1, x0, x1, x5 => if x5 < (x0.length : Int) then ((laws_markDoS.f k (x0.getD x5.toNat []) x1).bind fun b => laws_markDoSS.l0 k (x0.set x5.toNat b.2) b.1 (wrap64 (x5 + 1))) else some (x1, x0)
def laws_markDoSS.f (k : Nat) (l0 : List (List S85)) (a1 : Int) : Option (Int × List (List S85)) := laws_markDoSS.l0 k l0 a1 0
set_option maxRecDepth 100000 in
set_option maxHeartbeats 8000000 in
theorem laws_markDoSS.calls (k : Nat) (P0 : Nat → Prop) (v : Value) (l0 : List (List S85)) (a1 r1 : Int) (r2 : List (List S85)) (w0 w : World) (hB : Below w0.heap.size w0 w) (ho : Kd.S (Kd.slice 85 k85) 82 w w0.heap.size P0 v l0) (h : laws_markDoSS.f k l0 a1 = some (r1, r2)) :
  Calls Try.prog 80 #[v, .int .i64 a1] w fun e w' => e = .returned (.int .i64 r1) ∧ Kd.S (Kd.slice 85 k85) 82 w' w0.heap.size (fun k => P0 k ∨ w.heap.size ≤ k) v r2 ∧ Below w0.heap.size w0 w' ∧ Kept w w' P0 := by
 obtain ⟨A, c, rfl⟩ := Kd.S_slice ho
 have hl : l0.length ≤ 9223372036854775807 := (Kd.R_reads' (Kd.S_R ho)).2.2.2.1
 have HO := am_ ho
 have HB := am_ hB
 have H := am_ (show laws_markDoSS.l0 k l0 a1 0 = some (r1, r2) from h)
 clear ho hB h
 go_enter Try.func80, Try.ntmps80
 go_wp2_with fail
 go_loopg [1, 5] k (fun kq v1 v5 w' => ∃ (a x : Int) (xs : List (List S85)), v1 = .int .i64 a ∧ v5 = .int .i64 x ∧ 0 ≤ x ∧ x ≤ l0.length ∧ Aside0 (laws_markDoSS.l0 kq xs a x = some (r1, r2)) ∧ Aside0 (kq ≤ k) ∧ Aside0 (xs.length = l0.length) ∧
  Aside0 (Kd.S (Kd.slice 85 k85) 82 w' w0.heap.size (fun k => P0 k ∨ w.heap.size ≤ k) (.slice A l0.length c) xs) ∧ Aside0 (Below w0.heap.size w0 w') ∧ Aside0 (Kept w w' P0))
 case atStart => exact ⟨a1, 0, l0, rfl, rfl, by omega, by omega, H, ⟨Nat.le_refl _⟩, ⟨rfl⟩, ⟨Kd.S_mono HO.out (fun _ h => .inl h)⟩, HB, ⟨Kept.refl _ _⟩⟩
 case round =>
  obtain ⟨a, x, xs, rfl, rfl, hx0, hx1, HA, HK, HL, HS, HBr, HKr⟩ := hrel
  cases gk with
  | zero => exact absurd HA.out (by simp [laws_markDoSS.l0])
  | succ k1 =>
   have HH := HA.out
   clear HA
   simp only [laws_markDoSS.l0] at HH
   by_cases hlt : x < (l0.length : Int)
   ·rw [if_pos (by rw [HL.out]; exact hlt)] at HH
    obtain ⟨⟨b1, b2⟩, hb, HH⟩ := Option.bind_eq_some_iff.mp HH
    have HBD := am_ hb
    have HN := am_ HH
    clear hb HH
    obtain ⟨g, cap, eA, hg0, hgl, cells, hcells⟩ := Kd.S_form HS.out (by have := HL.out; omega)
    have hS := HS.out
    rw [HL.out] at eA
    rw [eA] at hS
    obtain ⟨oki, cs, hlen, hM, hcc, hoki, hH⟩ := Kd.S_lend hS [] x hx0 (by omega)
    obtain ⟨u, rfl, hR⟩ := hM
    have hc : wr.cell? ⟨g, x.toNat, none⟩ = some u := by have h1 := hcc 0 u rfl; rwa [show x.toNat * (Kd.slice 85 k85).sz + 0 = x.toNat from Nat.mul_one _] at h1
    have HRr := am_ hR
    have HHH := am_ hH
    have HOK := am_ hoki
    have HCE := am_ hcells
    have hf := blk_frozen hcells x.toNat
    clear hcells hR hH hoki hS hcc
    go_wp2_with (go_at_call 118; refine park ?_)
    refine ⟨?_⟩
    have HOw := am_ (show ∀ k, some k = (Value.slice (some ⟨g, 0, none⟩) l0.length c).ownBlock → k = g from fun k hk => by simp only [Value.ownBlock] at hk; injection hk)
    refine (laws_markDoS.calls k1 oki u _ a b1 b2 w0 _ HBr.out HRr.out HBD.out).mono ?_
    rintro e w2 ⟨rfl, hR2, hB2, hK2⟩
    clear hc hf
    have HS2 := am_ (Kd.H_back (Kd.H_kept (Kd.H_widen HHH.out) hK2 (fun k _ h2 h3 => h2 (.inl h3))) (Kd.M_row hR2) (fun k hk => hk.imp id (fun h => ⟨.inr (Nat.le_trans HKr.out.1 h), h⟩)))
    have HBn := am_ hB2
    have HKn := am_ (HKr.out.then_ hK2 (fun k hk => (HOK.out k hk).1))
    clear hR2 hB2 hK2
    go_wp2_with fail
    go_roundg k1
    case measure => have := HK.out; omega
    case rel => exact ⟨b1, x + 1, _, rfl, rfl, by omega, by omega, ⟨by rw [show x + 1 = wrap64 (x + 1) by unfold wrap64; omega]; exact HN.out⟩, ⟨by have := HK.out; omega⟩, ⟨by rw [List.length_set]; exact HL.out⟩, HS2, HBn, HKn⟩
   ·rw [if_neg (by rw [HL.out]; exact hlt)] at HH
    simp only [Option.some.injEq, Prod.mk.injEq] at HH
    obtain ⟨rfl, rfl⟩ := HH
    go_wp2_with fail
    go_ret
    exact ⟨rfl, HS.out, HBr.out, HKr.out⟩


end Go.Proofs.Ytefkbmhkhpekjaa.PB
