/- What is drawn: the reader of a code goes on, and hands out a number from 0 to n-1. Plain Lean over the printed functions. -/
import Derived.Test.YtmkchdlkpbnldaaPBx13
import Derived.Laws.BitsLemmas
namespace Go.Proofs.Ytmkchdlkpbnldaa.Pure
open Go.RowKit Go.Proofs.Ytmkchdlkpbnldaa.PB Go.Proofs.YtmkchdlkpbnldaaW.PrintWords Go.Proofs.YtmkchdlkpbnldaaW.PrintLast

theorem w64 {x : Int} (h0 : -9223372036854775808 ≤ x) (h1 : x < 9223372036854775808) : wrap64 x = x := by unfold wrap64; omega
theorem tmod_lt {a b : Int} (ha : 0 ≤ a) (hb : 0 < b) : 0 ≤ Int.tmod a b ∧ Int.tmod a b < b :=
  ⟨Int.tmod_nonneg _ ha, Int.tmod_lt_of_pos _ hb⟩
theorem xor_nonneg {x y : Int} (hx : 0 ≤ x) (hx1 : x < 4611686018427387904) (hy : 0 ≤ y) (hy1 : y < 4611686018427387904) : 0 ≤ Go.bits .xor .i64 x y := by
  obtain ⟨a, rfl⟩ := Int.eq_ofNat_of_zero_le hx
  obtain ⟨b, rfl⟩ := Int.eq_ofNat_of_zero_le hy
  have hp : (2 : Nat) ^ IntKind.i64.bits = 18446744073709551616 := by decide
  have ha' : a % 2 ^ IntKind.i64.bits = a := Nat.mod_eq_of_lt (by rw [hp]; omega)
  have hb' : b % 2 ^ IntKind.i64.bits = b := Nat.mod_eq_of_lt (by rw [hp]; omega)
  simp only [Go.bits, BitVec.ofInt_natCast, BitVec.toNat_xor, BitVec.toNat_ofNat, ha', hb']
  have hx2 : a ^^^ b < 2 ^ 62 := Nat.xor_lt_two_pow (by omega) (by omega)
  generalize a ^^^ b = c at *
  rw [IntKind.wrap_i64]
  omega
theorem tdiv_le {a b : Int} (ha : 0 ≤ a) (hb : 0 < b) : 0 ≤ Int.tdiv a b ∧ Int.tdiv a b ≤ a := by
  rw [Int.tdiv_eq_ediv_of_nonneg ha]
  exact ⟨Int.ediv_nonneg ha (by omega), Int.ediv_le_self _ ha⟩
theorem rd_u8 {b : List Int} (hb : ∀ x ∈ b, 0 ≤ x ∧ x ≤ 255) (i : Int) : 0 ≤ rd b i ∧ rd b i ≤ 255 := by
  unfold rd
  rw [List.getD_eq_getElem?_getD]
  rcases h : b[i.toNat]? with _ | v
  · simp
  · simpa using hb v (List.mem_of_getElem? h)

/-- The reader at place p of a code b of bytes: one more place; a number below n. -/
theorem pick_some (k : Nat) (b : List Int) (p n : Int) (hl : b.length ≤ 2000) (hb : ∀ x ∈ b, 0 ≤ x ∧ x ≤ 255) (h0 : 0 ≤ p) (hp : p ≤ 100000000) :
    ∃ r, spec_l6Rd_pick.f (k + 1) b p n = some (r, p + 1) ∧ 0 ≤ r ∧ (1 ≤ n → r < n) ∧ (n < 1 → r = 0) := by
  unfold spec_l6Rd_pick.f
  have e1 : wrap64 (p + 1) = p + 1 := w64 (by omega) (by omega)
  have e2 : wrap64 (p + 1 - 1) = p := by rw [w64 (by omega) (by omega)]; omega
  rw [e1]
  by_cases hn : n < 1
  · rw [if_pos hn]
    exact ⟨0, by simp [spec_l6Rd_pick.j0], by omega, by omega, fun _ => rfl⟩
  rw [if_neg hn]
  by_cases hz : b.length = 0
  · rw [show ((b.length : Int) == 0) = true by simp; exact List.eq_nil_of_length_eq_zero hz]
    exact ⟨0, by simp [spec_l6Rd_pick.j0], by omega, by omega, fun _ => rfl⟩
  rw [show ((b.length : Int) == 0) = false by simp; intro h; exact hz (by rw [h]; rfl)]
  simp only [spec_l6Rd_pick.j0, e2]
  rw [if_neg (by simp)]
  by_cases hc : p < (b.length : Int)
  · rw [if_pos hc, if_pos h0, if_neg (by omega)]
    have hr := rd_u8 hb p
    rw [w64 (x := rd b p) (by omega) (by omega)]
    have := tmod_lt hr.1 (show 0 < n by omega)
    exact ⟨_, rfl, this.1, fun _ => this.2, fun h => absurd h hn⟩
  · have hL : 0 < (b.length : Int) := by omega
    have m1 := tmod_lt h0 hL
    have e3 : wrap64 (p * 7) = p * 7 := w64 (by omega) (by omega)
    have e4 : wrap64 (p * 7 + 3) = p * 7 + 3 := w64 (by omega) (by omega)
    have m2 := tmod_lt (show 0 ≤ p * 7 + 3 by omega) hL
    rw [if_neg hc, if_neg (by omega), if_pos m1.1, if_pos m1.2, e3, e4, if_pos m2.1, if_pos m2.2, if_neg (by omega)]
    generalize Int.tmod p (b.length : Int) = i at *
    generalize Int.tmod (p * 7 + 3) (b.length : Int) = j at *
    have r1 := rd_u8 hb i
    have r2 := rd_u8 hb j
    have d1 := tdiv_le h0 hL
    generalize rd b i = x at *
    generalize rd b j = y at *
    generalize Int.tdiv p (b.length : Int) = z at *
    have a1 : wrap64 x = x := w64 (by omega) (by omega)
    have a2 : wrap64 (x * 131) = x * 131 := w64 (by omega) (by omega)
    have a3 : wrap64 y = y := w64 (by omega) (by omega)
    have a4 : wrap64 (y * 1117) = y * 1117 := w64 (by omega) (by omega)
    have a5 : wrap64 (x * 131 + y * 1117) = x * 131 + y * 1117 := w64 (by omega) (by omega)
    have a6 : wrap64 (p * 29) = p * 29 := w64 (by omega) (by omega)
    have a7 : wrap64 (x * 131 + y * 1117 + p * 29) = x * 131 + y * 1117 + p * 29 := w64 (by omega) (by omega)
    have a8 : wrap64 z = z := w64 (by omega) (by omega)
    have a9 : wrap64 (z * 53) = z * 53 := w64 (by omega) (by omega)
    have b1 : wrap64 (x * 131 + y * 1117 + p * 29 + z * 53) = x * 131 + y * 1117 + p * 29 + z * 53 := w64 (by omega) (by omega)
    rw [a1, a2, a3, a4, a5, a6, a7, a8, a9, b1]
    have hs : 0 ≤ x * 131 + y * 1117 + p * 29 + z * 53 := by omega
    have hs1 : x * 131 + y * 1117 + p * 29 + z * 53 < 4611686018427387904 := by omega
    generalize x * 131 + y * 1117 + p * 29 + z * 53 = s at *
    have d2 := tdiv_le hs (show (0 : Int) < 64 by omega)
    rw [w64 (x := Int.tdiv s 64) (by omega) (by omega)]
    have := tmod_lt (xor_nonneg hs hs1 d2.1 (by omega)) (show 0 < n by omega)
    exact ⟨_, rfl, this.1, fun _ => this.2, fun h => absurd h hn⟩
end Go.Proofs.Ytmkchdlkpbnldaa.Pure
