/- Proved: The program's TurnSeen returns what the reference's returns, for all arguments. The statement is the given one (for every input that it speaks of the law answers true); no condition is added. The text was written by this session's wip/myprint.py. -/
import Derived.Test.YtefkbmhkhpekjaaRows
import Derived.Test.YtefkbmhkhpekjaaFacts
import Derived.JoinedOf
import Derived.Test.YtefkbmhkhpekjaaJFnExactTurnSeenx1
import Derived.Test.YtefkbmhkhpekjaaJFnExactTurnSeenyPureFnExactTurnSeen
import Derived.Test.YtefkbmhkhpekjaaOpenRows
import Derived.WalkKit
import Derived.ProofKit
import Derived.OpenShut
import Derived.ShutString
import Derived.ChangeOld
import Derived.Below
import Derived.SizedLaws
import Derived.Test.YtefkbmhkhpekjaaWSized
namespace Go.Proofs.Ytefkbmhkhpekjaa.fnExactTurnSeen
open Go.ChangeShapes Go.WideShapes Go.ChangeAt Go.RowKit
open Go.ChangeMaps (open_string shut_string)
set_option linter.unusedVariables false
theorem own : ownKnob Try.prog.godebug = none := by kernel_rfl
theorem laidOut : laidOutB Try.prog = true := by kernel_rfl
def IsRow (k : IntKind) (w : World) (a : Option Addr) (len cap : Nat) (zs : List Int) : Prop :=
  (a = none ∧ len = 0 ∧ cap = 0 ∧ zs = []) ∨
  ∃ x, a = some x ∧ len ≤ cap ∧ cap ≤ maxLen ∧ zs.length = cap ∧ (∀ i, i < zs.length → w.cell? (x.add i) = some (.int k (zs.getD i 0))) ∧ ∀ n ∈ zs, (Lit.int k n).wf = true
set_option maxRecDepth 100000 in
theorem lifted (os : Os) (started : os.Started) (H : Type) (enc : TypeId × Value → H) :
    ReturnsInHanded {} Try.checked os 21 .any (Rows.fnExactTurnSeenSpec.pre6 enc Try.prog Try.f21 Rows.fnExactTurnSeenRow.domain false) (Rows.fnExactTurnSeenSpec.post enc Try.prog Try.f21 false true false false) := by
  refine returnsInHanded_of_change_sized (C := Try.checked) own started (by kernel_rfl) Try.func21
    (ChangeSpec.witness6 (enc := enc) (C := Try.checked) false ⟨#[], #[.agg #[.slice none 0 0], .agg #[.slice none 0 0, .slice none 0 0], .slice none 0 0], []⟩ 8 (by kernel_rfl) (by kernel_rfl) (by kernel_rfl) (by kernel_rfl)) ?_
  intro W base args ds gs before hval0 hW hcnd hsz0 _
  have hsz : (DataW.weightsEach Try.prog (Try.f21.params.toList ++ Rows.fnExactTurnSeenSpec.plain.varTypes Try.prog) (ds ++ gs)).all (· ≤ reachBytes) = true := hsz0
  have hval : ∀ (j : Nat) t v, Try.f21.params[j]? = some t → args[j]? = some v → Value.okWide Try.prog W .any base t v := hval0
  have hW' := hW
  obtain ⟨p, q, hA0, hV, rfl, hfz, hnd⟩ := hW
  have hA : DataW.TrodAll enc Try.prog W 0 (fun _ => true) true Try.f21.params.toList args.toList ds p := hA0
  rw [Try.params21] at hA hval hsz
  obtain ⟨v0, vs0, d0, ds0, p0, q0, hargs0, rfl, rfl, h0, r0⟩ := trodAll_cons hA
  obtain ⟨v1, vs1, d1, ds1, p1, q1, hargs1, rfl, rfl, h1, r1⟩ := trodAll_cons r0
  obtain ⟨v2, vs2, d2, ds2, p2, q2, hargs2, rfl, rfl, h2, r2⟩ := trodAll_cons r1
  obtain ⟨rfl, rfl, rfl⟩ := trodAll_nil r2
  obtain rfl : args = #[v0, v1, v2] := by cases args; simp_all
  obtain ⟨rfl, rfl⟩ := trodVars_none hV
  obtain ⟨cs0, rfl, hsz0'⟩ := okWide_struct Try.underlying52 (hval 0 52 v0 rfl rfl)
  have k0 := h0
  have lt0 : ∀ x ∈ p0, x.block < W.heap.size := by obtain ⟨m, hm⟩ := k0; exact DataW.trod_lt m _ _ _ hm
  obtain ⟨a0, len0, l0, ev0, hl0, w0⟩ : ∃ (A : Option Addr) (c : Nat) (l : List (List PB.S130)), cs0 = #[.slice A l.length c] ∧ l.length ≤ c ∧ Go.Proofs.YtefkbmhkhpekjaaW.PrintWords.Kd.C (Go.Proofs.YtefkbmhkhpekjaaW.PrintWords.Kd.slice 130 PB.k130) W A l.length l := by
    obtain ⟨fuel, hf⟩ := h0
    haveI : Inhabited PB.S130 := ⟨PB.z130⟩
    obtain ⟨xs, n, _, _, hlen, hxl, hfs⟩ := DataW.trod_struct Try.underlying52 hf
    match xs, hxl, hfs with
    | [y], _, hfs =>
      have g0 := hfs 0 _ rfl
      obtain ⟨l, hl⟩ := Go.Proofs.YtefkbmhkhpekjaaMine.open_rowK (α := List PB.S130) (Go.Proofs.YtefkbmhkhpekjaaW.PrintWords.Kd.slice 130 PB.k130) Try.underlying50 (by kernel_rfl) (fun n' cs' y' h' => Go.Proofs.YtefkbmhkhpekjaaMine.open_rowK (α := PB.S130) PB.k130 Try.underlying124 (by kernel_rfl) (fun n'' cs'' y'' h'' => by
        obtain ⟨a, b, c, e, _⟩ := Go.Proofs.YtefkbmhkhpekjaaMine.open_three Try.underlying130 (by kernel_rfl) rfl rfl rfl (by kernel_rfl) (by kernel_rfl) (by kernel_rfl) Try.underlying3 Try.underlying3 Try.underlying3 h''
        exact ⟨⟨a, b, c⟩, by rw [e]; exact PB.k130_mk _ ⟨a, b, c⟩⟩) h') g0
      obtain ⟨A, c, e, hc, hC⟩ := hl
      have hs1 : cs0.size = 1 := hsz0'.trans (by kernel_rfl)
      obtain ⟨v, rfl⟩ := Array.size_eq_one_iff.1 hs1
      have e2 : [v] = [Value.slice A l.length c] := e
      injection e2 with e2
      exact ⟨A, c, l, by rw [e2], hc, hC⟩
  subst ev0
  obtain ⟨cs1, rfl, hsz1'⟩ := okWide_struct Try.underlying68 (hval 1 68 v1 rfl rfl)
  have k1 := h1
  have lt1 : ∀ x ∈ p1, x.block < W.heap.size := by obtain ⟨m, hm⟩ := k1; exact DataW.trod_lt m _ _ _ hm
  obtain ⟨A1, c1, l1, B1, b1, m1, ev1, hl1, w1, hm1, u1⟩ : ∃ (A : Option Addr) (c : Nat) (l : List Int) (B : Option Addr) (b : Nat) (m : List Int), cs1 = #[.slice A l.length c, .slice B m.length b] ∧ l.length ≤ c ∧ Go.Proofs.YtefkbmhkhpekjaaW.PrintWords.Kd.C (Go.Proofs.YtefkbmhkhpekjaaW.PrintWords.Kd.int .i64) W A l.length l ∧ m.length ≤ b ∧ Go.Proofs.YtefkbmhkhpekjaaW.PrintWords.Kd.C (Go.Proofs.YtefkbmhkhpekjaaW.PrintWords.Kd.int .i64) W B m.length m := by
    obtain ⟨fuel, hf⟩ := h1
    obtain ⟨xs, n, _, _, hlen, hxl, hfs⟩ := DataW.trod_struct Try.underlying68 hf
    match xs, hxl, hfs with
    | [y, z], _, hfs =>
      have g0 := hfs 0 _ rfl
      have g1 := hfs 1 _ rfl
      have hs1 : cs1.size = 2 := hsz1'.trans (by kernel_rfl)
      obtain ⟨u, v, rfl⟩ := Go.Proofs.YtefkbmhkhpekjaaMine.arr_two hs1
      obtain ⟨l, A, c, e, hc, hC⟩ := Go.Proofs.YtefkbmhkhpekjaaMine.open_rowK (α := Int) (Go.Proofs.YtefkbmhkhpekjaaW.PrintWords.Kd.int .i64) Try.underlying22 (by kernel_rfl) (fun n' cs' y' h' => by
        obtain ⟨a, e, _⟩ := DataW.trod_int Try.underlying3 h'
        exact ⟨a, e⟩) g0
      obtain ⟨l', A', c', e', hc', hC'⟩ := Go.Proofs.YtefkbmhkhpekjaaMine.open_rowK (α := Int) (Go.Proofs.YtefkbmhkhpekjaaW.PrintWords.Kd.int .i64) Try.underlying22 (by kernel_rfl) (fun n' cs' y' h' => by
        obtain ⟨a, e, _⟩ := DataW.trod_int Try.underlying3 h'
        exact ⟨a, e⟩) g1
      have e2 : [u] = [Value.slice A l.length c] := e
      have e3 : [v] = [Value.slice A' l'.length c'] := e'
      injection e2 with e2
      injection e3 with e3
      exact ⟨A, c, l, A', c', l', by rw [e2, e3], hc, hC, hc', hC'⟩
  subst ev1
  obtain ⟨a2, len2, cap2, rfl⟩ := okWide_slice Try.underlying22 (hval 2 22 v2 rfl rfl)
  have k2 := h2
  have lt2 : ∀ x ∈ p2, x.block < W.heap.size := by obtain ⟨m, hm⟩ := k2; exact DataW.trod_lt m _ _ _ hm
  obtain ⟨l2, ev2, hl2, w2⟩ : ∃ (l : List Int), len2 = l.length ∧ l.length ≤ cap2 ∧ Go.Proofs.YtefkbmhkhpekjaaW.PrintWords.Kd.C (Go.Proofs.YtefkbmhkhpekjaaW.PrintWords.Kd.int .i64) W a2 l.length l := by
    obtain ⟨fuel, hf⟩ := h2
    obtain ⟨l, A, c, e, hc, hC⟩ := Go.Proofs.YtefkbmhkhpekjaaMine.open_rowK (α := Int) (Go.Proofs.YtefkbmhkhpekjaaW.PrintWords.Kd.int .i64) Try.underlying22 (by kernel_rfl) (fun n' cs' y' h' => by
        obtain ⟨a, e, _⟩ := DataW.trod_int Try.underlying3 h'
        exact ⟨a, e⟩) hf
    have e2 : [Value.slice a2 len2 cap2] = [Value.slice A l.length c] := e
    simp only [List.cons.injEq, Value.slice.injEq, and_true] at e2
    obtain ⟨rfl, rfl, rfl⟩ := e2
    exact ⟨l, rfl, hc, hC⟩
  subst ev2
  clear hA0 hval0 hsz0 hsz
  refine (PB.laws_FnExactTurnSeen.walk Pure.FnExactTurnSeen a0 len0 l0 A1 c1 l1 B1 b1 m1 a2 cap2 l2 W w0 hl0 w1 hl1 u1 hm1 w2 hl2).mono fun e W' ⟨he, bel⟩ => ?_
  subst he
  exact ⟨_, rfl, _, _, _, [], _, [], hW', trodAll_mk1 (shut_bool Try.underlying4 _), (trodAll_cons_mk (Below.trod laidOut (by kernel_rfl) (of_decide_eq_true (by kernel_rfl)) k0 bel lt0) (trodAll_cons_mk (Below.trod laidOut (by kernel_rfl) (of_decide_eq_true (by kernel_rfl)) k1 bel lt1) (trodAll_cons_mk (Below.trod laidOut (by kernel_rfl) (of_decide_eq_true (by kernel_rfl)) k2 bel lt2) trodAll_mk0))), rfl, bel.frame _, fun h => by cases h⟩
theorem closed : joinedFacts Try.pinned.checked.prog 21 Try.f21 Rows.fnExactTurnSeenSpec Rows.fnExactTurnSeenRow = true := by
  show joinedFacts Try.checked.prog 21 Try.f21 Rows.fnExactTurnSeenSpec Rows.fnExactTurnSeenRow = true
  unfold joinedFacts
  repeat' (with_reducible refine Facts.andI ?_ ?_)
  · as_aux_lemma => kernel_rfl
  · exact Facts.laid
  · exact Facts.mapsr
  · as_aux_lemma => kernel_rfl
  · as_aux_lemma => kernel_rfl
  · as_aux_lemma => kernel_rfl
  · exact Facts.stops
  · as_aux_lemma => kernel_rfl
  · exact Facts.stopKnobs
  · as_aux_lemma => kernel_rfl
  · as_aux_lemma => kernel_rfl
  · as_aux_lemma => kernel_rfl
  · as_aux_lemma => kernel_rfl
  · as_aux_lemma => kernel_rfl
  · as_aux_lemma => kernel_rfl
  · as_aux_lemma => kernel_rfl
  · as_aux_lemma => kernel_rfl
  · as_aux_lemma => kernel_rfl
  · as_aux_lemma => kernel_rfl
  · as_aux_lemma => kernel_rfl
  · as_aux_lemma => kernel_rfl
  · as_aux_lemma => kernel_rfl
  · exact Facts.plain
  · as_aux_lemma => kernel_rfl
  · exact Facts.heard
  · exact Facts.enter
  · exact Facts.final
  · exact Facts.cut
  · as_aux_lemma => kernel_rfl
  · as_aux_lemma => kernel_rfl
  · as_aux_lemma => kernel_rfl
  · as_aux_lemma => kernel_rfl
theorem over : Rows.fnExactTurnSeenRow.holds Try.pinned (OpenSpec.ofChange Rows.fnExactTurnSeenSpec) :=
  OpenClaim.holds_of_wide 21 Try.f21 rfl rfl rfl rfl rfl rfl rfl ⟨rfl, rfl, rfl, rfl, rfl⟩ rfl rfl rfl rfl rfl (by kernel_rfl) Try.func21 closed
    (of_decide_eq_true (by kernel_rfl)) (by unfold Func.isWrapper; first | (rw [if_pos (by decide +kernel)]; kernel_rfl) | (rw [if_neg (by decide +kernel)]; exact ⟨rfl, rfl⟩))
    (fun os started H enc _ => lifted os started H enc)
theorem proved : Rows.FnExactTurnSeenSaid := over
#print axioms proved
end Go.Proofs.Ytefkbmhkhpekjaa.fnExactTurnSeen
namespace Go.Proofs.Ytefkbmhkhpekjaa
/-- The row, under a short name, for the claim. -/
theorem fnExactTurnSeen_holds : Rows.FnExactTurnSeenSaid := fnExactTurnSeen.proved
end Go.Proofs.Ytefkbmhkhpekjaa
