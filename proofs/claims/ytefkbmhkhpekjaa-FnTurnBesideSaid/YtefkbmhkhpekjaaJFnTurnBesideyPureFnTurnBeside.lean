/- Side by side are the threads of both (the law FnTurnBeside): for every code the law answers true. No condition. -/
import Derived.Test.YtefkbmhkhpekjaaJFnTurnBesidex0
import Derived.Test.YtefkbmhkhpekjaaJFnTurnBesideyDrawThread
import Derived.Test.YtefkbmhkhpekjaaJFnTurnBesideyReadsProg
import Derived.Test.YtefkbmhkhpekjaaJFnTurnBesideyLpProg
import Derived.Test.YtefkbmhkhpekjaaJFnTurnBesideyBesideOk
namespace Go.Proofs.Ytefkbmhkhpekjaa.Pure
open Go.RowKit Go.Proofs.Ytefkbmhkhpekjaa.PB Go.Proofs.YtefkbmhkhpekjaaW.PrintWords Go.Proofs.YtefkbmhkhpekjaaW.PrintLast
set_option linter.unusedVariables false

def Few (p : List (List S85)) : Prop := 1 ≤ p.length ∧ p.length ≤ 2 ∧ ∀ t ∈ p, t.length ≤ 10
theorem one_dr {b : List Int} (hb : Rd b) (s pl c : Int) (h0 : 0 ≤ s) (h1 : s ≤ 500000) (hpl : 1 ≤ pl) (hc : 1 ≤ c) : DR (fun k => spec_DrawTurnBeside.one k pl c b s) s 63 Few := by
  unfold spec_DrawTurnBeside.one
  refine (DR.bind (c := 31) (c' := 32) (thread_dr hb s 3 pl h0 (by omega) hpl (by omega) (by omega)) fun t s1 a1 a2 ht => ?_).more (by omega) (fun _ h => h)
  refine (DR.bind (c := 1) (c' := 31) (pick_dr hb s1 c (by omega) (by omega) hc) fun x s2 b1 b2 hx => ?_).more (by omega) (fun _ h => h)
  by_cases h : x = 0
  · simp only [if_pos h]
    refine (DR.bind (c := 31) (c' := 0) (thread_dr hb s2 2 pl (by omega) (by omega) hpl (by omega) (by omega)) fun u s3 c1 c2 hu => ?_).more (by omega) (fun _ h => h)
    refine DR.ret (by omega) ⟨by simp, by simp, fun t' h' => ?_⟩
    simp only [List.mem_cons, List.not_mem_nil, or_false] at h'
    rcases h' with rfl | rfl
    · exact ht
    · exact hu
  · simp only [if_neg h]
    refine DR.ret (by omega) ⟨by simp, by simp, fun t' h' => ?_⟩
    simp only [List.mem_cons, List.not_mem_nil, or_false] at h'
    subst h'
    exact ht
def shS (d : S85) : S85 := if usB d.f0 = true then ⟨d.f0, wrap64 (d.f1 + 1), d.f2⟩ else d
theorem sh_eq (d : S85) : spec_DrawTurnBeside.sh d = some (shS d) := by
  unfold spec_DrawTurnBeside.sh shS usB
  rw [sReads, sWrites]
  simp only [Option.bind_some]
  cases rdB d.f0 <;> cases wrB d.f0 <;> rfl
theorem mapO_all {α β : Type} {F : α → Option β} {g : α → β} (h : ∀ x, F x = some (g x)) : ∀ l : List α, mapO F l = some (l.map g)
  | [] => rfl
  | x :: l => by simp only [mapO, h, mapO_all h l, Option.bind_some, List.map_cons]
theorem few_map {p : List (List S85)} (h : Few p) : Few (p.map (List.map shS)) := by
  refine ⟨by simpa using h.1, by simpa using h.2.1, fun t ht => ?_⟩
  obtain ⟨u, hu, rfl⟩ := List.mem_map.1 ht
  simpa using h.2.2 u hu
theorem drawBeside (l : List Int) (hw : ∀ x ∈ l, (Lit.int .u8 x).wf = true) : ∃ p q, Few p ∧ Few q ∧ Ev (fun k => spec_DrawTurnBeside.f k l) (p, q) := by
  obtain ⟨b, hb, e⟩ := open_ev l hw
  obtain ⟨p, s1, e1, a1, a2, hp⟩ := one_dr hb 0 1 2 (by omega) (by omega) (by omega) (by omega)
  obtain ⟨q, s2, e2, b1, b2, hq⟩ := one_dr hb s1 2 3 (by omega) (by omega) (by omega) (by omega)
  obtain ⟨c, s3, e3, c1, c2, hc⟩ := pick_dr hb s2 6 (by omega) (by omega) (by omega)
  by_cases h : c > 0
  · refine ⟨p, q.map (List.map shS), hp, few_map hq, ?_⟩
    unfold spec_DrawTurnBeside.f
    simp only [e, Option.bind_some]
    refine e1.bind (e2.bind (e3.bind ?_))
    simp only [if_pos h, mapO_all (mapO_all sh_eq), Option.bind_some]
    exact Ev.const
  · refine ⟨p, q, hp, hq, ?_⟩
    unfold spec_DrawTurnBeside.f
    simp only [e, Option.bind_some]
    refine e1.bind (e2.bind (e3.bind ?_))
    simp only [if_neg h]
    exact Ev.const
theorem readsP_app : ∀ p q : List (List S85), readsP (p ++ q) = readsP p + readsP q
  | [], q => by simp [readsP]
  | t :: p, q => by simp only [List.cons_append, readsP, readsP_app p q]; omega
theorem readsP_few : ∀ p : List (List S85), (∀ t ∈ p, t.length ≤ 10) → 0 ≤ readsP p ∧ readsP p ≤ 10 * (p.length : Int)
  | [], _ => by simp [readsP]
  | t :: p, h => by
    have h1 := readsP_few p (fun u hu => h u (by simp [hu]))
    have h2 := readsI_le t
    have h3 := h t (by simp)
    simp only [readsP, List.length_cons]
    omega
theorem FnTurnBeside : laws_FnTurnBeside.Pure := by
  intro l _ _ hw
  refine Ev.get ?_
  unfold laws_FnTurnBeside.f
  by_cases hl : (l.length : Int) > 1048576
  · simp only [if_pos hl]
    exact Ev.const
  simp only [if_neg hl]
  obtain ⟨p, q, hp, hq, hd⟩ := drawBeside l hw
  refine hd.bind ?_
  have p2 : ∀ t ∈ p, t.length ≤ 1048576 := fun t ht => by have := hp.2.2 t ht; omega
  have q2 : ∀ t ∈ q, t.length ≤ 1048576 := fun t ht => by have := hq.2.2 t ht; omega
  have p1 := hp.2.1
  have q1 := hq.2.1
  refine (sBeside p q (by omega) p2 (by omega) q2).bind ?_
  refine (iBeside p q (by omega) p2 (by omega) q2).bind ?_
  have sp : Short p := ⟨by omega, p2⟩
  have sq : Short q := ⟨by omega, q2⟩
  have sb : Short (p ++ q) := ⟨by simp; omega, mem_both p2 q2⟩
  simp only [bne_self_eq_false, Bool.false_eq_true, if_false]
  unfold beside
  by_cases h : okP p = true ∧ okP q = true ∧ okP (p ++ q) = true
  · simp only [if_pos h]
    refine (lpSelf _ sb).bind ?_
    simp only [if_true, Bool.not_true]
    refine Ev.succ ?_
    simp only [laws_FnTurnBeside.j0, Bool.false_eq_true, if_false]
    have r1 := progReads _ sb
    have r2 := progReads _ sp
    have r3 := progReads _ sq
    rw [if_pos h.2.2] at r1
    rw [if_pos h.1] at r2
    rw [if_pos h.2.1] at r3
    refine r1.bind (r2.bind (r3.bind ?_))
    have f1 := readsP_few p hp.2.2
    have f2 := readsP_few q hq.2.2
    rw [w64' (by omega) (by omega), readsP_app]
    simp only [if_true, if_pos (show (0 : Int) ≤ (p.length : Int) by omega), if_pos (show (p.length : Int) ≤ ((p ++ q).length : Int) by simp; omega), Int.toNat_natCast, List.take_left', List.drop_left']
    refine (lpSelf _ sp).bind ?_
    simp only [if_true]
    exact (lpSelf _ sq).bind Ev.const
  · simp only [if_neg h]
    refine (lpSelf _ ⟨by simp, by simp⟩).bind ?_
    simp only [if_true, Bool.not_false]
    refine Ev.succ ?_
    simp only [laws_FnTurnBeside.j0, if_true, beq_self_eq_true]
    exact (lpSelf _ ⟨by simp, by simp⟩).bind Ev.const
end Go.Proofs.Ytefkbmhkhpekjaa.Pure
