/- One row of rows put behind another, the inner rows being handed on (append of a whole slice of slices). No program in sight. No condition. -/
import Derived.Test.YtefkbmhkhpekjaaWApart
import Derived.Test.YtefkbmhkhpekjaaWWords
namespace Go.Proofs.YtefkbmhkhpekjaaMine
open Go.RowKit Go.Proofs.YtefkbmhkhpekjaaW.PrintWords Go.Proofs.YtefkbmhkhpekjaaW.PrintLast
set_option linter.unusedVariables false
variable {P : Program} {ops : Array Oper} {rest : List Oper} {o : Oper} {a : Act} {Q : Exit → Act → World → Prop}
open Classical in
theorem S_reads_tag {α : Type} {d : Kd α} {e base : Nat} {W : World} {ok1 ok2 : Nat → Prop} {v : Value} {A : Option Addr} {m c : Nat} {xs ys : List α} {e2 : Nat}
    (HO : Kd.S d e W base ok1 v xs) (HQ : Kd.S d e2 W base ok2 (.slice A m c) ys) (hdis : ∀ k, ok1 k → ¬ ok2 k) :
    ∃ f, (Kd.tag f d).R e W base ok1 v xs.zipIdx ∧ ReadsRow ((Kd.tag f d).M W base ok2) d.sz W A m (ys.zipIdx xs.length) := by
  obtain ⟨f1, h1⟩ := HO
  obtain ⟨f2, h2⟩ := HQ
  refine ⟨fun k => if ok2 k then f2 k + xs.length else f1 k, Kd.R_tag h1 (fun k hk _ => if_neg (hdis k hk)), ?_⟩
  obtain ⟨A', c', he, hl, hr⟩ := OwnRow.reads h2.2
  injection he with e1 e3 e4
  subst e1
  rw [List.length_zipIdx] at e3
  refine ⟨by rw [List.length_zipIdx, e3], by rw [e3]; have := hr.2.1; rwa [List.length_zipIdx] at this, fun hm => ?_⟩
  obtain ⟨ad, hA, hc⟩ := hr.2.2 (by rw [List.length_zipIdx]; omega)
  refine ⟨ad, hA, fun j p hj => ?_⟩
  rw [List.getElem?_zipIdx] at hj
  obtain ⟨x, hx, rfl⟩ := Option.map_eq_some_iff.1 hj
  obtain ⟨cs, hs, hM, hcell⟩ := hc j (x, j) (Kd.zip_at hx)
  refine ⟨cs, hs, d.M_mono (fun k hk => ⟨hk.1.1, ?_⟩) hM, hcell⟩
  show (if ok2 k then f2 k + xs.length else f1 k) = xs.length + j
  rw [if_pos hk.1.1, hk.2]
  exact Nat.add_comm _ _
theorem S_append_rows {α : Type} (d : Kd α) {w0 W : World} (base : Nat) (hgd : o.guard = none) (s x : Operand) (t e : TypeId) (z : Value) (bytes : Nat)
    (ho : o.op = .call { callee := .builtin .append, args := #[s, x], argTypes := #[t, t] })
    (ht : P.underlying t = some (.slice e)) (hinfo : (P.info? e).map (fun i => (i.zero, i.size, i.bytes)) = some (some z, d.sz, bytes)) (hz : z.cells.size = d.sz) (hs0 : 0 < d.sz) (hb0 : 0 < bytes)
    (v : Value) (xs ys : List α) (A : Option Addr) (m c : Nat) (ok1 ok2 : Nat → Prop) {e2 : Nat} (hs : a.eval s = v) (hx : a.eval x = .slice A m c)
    (HO : Kd.S d e W base ok1 v xs) (HQ : Kd.S d e2 W base ok2 (.slice A m c) ys) (hdis : ∀ k, ok1 k → ¬ ok2 k) (HB : Below base w0 W) (hbase : base ≤ W.heap.size) (hl : (xs.length + m) * bytes ≤ 140737488355328)
    (h : ∀ v1 w1, Kd.S d e w1 base (fun k => ok1 k ∨ ok2 k ∨ W.heap.size ≤ k) v1 (xs ++ ys) → Below base w0 w1 → W.grownBy w1 v.ownBlock → (v1.ownBlock = v.ownBlock ∨ ∃ b, v1.ownBlock = some b ∧ W.heap.size ≤ b) → wpList P ops Q rest (a.put o.dst v1) w1) :
    wpList P ops Q (o :: rest) a W := by
  obtain ⟨f, hR, hQ⟩ := S_reads_tag HO HQ hdis
  refine Kd.R_append_rows (Kd.tag f d) base hgd s x t e z bytes ho ht hinfo hz hs0 hb0 v xs.zipIdx (ys.zipIdx xs.length) A m c (fun k => ok1 k ∨ ok2 k ∨ W.heap.size ≤ k) ok2 hs hx (Kd.R_mono hR (fun _ hk => .inl hk)) hQ (fun _ _ h => h)
    (fun k hk => ⟨.inr (.inl hk), fun e => hdis k (hR.1 k e.symm) hk⟩) (fun k hk => .inr (.inr hk)) HB hbase (by rw [List.length_zipIdx]; exact hl) ?_
  intro v1 w1 hr
  have hz : (xs ++ ys).zipIdx = xs.zipIdx ++ ys.zipIdx xs.length := by rw [List.zipIdx_append, Nat.zero_add]
  rw [← hz] at hr
  exact h v1 w1 ⟨f, hr⟩
end Go.Proofs.YtefkbmhkhpekjaaMine
