/- YtdpflafjfkooeaaDoorZTLawCCostSums: a part of the proof, joined of its texts. -/
import Derived.Test.YtdpflafjfkooeaaDoorZ24
/- L24c: CostSums and CostLater at what came in. -/
namespace Go.Proofs.YtdpflafjfkooeaaDoorG
open Go Go.RowKit Go.Proofs Go.Proofs.YtdpflafjfkooeaaDoor
theorem typ_geo {n : Nat} {xs : List SV} (h : Typ T n 23 xs) : ∃ a b c : Int, xs = [.raw (.int .i64 a), .raw (.int .i64 b), .raw (.int .i64 c)] := by
  obtain ⟨xss, rfl, ha⟩ := h.struct' (by rfl)
  obtain ⟨x0, r0, rfl, h0, ha⟩ := all2_c1 ha
  obtain ⟨x1, r1, rfl, h1, ha⟩ := all2_c1 ha
  obtain ⟨x2, r2, rfl, h2, ha⟩ := all2_c1 ha
  have := all2_n ha
  subst this
  obtain ⟨m0, rfl, _⟩ := h0.int' (by rfl)
  obtain ⟨m1, rfl, _⟩ := h1.int' (by rfl)
  obtain ⟨m2, rfl, _⟩ := h2.int' (by rfl)
  exact ⟨m0, m1, m2, rfl⟩
theorem typ_opsD {n : Nat} {x : SV} (h : Typ T n 44 [x]) : ∃ l : List Opn, x = .sl 4 (ops l) ∧ l.length ≤ n ∧ ∀ o ∈ l, o.upto n := by
  obtain ⟨xss, e, hl, hx⟩ := h.sl' (by rfl) (by rfl)
  obtain ⟨l, rfl, hp⟩ := choose_l (p := fun c => Opn.upto n c) (f := Opn.cells) fun ys hys => typ_op (hx ys hys)
  rw [flat_map] at e
  simp only [List.cons.injEq, and_true] at e
  exact ⟨l, e, by simpa using hl, hp⟩
theorem typ_blsD {n : Nat} {x : SV} (h : Typ T n 53 [x]) : ∃ l : List Bool, x = .sl 1 (bls l) ∧ l.length ≤ n := by
  obtain ⟨xss, e, hl, hx⟩ := h.sl' (by rfl) (by rfl)
  obtain ⟨l, rfl, hp⟩ := choose_l (p := fun _ : Bool => True) (f := fun b => [SV.raw (.bool b)]) fun ys hys => (by obtain ⟨b, rfl⟩ := (hx ys hys).bool' (by rfl); exact ⟨b, rfl, trivial⟩)
  rw [flat_map] at e
  simp only [List.cons.injEq, and_true] at e
  refine ⟨l, e.trans ?_, by simpa using hl⟩
  congr 1
  unfold bls
  rw [List.flatMap_def]
  clear hx hl hp e h
  induction l with
  | nil => rfl
  | cons m l ih => simp only [List.map_cons, List.flatten_cons, ih]; rfl
theorem costSums_in {W : World} {v0 v1 v2 : Value} {xs0 : List SV} {x1 x2 : SV} (t0 : Typ T 1048576 23 xs0) (a0 : XR W (gI W) v0 (.p (.agg (xs0.map .v)))) (t1 : Typ T 1048576 44 [x1]) (a1 : XR W (gI W) v1 (.p (.one (.v x1))))
    (t2 : Typ T 1048576 53 [x2]) (a2 : XR W (gI W) v2 (.p (.one (.v x2)))) (hg : W.cell? ⟨0, 0, none⟩ = some GV) :
    Calls Tryd.prog 5 #[v0, v1, v2] W fun e W' => e = .returned (.bool true) ∧ Below W.heap.size W W' := by
  obtain ⟨a, b, c, rfl⟩ := typ_geo t0
  obtain ⟨l, rfl, hl, h1⟩ := typ_opsD t1
  obtain ⟨sv, rfl, h2⟩ := typ_blsD t2
  exact law_calls (sums_law a b c l sv (by omega) (fun o h => (h1 o h).run) (fun o h => Nat.le_trans (h1 o h).len (by omega)) (by omega)) (.cons a0 (.cons a1 (.cons a2 .nil))) (gr_gI hg)
end Go.Proofs.YtdpflafjfkooeaaDoorG
