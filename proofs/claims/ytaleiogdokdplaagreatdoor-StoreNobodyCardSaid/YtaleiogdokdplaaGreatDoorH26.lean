/- H26: what came in: an act of a store, a geometry; the law called at them. -/
import Derived.Test.YtaleiogdokdplaaGreatDoorH2
import Derived.Test.YtaleiogdokdplaaGreatDoorP2
namespace Go.Proofs.YtaleiogdokdplaaGreatDoorG
open Go Go.RowKit Go.Proofs Go.Proofs.YtaleiogdokdplaaGreatDoor
set_option linter.unusedVariables false
set_option linter.unusedSimpArgs false
theorem typ_op {n : Nat} {xs : List SV} (h : Typ T n 24 xs) : ∃ (p q r : Int) (l : List SV), xs = [.raw (.int .i64 p), .raw (.int .i64 q), .raw (.int .i64 r), .sl 1 l] := by
  obtain ⟨xss, rfl, ha⟩ := h.struct' (by rfl)
  obtain ⟨x0, r0, rfl, h0, ha⟩ := all2_c1 ha
  obtain ⟨x1, r1, rfl, h1, ha⟩ := all2_c1 ha
  obtain ⟨x2, r2, rfl, h2, ha⟩ := all2_c1 ha
  obtain ⟨x3, r3, rfl, h3, ha⟩ := all2_c1 ha
  have := all2_n ha
  subst this
  obtain ⟨m0, rfl, _⟩ := h0.int' (by rfl)
  obtain ⟨m1, rfl, _⟩ := h1.int' (by rfl)
  obtain ⟨m2, rfl, _⟩ := h2.int' (by rfl)
  obtain ⟨l3, rfl, _⟩ := h3.sl' (by rfl) (by rfl)
  exact ⟨m0, m1, m2, l3.flatten, rfl⟩
theorem typ_act {n : Nat} {xs : List SV} (h : Typ T n 27 xs) : ∃ (kind n at_ p q r : Int) (l ks : List SV), xs = [.raw (.int .i64 kind), .raw (.int .i64 n), .raw (.int .i64 at_), .raw (.int .i64 p), .raw (.int .i64 q), .raw (.int .i64 r), .sl 1 l, .sl 1 ks] := by
  obtain ⟨xss, rfl, ha⟩ := h.struct' (by rfl)
  obtain ⟨x0, r0, rfl, h0, ha⟩ := all2_c1 ha
  obtain ⟨x1, r1, rfl, h1, ha⟩ := all2_c1 ha
  obtain ⟨x2, r2, rfl, h2, ha⟩ := all2_c1 ha
  obtain ⟨x3, r3, rfl, h3, ha⟩ := all2_c1 ha
  obtain ⟨x4, r4, rfl, h4, ha⟩ := all2_c1 ha
  have := all2_n ha
  subst this
  obtain ⟨m0, rfl, _⟩ := h0.int' (by rfl)
  obtain ⟨m1, rfl, _⟩ := h1.int' (by rfl)
  obtain ⟨m2, rfl, _⟩ := h2.int' (by rfl)
  obtain ⟨p, q, r, l3, rfl⟩ := typ_op h3
  obtain ⟨l4, rfl, _⟩ := h4.sl' (by rfl) (by rfl)
  exact ⟨m0, m1, m2, p, q, r, l3, l4.flatten, rfl⟩
theorem typ_geo {n : Nat} {xs : List SV} (h : Typ T n 29 xs) : ∃ a b c : Int, xs = [.raw (.int .i64 a), .raw (.int .i64 b), .raw (.int .i64 c)] := by
  obtain ⟨xss, rfl, ha⟩ := h.struct' (by rfl)
  obtain ⟨x0, r0, rfl, h0, ha⟩ := all2_c1 ha
  obtain ⟨x1, r1, rfl, h1, ha⟩ := all2_c1 ha
  obtain ⟨x2, r2, rfl, h2, ha⟩ := all2_c1 ha
  have := all2_n ha
  subst this
  obtain ⟨m0, rfl, _⟩ := h0.int' (by rfl)
  obtain ⟨m1, rfl, _⟩ := h1.int' (by rfl)
  obtain ⟨m2, rfl, _⟩ := h2.int' (by rfl)
  exact ⟨m0, m1, m2, rfl⟩
theorem storeNobody_in {W : World} {n0 n1 : Nat} {v0 v1 : Value} {xs0 xs1 : List SV} (t0 : Typ T n0 27 xs0) (a0 : XR W (gI W) v0 (.p (.agg (xs0.map .v)))) (t1 : Typ T n1 29 xs1) (a1 : XR W (gI W) v1 (.p (.agg (xs1.map .v)))) :
    Calls Tryz.prog 3 #[v0, v1] W fun e W' => e = .returned (.bool true) ∧ Below W.heap.size W W' := by
  obtain ⟨k, n, at_, p, q, r, l, ks, rfl⟩ := typ_act t0
  obtain ⟨a, b, c, rfl⟩ := typ_geo t1
  exact law_calls (nobody_ok k n at_ p q r l ks a b c) (.cons a0 (.cons a1 .nil))
end Go.Proofs.YtaleiogdokdplaaGreatDoorG
