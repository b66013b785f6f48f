/- H27: what came in: an act of a session; the law called at it. -/
import Derived.Test.YthcgpebhfhhafaaGreatDoorH2
import Derived.Test.YthcgpebhfhhafaaGreatDoorS3
namespace Go.Proofs.YthcgpebhfhhafaaGreatDoorG
open Go Go.RowKit Go.Proofs Go.Proofs.YthcgpebhfhhafaaGreatDoor
set_option linter.unusedVariables false
set_option linter.unusedSimpArgs false
theorem typ_act {n : Nat} {xs : List SV} (h : Typ T n 25 xs) : ∃ (kind id at_ : Int) (bs ks : List SV), xs = [.raw (.int .i64 kind), .raw (.int .i64 id), .raw (.int .i64 at_), .sl 1 bs, .sl 1 ks] := by
  obtain ⟨xss, rfl, ha⟩ := h.struct' (by rfl)
  obtain ⟨x0, r0, rfl, h0, ha⟩ := all2_c1 ha
  obtain ⟨x1, r1, rfl, h1, ha⟩ := all2_c1 ha
  obtain ⟨x2, r2, rfl, h2, ha⟩ := all2_c1 ha
  obtain ⟨x3, r3, rfl, h3, ha⟩ := all2_c1 ha
  obtain ⟨x4, r4, rfl, h4, ha⟩ := all2_c1 ha
  have := all2_n ha
  subst this
  obtain ⟨m0, rfl, _⟩ := h0.int' (by rfl)
  obtain ⟨m1, rfl, _⟩ := h1.int' (by rfl)
  obtain ⟨m2, rfl, _⟩ := h2.int' (by rfl)
  obtain ⟨l3, rfl, _⟩ := h3.sl' (by rfl) (by rfl)
  obtain ⟨l4, rfl, _⟩ := h4.sl' (by rfl) (by rfl)
  exact ⟨m0, m1, m2, l3.flatten, l4.flatten, rfl⟩
theorem sessionNobody_in {W : World} {n : Nat} {v0 : Value} {xs0 : List SV} (t0 : Typ T n 25 xs0) (a0 : XR W (gI W) v0 (.p (.agg (xs0.map .v)))) : Calls Tryz.prog 3 #[v0] W fun e W' => e = .returned (.bool true) ∧ Below W.heap.size W W' := by
  obtain ⟨m0, m1, m2, l3, l4, rfl⟩ := typ_act t0
  exact law_calls (nobody_ok m0 m1 m2 l3 l4) (.cons a0 .nil)
end Go.Proofs.YthcgpebhfhhafaaGreatDoorG
