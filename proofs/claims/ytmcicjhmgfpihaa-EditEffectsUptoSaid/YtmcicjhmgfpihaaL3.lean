/- L3: layer 22's laws at what came in. -/
import Derived.Test.YtmcicjhmgfpihaaH22
import Derived.Test.YtmcicjhmgfpihaaA29
import Derived.Test.YtmcicjhmgfpihaaA30
namespace Go.Proofs.YtmcicjhmgfpihaaG
open Go Go.RowKit Go.Proofs Go.Proofs.Ytmcicjhmgfpihaa
theorem editBack_in {W : World} {v0 v1 : Value} {x0 : SV} {xs1 : List SV} (t0 : Typ T 1048576 50 [x0]) (a0 : XR W (gI W) v0 (.p (.one (.v x0)))) (t1 : Typ T 1048576 27 xs1) (a1 : XR W (gI W) v1 (.p (.agg (xs1.map .v)))) :
    Calls Try.prog 5 #[v0, v1] W fun e W' => e = .returned (.bool true) ∧ Below W.heap.size W W' := by
  obtain ⟨l, rfl, hl, ho⟩ := Opn.in' t0
  obtain ⟨o, rfl, h1⟩ := typ_op t1
  exact law_calls (back_ok goes_ok l o (by omega) (fun o h => (ho o h).run) (fun o h => Nat.le_trans (ho o h).len (by omega)) h1.run (Nat.le_trans h1.len (by omega))) (.cons a0 (.cons a1 .nil))
theorem editStays_in {W : World} {v0 v1 : Value} {x0 : SV} {xs1 : List SV} (t0 : Typ T 1048576 50 [x0]) (a0 : XR W (gI W) v0 (.p (.one (.v x0)))) (t1 : Typ T 1048576 27 xs1) (a1 : XR W (gI W) v1 (.p (.agg (xs1.map .v)))) :
    Calls Try.prog 7 #[v0, v1] W fun e W' => e = .returned (.bool true) ∧ Below W.heap.size W W' := by
  obtain ⟨l, rfl, hl, ho⟩ := Opn.in' t0
  obtain ⟨o, rfl, h1⟩ := typ_op t1
  exact law_calls (stays_ok goes_ok l o (by omega) (fun o h => (ho o h).run) (fun o h => Nat.le_trans (ho o h).len (by omega)) h1.run (Nat.le_trans h1.len (by omega))) (.cons a0 (.cons a1 .nil))
theorem editAll_in {W : World} {v0 : Value} {x0 : SV} (t0 : Typ T 1048576 50 [x0]) (a0 : XR W (gI W) v0 (.p (.one (.v x0)))) :
    Calls Try.prog 6 #[v0] W fun e W' => e = .returned (.bool true) ∧ Below W.heap.size W W' := by
  obtain ⟨l, rfl, hl, ho⟩ := Opn.in' t0
  exact law_calls (all_ok goes_ok l (by omega) (fun o h => (ho o h).run) (fun o h => Nat.le_trans (ho o h).len (by omega))) (.cons a0 .nil)
theorem editEffects_in {W : World} {v0 v1 v2 : Value} {xs0 xs1 xs2 : List SV} (t0 : Typ T 1048576 25 xs0) (a0 : XR W (gI W) v0 (.p (.agg (xs0.map .v)))) (t1 : Typ T 1048576 27 xs1) (a1 : XR W (gI W) v1 (.p (.agg (xs1.map .v))))
    (t2 : Typ T 1048576 42 xs2) (a2 : XR W (gI W) v2 (.p (.agg (xs2.map .v)))) :
    Calls Try.prog 4 #[v0, v1, v2] W fun e W' => e = .returned (.bool true) ∧ Below W.heap.size W W' := by
  obtain ⟨s, rfl, h0⟩ := typ_state t0
  obtain ⟨o, rfl, h1⟩ := typ_op t1
  obtain ⟨c, rfl, h2⟩ := typ_change t2
  exact law_calls (effects_ok goes_ok s o c h0 h1 h2) (.cons a0 (.cons a1 (.cons a2 .nil)))
end Go.Proofs.YtmcicjhmgfpihaaG
