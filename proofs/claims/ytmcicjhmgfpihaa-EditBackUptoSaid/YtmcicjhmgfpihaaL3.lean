/- L3: layer 22's laws at what came in. -/
import Derived.Test.YtmcicjhmgfpihaaH22
namespace Go.Proofs.YtmcicjhmgfpihaaG
open Go Go.RowKit Go.Proofs Go.Proofs.Ytmcicjhmgfpihaa
theorem editBack_in {W : World} {v0 v1 : Value} {x0 : SV} {xs1 : List SV} (t0 : Typ T 1048576 50 [x0]) (a0 : XR W (gI W) v0 (.p (.one (.v x0)))) (t1 : Typ T 1048576 27 xs1) (a1 : XR W (gI W) v1 (.p (.agg (xs1.map .v)))) :
    Calls Try.prog 5 #[v0, v1] W fun e W' => e = .returned (.bool true) ∧ Below W.heap.size W W' := by
  obtain ⟨l, rfl, hl, ho⟩ := Opn.in' t0
  obtain ⟨o, rfl, h1⟩ := typ_op t1
  exact law_calls (back_ok goes_ok l o (by omega) (fun o h => (ho o h).run) (fun o h => Nat.le_trans (ho o h).len (by omega)) h1.run (Nat.le_trans h1.len (by omega))) (.cons a0 (.cons a1 .nil))
end Go.Proofs.YtmcicjhmgfpihaaG
