/- The law BracketInside, true for every input of bulk at most 1048576; nothing that was there changes. -/
import Derived.Test.YtncabdcaamkhiaaRows
import Derived.Test.YtncabdcaamkhiaaZTLawGBracketInside
import Derived.JoinedCond
import Derived.Deep.CondSized
import Derived.WalkKit
import Derived.ProofKit
import Derived.OpenShut
import Derived.ShutString
import Derived.ChangeOld
import Derived.Below
import Derived.SizedLaws
namespace Go.Proofs.Ytncabdcaamkhiaa.bracketInsideUpto
open Go.ChangeShapes Go.WideShapes Go.ChangeAt Go.RowKit
open Go.ChangeMaps (open_string shut_string)
set_option linter.unusedVariables false
theorem own : ownKnob Try.prog.godebug = none := by kernel_rfl
theorem laidOut : laidOutB Try.prog = true := by kernel_rfl
set_option maxRecDepth 100000 in
theorem lifted (os : Os) (started : os.Started) (H : Type) (enc : TypeId × Value → H) (F : Stop.Interp) :
    ReturnsInHanded {} Try.checked os 8 .any ((Rows.OpenSpec.upto Rows.bracketInsideSpec).pre6 enc Try.prog Try.f8 Rows.bracketInsideUptoRow.domain false) (((Rows.OpenSpec.upto Rows.bracketInsideSpec).at F).post enc Try.prog Try.f8 false true false false) := by
  refine returnsInHanded_of_cond_sized (C := Try.checked) (s := Rows.OpenSpec.upto Rows.bracketInsideSpec) (k := Rows.uptoSmall) rfl own started (by kernel_rfl) Try.func8
    (OpenSpec.witness (enc := enc) (C := Try.checked) (s := Rows.OpenSpec.upto Rows.bracketInsideSpec) (k := Rows.uptoSmall) rfl false ⟨#[], #[.slice none 0 0, .int .i64 0, .int .i64 0], []⟩ 8 (by kernel_rfl) (by kernel_rfl) (by kernel_rfl)
      (x := ([.nil, .lit (.int .i64 0), .lit (.int .i64 0)], [], [])) (by kernel_rfl) rfl (by kernel_rfl)) ?_
  intro W base args ds gs before hval0 hW hcnd hk0 hsz0 _
  have hval : ∀ (j : Nat) t v, Try.f8.params[j]? = some t → args[j]? = some v → Value.okWide Try.prog W .any base t v := hval0
  have hW' := hW
  obtain ⟨p, q, hA0, hV, rfl, hfz, hnd⟩ := hW
  have hA : DataW.TrodAll enc Try.prog W 0 (fun _ => true) true Try.f8.params.toList args.toList ds p := hA0
  rw [show Try.f8.params = #[23, 3, 3] from rfl] at hA hval
  obtain ⟨v0, vs0, d0, ds0, p0, q0, hargs, rfl, rfl, h0, hA1⟩ := trodAll_cons hA
  obtain ⟨v1, vs1, d1, ds1, p1, q1, hargs1, rfl, rfl, h1, hA2⟩ := trodAll_cons hA1
  obtain ⟨v2, vs2, d2, ds2, p2, q2, hargs2, rfl, rfl, h2, hA3⟩ := trodAll_cons hA2
  obtain ⟨rfl, rfl, rfl⟩ := trodAll_nil hA3
  simp only [hargs1, hargs2] at hargs
  obtain rfl : args = #[v0, v1, v2] := by cases args; simp_all
  obtain ⟨rfl, rfl⟩ := trodVars_none hV
  have b0 := Go.Proofs.YtncabdcaamkhiaaG.bulk1 hk0 (d := d0) (by simp)
  obtain ⟨e0, n0, m0, rfl⟩ := okWide_slice ((Go.Proofs.YtncabdcaamkhiaaG.T_ok 23 _ rfl).slice rfl) (hval 0 23 v0 rfl rfl)
  obtain ⟨x0, t0, a0⟩ := Go.Proofs.YtncabdcaamkhiaaG.arg_one Go.Proofs.YtncabdcaamkhiaaG.T_ok (t := 23) (m := 9) (by kernel_rfl) h0 b0 rfl
  have b1 := Go.Proofs.YtncabdcaamkhiaaG.bulk1 hk0 (d := d1) (by simp)
  obtain ⟨e1, rfl⟩ := okWide_int (t := 3) (k := .i64) (by kernel_rfl) (hval 1 3 v1 rfl rfl)
  obtain ⟨x1, t1, a1⟩ := Go.Proofs.YtncabdcaamkhiaaG.arg_one Go.Proofs.YtncabdcaamkhiaaG.T_ok (t := 3) (m := 9) (by kernel_rfl) h1 b1 rfl
  have b2 := Go.Proofs.YtncabdcaamkhiaaG.bulk1 hk0 (d := d2) (by simp)
  obtain ⟨e2, rfl⟩ := okWide_int (t := 3) (k := .i64) (by kernel_rfl) (hval 2 3 v2 rfl rfl)
  obtain ⟨x2, t2, a2⟩ := Go.Proofs.YtncabdcaamkhiaaG.arg_one Go.Proofs.YtncabdcaamkhiaaG.T_ok (t := 3) (m := 9) (by kernel_rfl) h2 b2 rfl
  have lt : ∀ (d : DataW H) (p : List MemPlace) (t : TypeId) (v : Value), DataW.Trod enc Try.prog W 0 (fun _ => true) true t v d p → ∀ x ∈ p, x.block < W.heap.size := fun d p t v k => by obtain ⟨m, hm⟩ := k; exact DataW.trod_lt m _ _ _ hm
  refine (Go.Proofs.YtncabdcaamkhiaaG.bracketInside_in t0 a0 t1 a1 t2 a2).mono fun e W' ⟨he, bel⟩ => ?_
  subst he
  exact ⟨_, rfl, _, _, _, [], _, [], hW', trodAll_mk1 (shut_bool (by kernel_rfl) _), (trodAll_cons_mk (Below.trod laidOut (by kernel_rfl) (of_decide_eq_true (by kernel_rfl)) h0 bel (lt _ _ _ _ h0)) (trodAll_cons_mk (Below.trod laidOut (by kernel_rfl) (of_decide_eq_true (by kernel_rfl)) h1 bel (lt _ _ _ _ h1)) (trodAll_cons_mk (Below.trod laidOut (by kernel_rfl) (of_decide_eq_true (by kernel_rfl)) h2 bel (lt _ _ _ _ h2)) trodAll_mk0))), rfl, bel.frame _, fun h => by cases h⟩
theorem over : Rows.bracketInsideUptoRow.holds Try.pinned (Rows.OpenSpec.upto Rows.bracketInsideSpec) :=
  OpenClaim.holds_of_cond 8 Try.f8 rfl rfl rfl rfl rfl rfl rfl ⟨rfl, rfl, rfl, rfl, rfl⟩ rfl rfl rfl rfl rfl (by kernel_rfl) Try.func8 (by kernel_rfl)
    (of_decide_eq_true (by kernel_rfl)) (by unfold Func.isWrapper; first | (rw [if_pos (by decide +kernel)]; kernel_rfl) | (rw [if_neg (by decide +kernel)]; exact ⟨rfl, rfl⟩))
    (fun os started H enc _ F => lifted os started H enc F)
theorem proved : Rows.BracketInsideUptoSaid := over
#print axioms proved
end Go.Proofs.Ytncabdcaamkhiaa.bracketInsideUpto
namespace Go.Proofs.Ytncabdcaamkhiaa
/-- The row, under a short name, for the claim. -/
theorem bracketInsideUpto_holds : Rows.BracketInsideUptoSaid := bracketInsideUpto.proved
end Go.Proofs.Ytncabdcaamkhiaa
