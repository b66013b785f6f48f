/- YtdpflafjfkooeaaDoorZ19: a part of the proof, joined of its texts. -/
import Derived.Test.YtdpflafjfkooeaaDoorZ18
namespace Go.Proofs.YtdpflafjfkooeaaDoorG
open Go Go.RowKit Go.Proofs
set_option linter.unusedSimpArgs false
set_option linter.unusedVariables false
/-- A book. -/
structure Book where
  s : St
  n : Int
  u : Int
def Book.x (k : Book) : X := .p (.agg [.v (.sl 1 (rn k.s.text)), .v (.sl 3 (chs k.s.undo)), .v (.sl 3 (chs k.s.redo)), .v (.raw (.int .i64 k.n)), .v (.raw (.int .i64 k.u))])
def bkE (p : Book × Int) : X := .tup [.agg [.v (.sl 1 (rn p.1.s.text)), .v (.sl 3 (chs p.1.s.undo)), .v (.sl 3 (chs p.1.s.redo)), .v (.raw (.int .i64 p.1.n)), .v (.raw (.int .i64 p.1.u))], .one (.v (.raw (.int .i64 p.2)))]
def bk0 : Book := ⟨noSt, 0, 0⟩
def nextF (a b c : Int) (k : Book) (o : Opn) : Book × Int :=
  if ¬ (secF a b c).2 = 0 then (bk0, (secF a b c).2)
  else if ¬ (appF k.s o).2 = 0 then (bk0, (appF k.s o).2)
  else if ¬ (opF o).2 = 0 then (bk0, (opF o).2)
  else if ¬ cntF k.n = 0 then (bk0, 190)
  else if stC (appF k.s o).1 > 54 * b then (bk0, 240)
  else if k.u < 0 ∨ opC o > 64 * a - k.u then (bk0, 190)
  else (⟨(appF k.s o).1, k.n + 1, k.u + opC o⟩, 0)
theorem two_i (p : Int × Int) : twoX p = .tup [.one (.v (.raw (.int .i64 p.1))), .one (.v (.raw (.int .i64 p.2)))] := rfl
theorem secF_in {a b c : Int} (h : (secF a b c).2 = 0) : 1 ≤ a ∧ a ≤ 4096 ∧ 1 ≤ b ∧ b ≤ 4096 := by
  unfold secF at h
  split at h
  · cases h
  · rename_i q
    have := Decidable.not_not.1 q
    unfold inS at this
    omega
theorem opC_in (o : Opn) : 0 ≤ opC o ∧ opC o ≤ 4110 := by
  have := opF_le o
  unfold opC; split <;> omega
theorem rightSt {k : St} {o : Opn} (hk : k.ok) (ho : o.ok) (h : (appF k o).2 = 0) : (stF 0 (appF k o).1).2 = 0 := by
  rw [st_err]; exact right_app hk ho h
set_option maxRecDepth 10000 in
set_option maxHeartbeats 8000000 in
theorem nextB_ok (a b c : Int) (k : Book) (o : Opn) (hk : k.s.ok) (ho : o.ok) (hu : k.u ≤ 9223372036854775807) : CallOk Tryd.prog 22 [geo a b c, k.x, o.x] (bkE (nextF a b c k o)) [] false := by
  have q1 := rooms_ok a b c
  have q2 := apply_ok goes_ok k.s o hk ho
  have q3 := costOp_ok o ho.run (by have := ho.len; omega)
  have q5 := count_ok k.n
  have hbd := @secF_in a b c
  have hoc := opC_in o
  refine fn_ok' T_ok (orc_ok _) mixed Tryd.func22 rfl (by kernel_rfl) (lv [[3, 4, 5, 6], [4, 5, 6, 8, 9, 10], [4, 5, 6, 8, 9, 10, 24], [6, 7, 1000006], [4, 5, 6, 8, 9, 10, 11], [4, 5, 6, 8, 9, 10, 11, 35], [6, 7, 1000006], [4, 6, 8, 9, 10, 11, 12], [4, 6, 8, 9, 11, 12, 13], [4, 6, 8, 9, 11, 12, 13, 50], [6, 7, 1000006], [4, 6, 8, 9, 10, 11, 12, 14], [4, 6, 8, 10, 11, 12, 65], [4, 6, 8, 10, 11, 12], [4, 6, 8, 10, 11, 12, 15], [4, 6, 10, 11, 12, 15, 76], [4, 6, 10, 11, 12, 15], [4, 6, 11, 12, 16], [4, 6, 11, 12, 16, 82], [6, 7, 1000006], [6, 7]]) 95 rfl (by simp) rfl (by simp) ?_
  by_cases h1 : (secF a b c).2 = 0
  rotate_left
  · rw [if_neg h1, if_neg h1] at q1
    rw [show nextF a b c k o = (bk0, (secF a b c).2) from if_pos h1]
    simp only [argsG, Nat.zero_add, Nat.reduceAdd, Book.x, Opn.x]
    repeat' first
      | ((first
          | ((with_reducible refine vR_cons (by decide) ?_); generalize hk : KtR _ _ _ _ _ _ _ _ _ _ = k)
          | ((first
          | with_reducible refine vOps_cons' ?_
          | ((with_reducible apply orc_i); (focus (exact q1; done)))) <;> generalize hk : Kt _ _ _ _ _ _ _ _ _ = k)) <;> (simp only [Tryd.f22, lv, E1, E2, E5, ET, T, orc_mv, noO_mv, mvB, orc_bx, noO_bx, bxB, orc_sx, noO_sx, sxB, fwd, fwds, inv, mOk, Int.toNat_natCast, Nat.div_one, Nat.mul_one, Int.reduceToNat, SB, List.not_mem_nil, ↓reduceIte, ne_eq, reduceCtorEq, Nat.reduceLT, Nat.reduceEqDiff, Nat.reduceAdd, Nat.reduceMul, Nat.reduceLeDiff, Nat.reduceDiv, Nat.reduceMod, Nat.reduceSub, Nat.reduceBEq, List.length_map, rn_len, Opn.x, St.x, St.rx, Book.x, two_i, List.length_cons, List.length_nil]; (try simp (disch := omega) only [wrap_in, Int.toNat_natCast, tv_rn]); subst hk))
      | with_reducible first | refine Kt_p ?_ | refine Kt_i (by kernel_rfl) ?_ | refine Kr_f (by kernel_rfl) ?_
      | (with_reducible refine Kr_t ?_; simp only [List.length_append, List.length_cons, List.length_nil, Nat.reduceAdd, Nat.reduceSub, List.drop_succ_cons, List.drop_zero])
      | with_reducible first | refine vR_nil ?_ | refine KtR_i (by kernel_rfl) ?_ | refine KrR_i (by kernel_rfl) ?_ | refine vR_skip (by decide) ?_
      | ((with_reducible refine vB_i ?_ ?_) <;> intro _ <;> (first | (exfalso; omega) | (exact absurd trivial ‹¬True›) | (try dsimp only [])))
      | ((with_reducible refine vOps_nil' ?_); refine Kr_i (by kernel_rfl) ?_; generalize hk : plain _ _ = G; simp only [lv, E3, E2, E5, rawX, deadX, SB, List.not_mem_nil, ↓reduceIte, ne_eq, reduceCtorEq, Nat.reduceLT, Nat.reduceEqDiff, Nat.reduceAdd, Nat.reduceMul, Nat.reduceLeDiff, Nat.reduceDiv, Nat.reduceMod, Nat.reduceSub, Nat.reduceBEq, List.length_map, rn_len, Opn.x, St.x, St.rx, Book.x, two_i, List.length_cons, List.length_nil] at hk; subst hk)
      | with_reducible refine vSeq_i ?_
      | with_reducible first | refine vRegion_i (by kernel_rfl) ?_ | refine Kv_i ?_
      | ((with_reducible apply vStrK_i); (focus (rfl; done)))
      | ((with_reducible refine imp_i ?_); intro _)
      | with_reducible first | refine Ks_n ?_ | refine Ks_r ?_ | refine Ks_e ?_ | refine Kl_e ?_ | refine Kx_n ?_ | refine Kl_r ?_ | refine vRet_i ?_ | refine vSkip_i ?_ | refine vExit_i ?_ | refine vBlock_i ?_ | refine Ks_p ?_ | refine Kl_p ?_ | refine blk_p ?_ | exact Kb_p | refine vGoto_i ?_ | refine vLabel_i ?_ | refine Ks_g ?_ | refine Kl_g ?_ | refine blk_g ?_ | refine jmp_g ?_ | refine jmp_n ?_ | refine jmp_r ?_ | refine nog_n ?_ | refine nog_r ?_ | refine blk_n ?_ | refine blk_r ?_ | refine blk_e ?_ | refine blk_o (by decide) ?_ | refine cp_t ?_ | refine cp_f ?_
      | ((with_reducible apply vCond_x); (focus (simp only [lv, E1, E2, E5, ET, T, orc_mv, noO_mv, mvB, orc_bx, noO_bx, bxB, orc_sx, noO_sx, sxB, fwd, fwds, inv, mOk, Int.toNat_natCast, Nat.div_one, Nat.mul_one, Int.reduceToNat, SB, List.not_mem_nil, ↓reduceIte, ne_eq, reduceCtorEq, Nat.reduceLT, Nat.reduceEqDiff, Nat.reduceAdd, Nat.reduceMul, Nat.reduceLeDiff, Nat.reduceDiv, Nat.reduceMod, Nat.reduceSub, Nat.reduceBEq, List.length_map, rn_len, Opn.x, St.x, St.rx, Book.x, two_i, List.length_cons, List.length_nil]; with_reducible first | exact Eq.refl (bo true) | exact Eq.refl (bo false))))
      | ((with_reducible refine And.intro ?_ ?_); (focus (try omega)))
    all_goals try (exfalso; omega)
    all_goals refine Kf_r ?_
    all_goals simp only [Tryd.f22, E4, E3, E2, E5, rawX, deadX, ET, T, SB, List.not_mem_nil, ↓reduceIte, ne_eq, reduceCtorEq, Nat.reduceLT, Nat.reduceEqDiff, Nat.reduceAdd, Nat.reduceMul, Nat.reduceLeDiff, Nat.reduceDiv, Nat.reduceMod, Nat.reduceSub, Nat.reduceBEq, List.length_map, rn_len, Opn.x, St.x, St.rx, Book.x, two_i, List.length_cons, List.length_nil, bkE, bk0, noSt]
    all_goals rfl
  rw [if_pos h1, if_pos h1, h1] at q1
  have hab := hbd h1
  by_cases h2 : (appF k.s o).2 = 0
  rotate_left
  · rw [show nextF a b c k o = (bk0, (appF k.s o).2) by unfold nextF; rw [if_neg (fun q => q h1), if_pos h2]]
    simp only [argsG, Nat.zero_add, Nat.reduceAdd, Book.x, Opn.x]
    repeat' first
      | ((first
          | ((with_reducible refine vR_cons (by decide) ?_); generalize hk : KtR _ _ _ _ _ _ _ _ _ _ = k)
          | ((first
          | with_reducible refine vOps_cons' ?_
          | ((with_reducible apply orc_i); (focus (exact q1; done)))
          | ((with_reducible apply orc_i); (focus (exact q2; done)))) <;> generalize hk : Kt _ _ _ _ _ _ _ _ _ = k)) <;> (simp only [Tryd.f22, lv, E1, E2, E5, ET, T, orc_mv, noO_mv, mvB, orc_bx, noO_bx, bxB, orc_sx, noO_sx, sxB, fwd, fwds, inv, mOk, Int.toNat_natCast, Nat.div_one, Nat.mul_one, Int.reduceToNat, SB, List.not_mem_nil, ↓reduceIte, ne_eq, reduceCtorEq, Nat.reduceLT, Nat.reduceEqDiff, Nat.reduceAdd, Nat.reduceMul, Nat.reduceLeDiff, Nat.reduceDiv, Nat.reduceMod, Nat.reduceSub, Nat.reduceBEq, List.length_map, rn_len, Opn.x, St.x, St.rx, Book.x, two_i, List.length_cons, List.length_nil]; (try simp (disch := omega) only [wrap_in, Int.toNat_natCast, tv_rn]); subst hk))
      | with_reducible first | refine Kt_p ?_ | refine Kt_i (by kernel_rfl) ?_ | refine Kr_f (by kernel_rfl) ?_
      | (with_reducible refine Kr_t ?_; simp only [List.length_append, List.length_cons, List.length_nil, Nat.reduceAdd, Nat.reduceSub, List.drop_succ_cons, List.drop_zero])
      | with_reducible first | refine vR_nil ?_ | refine KtR_i (by kernel_rfl) ?_ | refine KrR_i (by kernel_rfl) ?_ | refine vR_skip (by decide) ?_
      | ((with_reducible refine vB_i ?_ ?_) <;> intro _ <;> (first | (exfalso; omega) | (exact absurd trivial ‹¬True›) | (try dsimp only [])))
      | ((with_reducible refine vOps_nil' ?_); refine Kr_i (by kernel_rfl) ?_; generalize hk : plain _ _ = G; simp only [lv, E3, E2, E5, rawX, deadX, SB, List.not_mem_nil, ↓reduceIte, ne_eq, reduceCtorEq, Nat.reduceLT, Nat.reduceEqDiff, Nat.reduceAdd, Nat.reduceMul, Nat.reduceLeDiff, Nat.reduceDiv, Nat.reduceMod, Nat.reduceSub, Nat.reduceBEq, List.length_map, rn_len, Opn.x, St.x, St.rx, Book.x, two_i, List.length_cons, List.length_nil] at hk; subst hk)
      | with_reducible refine vSeq_i ?_
      | with_reducible first | refine vRegion_i (by kernel_rfl) ?_ | refine Kv_i ?_
      | ((with_reducible apply vStrK_i); (focus (rfl; done)))
      | ((with_reducible refine imp_i ?_); intro _)
      | with_reducible first | refine Ks_n ?_ | refine Ks_r ?_ | refine Ks_e ?_ | refine Kl_e ?_ | refine Kx_n ?_ | refine Kl_r ?_ | refine vRet_i ?_ | refine vSkip_i ?_ | refine vExit_i ?_ | refine vBlock_i ?_ | refine Ks_p ?_ | refine Kl_p ?_ | refine blk_p ?_ | exact Kb_p | refine vGoto_i ?_ | refine vLabel_i ?_ | refine Ks_g ?_ | refine Kl_g ?_ | refine blk_g ?_ | refine jmp_g ?_ | refine jmp_n ?_ | refine jmp_r ?_ | refine nog_n ?_ | refine nog_r ?_ | refine blk_n ?_ | refine blk_r ?_ | refine blk_e ?_ | refine blk_o (by decide) ?_ | refine cp_t ?_ | refine cp_f ?_
      | ((with_reducible apply vCond_x); (focus (simp only [lv, E1, E2, E5, ET, T, orc_mv, noO_mv, mvB, orc_bx, noO_bx, bxB, orc_sx, noO_sx, sxB, fwd, fwds, inv, mOk, Int.toNat_natCast, Nat.div_one, Nat.mul_one, Int.reduceToNat, SB, List.not_mem_nil, ↓reduceIte, ne_eq, reduceCtorEq, Nat.reduceLT, Nat.reduceEqDiff, Nat.reduceAdd, Nat.reduceMul, Nat.reduceLeDiff, Nat.reduceDiv, Nat.reduceMod, Nat.reduceSub, Nat.reduceBEq, List.length_map, rn_len, Opn.x, St.x, St.rx, Book.x, two_i, List.length_cons, List.length_nil]; with_reducible first | exact Eq.refl (bo true) | exact Eq.refl (bo false))))
      | ((with_reducible refine And.intro ?_ ?_); (focus (try omega)))
    all_goals try (exfalso; omega)
    all_goals refine Kf_r ?_
    all_goals simp only [Tryd.f22, E4, E3, E2, E5, rawX, deadX, ET, T, SB, List.not_mem_nil, ↓reduceIte, ne_eq, reduceCtorEq, Nat.reduceLT, Nat.reduceEqDiff, Nat.reduceAdd, Nat.reduceMul, Nat.reduceLeDiff, Nat.reduceDiv, Nat.reduceMod, Nat.reduceSub, Nat.reduceBEq, List.length_map, rn_len, Opn.x, St.x, St.rx, Book.x, two_i, List.length_cons, List.length_nil, bkE, bk0, noSt]
    all_goals rfl
  have hok' := app_ok hk ho h2
  have q4 := costState_ok (appF k.s o).1 hok'
  rw [rightSt hk ho h2] at q4
  rw [h2] at q2
  by_cases h3 : (opF o).2 = 0
  rotate_left
  · rw [show nextF a b c k o = (bk0, (opF o).2) by unfold nextF; rw [if_neg (fun q => q h1), if_neg (fun q => q h2), if_pos h3]]
    have q6 := first_a (opF o).2 (cntF k.n) h3
    have q7 := whyE_ok (opF o).2
    simp only [argsG, Nat.zero_add, Nat.reduceAdd, Book.x, Opn.x, erX] at *
    repeat' first
      | ((first
          | ((with_reducible refine vR_cons (by decide) ?_); generalize hk : KtR _ _ _ _ _ _ _ _ _ _ = k)
          | ((first
          | with_reducible refine vOps_cons' ?_
          | ((with_reducible apply orc_i); (focus (exact q1; done)))
          | ((with_reducible apply orc_i); (focus (exact q2; done)))
          | ((with_reducible apply orc_i); (focus (exact q3; done)))
          | ((with_reducible apply orc_i); (focus (exact q5; done)))
          | ((with_reducible apply orc_i); (focus (exact q6; done)))
          | ((with_reducible apply orc_i); (focus (exact q7; done)))) <;> generalize hk : Kt _ _ _ _ _ _ _ _ _ = k)) <;> (simp only [Tryd.f22, lv, E1, E2, E5, ET, T, orc_mv, noO_mv, mvB, orc_bx, noO_bx, bxB, orc_sx, noO_sx, sxB, fwd, fwds, inv, mOk, Int.toNat_natCast, Nat.div_one, Nat.mul_one, Int.reduceToNat, SB, List.not_mem_nil, ↓reduceIte, ne_eq, reduceCtorEq, Nat.reduceLT, Nat.reduceEqDiff, Nat.reduceAdd, Nat.reduceMul, Nat.reduceLeDiff, Nat.reduceDiv, Nat.reduceMod, Nat.reduceSub, Nat.reduceBEq, List.length_map, rn_len, Opn.x, St.x, St.rx, Book.x, two_i, List.length_cons, List.length_nil]; (try simp (disch := omega) only [wrap_in, Int.toNat_natCast, tv_rn]); subst hk))
      | with_reducible first | refine Kt_p ?_ | refine Kt_i (by kernel_rfl) ?_ | refine Kr_f (by kernel_rfl) ?_
      | (with_reducible refine Kr_t ?_; simp only [List.length_append, List.length_cons, List.length_nil, Nat.reduceAdd, Nat.reduceSub, List.drop_succ_cons, List.drop_zero])
      | with_reducible first | refine vR_nil ?_ | refine KtR_i (by kernel_rfl) ?_ | refine KrR_i (by kernel_rfl) ?_ | refine vR_skip (by decide) ?_
      | ((with_reducible refine vB_i ?_ ?_) <;> intro _ <;> (first | (exfalso; omega) | (exact absurd trivial ‹¬True›) | (try dsimp only [])))
      | ((with_reducible refine vOps_nil' ?_); refine Kr_i (by kernel_rfl) ?_; generalize hk : plain _ _ = G; simp only [lv, E3, E2, E5, rawX, deadX, SB, List.not_mem_nil, ↓reduceIte, ne_eq, reduceCtorEq, Nat.reduceLT, Nat.reduceEqDiff, Nat.reduceAdd, Nat.reduceMul, Nat.reduceLeDiff, Nat.reduceDiv, Nat.reduceMod, Nat.reduceSub, Nat.reduceBEq, List.length_map, rn_len, Opn.x, St.x, St.rx, Book.x, two_i, List.length_cons, List.length_nil] at hk; subst hk)
      | with_reducible refine vSeq_i ?_
      | with_reducible first | refine vRegion_i (by kernel_rfl) ?_ | refine Kv_i ?_
      | ((with_reducible apply vStrK_i); (focus (rfl; done)))
      | ((with_reducible refine imp_i ?_); intro _)
      | with_reducible first | refine Ks_n ?_ | refine Ks_r ?_ | refine Ks_e ?_ | refine Kl_e ?_ | refine Kx_n ?_ | refine Kl_r ?_ | refine vRet_i ?_ | refine vSkip_i ?_ | refine vExit_i ?_ | refine vBlock_i ?_ | refine Ks_p ?_ | refine Kl_p ?_ | refine blk_p ?_ | exact Kb_p | refine vGoto_i ?_ | refine vLabel_i ?_ | refine Ks_g ?_ | refine Kl_g ?_ | refine blk_g ?_ | refine jmp_g ?_ | refine jmp_n ?_ | refine jmp_r ?_ | refine nog_n ?_ | refine nog_r ?_ | refine blk_n ?_ | refine blk_r ?_ | refine blk_e ?_ | refine blk_o (by decide) ?_ | refine cp_t ?_ | refine cp_f ?_
      | ((with_reducible apply vCond_x); (focus (simp only [lv, E1, E2, E5, ET, T, orc_mv, noO_mv, mvB, orc_bx, noO_bx, bxB, orc_sx, noO_sx, sxB, fwd, fwds, inv, mOk, Int.toNat_natCast, Nat.div_one, Nat.mul_one, Int.reduceToNat, SB, List.not_mem_nil, ↓reduceIte, ne_eq, reduceCtorEq, Nat.reduceLT, Nat.reduceEqDiff, Nat.reduceAdd, Nat.reduceMul, Nat.reduceLeDiff, Nat.reduceDiv, Nat.reduceMod, Nat.reduceSub, Nat.reduceBEq, List.length_map, rn_len, Opn.x, St.x, St.rx, Book.x, two_i, List.length_cons, List.length_nil]; with_reducible first | exact Eq.refl (bo true) | exact Eq.refl (bo false))))
      | ((with_reducible refine And.intro ?_ ?_); (focus (try omega)))
    all_goals try (exfalso; omega)
    all_goals refine Kf_r ?_
    all_goals simp only [Tryd.f22, E4, E3, E2, E5, rawX, deadX, ET, T, SB, List.not_mem_nil, ↓reduceIte, ne_eq, reduceCtorEq, Nat.reduceLT, Nat.reduceEqDiff, Nat.reduceAdd, Nat.reduceMul, Nat.reduceLeDiff, Nat.reduceDiv, Nat.reduceMod, Nat.reduceSub, Nat.reduceBEq, List.length_map, rn_len, Opn.x, St.x, St.rx, Book.x, two_i, List.length_cons, List.length_nil, bkE, bk0, noSt]
    all_goals rfl
  rw [h3] at q3
  by_cases h4 : cntF k.n = 0
  rotate_left
  · have hc : cntF k.n = 190 := by unfold cntF at h4 ⊢; split at h4 <;> first | (rw [if_pos (by assumption)]) | (exact absurd rfl h4)
    rw [show nextF a b c k o = (bk0, 190) by unfold nextF; rw [if_neg (fun q => q h1), if_neg (fun q => q h2), if_neg (fun q => q h3), if_pos h4]]
    rw [hc] at q5
    have q6 := first_b 190 (by decide)
    have q7 := whyE_ok 190
    simp only [argsG, Nat.zero_add, Nat.reduceAdd, Book.x, Opn.x, erX] at *
    repeat' first
      | ((first
          | ((with_reducible refine vR_cons (by decide) ?_); generalize hk : KtR _ _ _ _ _ _ _ _ _ _ = k)
          | ((first
          | with_reducible refine vOps_cons' ?_
          | ((with_reducible apply orc_i); (focus (exact q1; done)))
          | ((with_reducible apply orc_i); (focus (exact q2; done)))
          | ((with_reducible apply orc_i); (focus (exact q3; done)))
          | ((with_reducible apply orc_i); (focus (exact q5; done)))
          | ((with_reducible apply orc_i); (focus (exact q6; done)))
          | ((with_reducible apply orc_i); (focus (exact q7; done)))) <;> generalize hk : Kt _ _ _ _ _ _ _ _ _ = k)) <;> (simp only [Tryd.f22, lv, E1, E2, E5, ET, T, orc_mv, noO_mv, mvB, orc_bx, noO_bx, bxB, orc_sx, noO_sx, sxB, fwd, fwds, inv, mOk, Int.toNat_natCast, Nat.div_one, Nat.mul_one, Int.reduceToNat, SB, List.not_mem_nil, ↓reduceIte, ne_eq, reduceCtorEq, Nat.reduceLT, Nat.reduceEqDiff, Nat.reduceAdd, Nat.reduceMul, Nat.reduceLeDiff, Nat.reduceDiv, Nat.reduceMod, Nat.reduceSub, Nat.reduceBEq, List.length_map, rn_len, Opn.x, St.x, St.rx, Book.x, two_i, List.length_cons, List.length_nil]; (try simp (disch := omega) only [wrap_in, Int.toNat_natCast, tv_rn]); subst hk))
      | with_reducible first | refine Kt_p ?_ | refine Kt_i (by kernel_rfl) ?_ | refine Kr_f (by kernel_rfl) ?_
      | (with_reducible refine Kr_t ?_; simp only [List.length_append, List.length_cons, List.length_nil, Nat.reduceAdd, Nat.reduceSub, List.drop_succ_cons, List.drop_zero])
      | with_reducible first | refine vR_nil ?_ | refine KtR_i (by kernel_rfl) ?_ | refine KrR_i (by kernel_rfl) ?_ | refine vR_skip (by decide) ?_
      | ((with_reducible refine vB_i ?_ ?_) <;> intro _ <;> (first | (exfalso; omega) | (exact absurd trivial ‹¬True›) | (try dsimp only [])))
      | ((with_reducible refine vOps_nil' ?_); refine Kr_i (by kernel_rfl) ?_; generalize hk : plain _ _ = G; simp only [lv, E3, E2, E5, rawX, deadX, SB, List.not_mem_nil, ↓reduceIte, ne_eq, reduceCtorEq, Nat.reduceLT, Nat.reduceEqDiff, Nat.reduceAdd, Nat.reduceMul, Nat.reduceLeDiff, Nat.reduceDiv, Nat.reduceMod, Nat.reduceSub, Nat.reduceBEq, List.length_map, rn_len, Opn.x, St.x, St.rx, Book.x, two_i, List.length_cons, List.length_nil] at hk; subst hk)
      | with_reducible refine vSeq_i ?_
      | with_reducible first | refine vRegion_i (by kernel_rfl) ?_ | refine Kv_i ?_
      | ((with_reducible apply vStrK_i); (focus (rfl; done)))
      | ((with_reducible refine imp_i ?_); intro _)
      | with_reducible first | refine Ks_n ?_ | refine Ks_r ?_ | refine Ks_e ?_ | refine Kl_e ?_ | refine Kx_n ?_ | refine Kl_r ?_ | refine vRet_i ?_ | refine vSkip_i ?_ | refine vExit_i ?_ | refine vBlock_i ?_ | refine Ks_p ?_ | refine Kl_p ?_ | refine blk_p ?_ | exact Kb_p | refine vGoto_i ?_ | refine vLabel_i ?_ | refine Ks_g ?_ | refine Kl_g ?_ | refine blk_g ?_ | refine jmp_g ?_ | refine jmp_n ?_ | refine jmp_r ?_ | refine nog_n ?_ | refine nog_r ?_ | refine blk_n ?_ | refine blk_r ?_ | refine blk_e ?_ | refine blk_o (by decide) ?_ | refine cp_t ?_ | refine cp_f ?_
      | ((with_reducible apply vCond_x); (focus (simp only [lv, E1, E2, E5, ET, T, orc_mv, noO_mv, mvB, orc_bx, noO_bx, bxB, orc_sx, noO_sx, sxB, fwd, fwds, inv, mOk, Int.toNat_natCast, Nat.div_one, Nat.mul_one, Int.reduceToNat, SB, List.not_mem_nil, ↓reduceIte, ne_eq, reduceCtorEq, Nat.reduceLT, Nat.reduceEqDiff, Nat.reduceAdd, Nat.reduceMul, Nat.reduceLeDiff, Nat.reduceDiv, Nat.reduceMod, Nat.reduceSub, Nat.reduceBEq, List.length_map, rn_len, Opn.x, St.x, St.rx, Book.x, two_i, List.length_cons, List.length_nil]; with_reducible first | exact Eq.refl (bo true) | exact Eq.refl (bo false))))
      | ((with_reducible refine And.intro ?_ ?_); (focus (try omega)))
    all_goals try (exfalso; omega)
    all_goals refine Kf_r ?_
    all_goals simp only [Tryd.f22, E4, E3, E2, E5, rawX, deadX, ET, T, SB, List.not_mem_nil, ↓reduceIte, ne_eq, reduceCtorEq, Nat.reduceLT, Nat.reduceEqDiff, Nat.reduceAdd, Nat.reduceMul, Nat.reduceLeDiff, Nat.reduceDiv, Nat.reduceMod, Nat.reduceSub, Nat.reduceBEq, List.length_map, rn_len, Opn.x, St.x, St.rx, Book.x, two_i, List.length_cons, List.length_nil, bkE, bk0, noSt]
    all_goals rfl
  rw [h4] at q5
  have q8 := first_no
  by_cases h5 : stC (appF k.s o).1 > 54 * b
  · rw [show nextF a b c k o = (bk0, 240) by unfold nextF; rw [if_neg (fun q => q h1), if_neg (fun q => q h2), if_neg (fun q => q h3), if_neg (fun q => q h4), if_pos h5]]
    have q6 := fun e => first_a 240 e (by decide)
    have q7 := whyE_ok 240
    simp only [argsG, Nat.zero_add, Nat.reduceAdd, Book.x, Opn.x, erX] at *
    repeat' first
      | ((first
          | ((with_reducible refine vR_cons (by decide) ?_); generalize hk : KtR _ _ _ _ _ _ _ _ _ _ = k)
          | ((first
          | with_reducible refine vOps_cons' ?_
          | ((with_reducible apply orc_i); (focus (exact q1; done)))
          | ((with_reducible apply orc_i); (focus (exact q2; done)))
          | ((with_reducible apply orc_i); (focus (exact q3; done)))
          | ((with_reducible apply orc_i); (focus (exact q5; done)))
          | ((with_reducible apply orc_i); (focus (exact q8; done)))
          | ((with_reducible apply orc_i); (focus (exact q4; done)))
          | ((with_reducible apply orc_i); (focus (exact q6 _; done)))
          | ((with_reducible apply orc_i); (focus (exact q7; done)))) <;> generalize hk : Kt _ _ _ _ _ _ _ _ _ = k)) <;> (simp only [Tryd.f22, lv, E1, E2, E5, ET, T, orc_mv, noO_mv, mvB, orc_bx, noO_bx, bxB, orc_sx, noO_sx, sxB, fwd, fwds, inv, mOk, Int.toNat_natCast, Nat.div_one, Nat.mul_one, Int.reduceToNat, SB, List.not_mem_nil, ↓reduceIte, ne_eq, reduceCtorEq, Nat.reduceLT, Nat.reduceEqDiff, Nat.reduceAdd, Nat.reduceMul, Nat.reduceLeDiff, Nat.reduceDiv, Nat.reduceMod, Nat.reduceSub, Nat.reduceBEq, List.length_map, rn_len, Opn.x, St.x, St.rx, Book.x, two_i, List.length_cons, List.length_nil]; (try simp (disch := omega) only [wrap_in, Int.toNat_natCast, tv_rn]); subst hk))
      | with_reducible first | refine Kt_p ?_ | refine Kt_i (by kernel_rfl) ?_ | refine Kr_f (by kernel_rfl) ?_
      | (with_reducible refine Kr_t ?_; simp only [List.length_append, List.length_cons, List.length_nil, Nat.reduceAdd, Nat.reduceSub, List.drop_succ_cons, List.drop_zero])
      | with_reducible first | refine vR_nil ?_ | refine KtR_i (by kernel_rfl) ?_ | refine KrR_i (by kernel_rfl) ?_ | refine vR_skip (by decide) ?_
      | ((with_reducible refine vB_i ?_ ?_) <;> intro _ <;> (first | (exfalso; omega) | (exact absurd trivial ‹¬True›) | (try dsimp only [])))
      | ((with_reducible refine vOps_nil' ?_); refine Kr_i (by kernel_rfl) ?_; generalize hk : plain _ _ = G; simp only [lv, E3, E2, E5, rawX, deadX, SB, List.not_mem_nil, ↓reduceIte, ne_eq, reduceCtorEq, Nat.reduceLT, Nat.reduceEqDiff, Nat.reduceAdd, Nat.reduceMul, Nat.reduceLeDiff, Nat.reduceDiv, Nat.reduceMod, Nat.reduceSub, Nat.reduceBEq, List.length_map, rn_len, Opn.x, St.x, St.rx, Book.x, two_i, List.length_cons, List.length_nil] at hk; subst hk)
      | with_reducible refine vSeq_i ?_
      | with_reducible first | refine vRegion_i (by kernel_rfl) ?_ | refine Kv_i ?_
      | ((with_reducible apply vStrK_i); (focus (rfl; done)))
      | ((with_reducible refine imp_i ?_); intro _)
      | with_reducible first | refine Ks_n ?_ | refine Ks_r ?_ | refine Ks_e ?_ | refine Kl_e ?_ | refine Kx_n ?_ | refine Kl_r ?_ | refine vRet_i ?_ | refine vSkip_i ?_ | refine vExit_i ?_ | refine vBlock_i ?_ | refine Ks_p ?_ | refine Kl_p ?_ | refine blk_p ?_ | exact Kb_p | refine vGoto_i ?_ | refine vLabel_i ?_ | refine Ks_g ?_ | refine Kl_g ?_ | refine blk_g ?_ | refine jmp_g ?_ | refine jmp_n ?_ | refine jmp_r ?_ | refine nog_n ?_ | refine nog_r ?_ | refine blk_n ?_ | refine blk_r ?_ | refine blk_e ?_ | refine blk_o (by decide) ?_ | refine cp_t ?_ | refine cp_f ?_
      | ((with_reducible apply vCond_x); (focus (simp only [lv, E1, E2, E5, ET, T, orc_mv, noO_mv, mvB, orc_bx, noO_bx, bxB, orc_sx, noO_sx, sxB, fwd, fwds, inv, mOk, Int.toNat_natCast, Nat.div_one, Nat.mul_one, Int.reduceToNat, SB, List.not_mem_nil, ↓reduceIte, ne_eq, reduceCtorEq, Nat.reduceLT, Nat.reduceEqDiff, Nat.reduceAdd, Nat.reduceMul, Nat.reduceLeDiff, Nat.reduceDiv, Nat.reduceMod, Nat.reduceSub, Nat.reduceBEq, List.length_map, rn_len, Opn.x, St.x, St.rx, Book.x, two_i, List.length_cons, List.length_nil]; with_reducible first | exact Eq.refl (bo true) | exact Eq.refl (bo false))))
      | ((with_reducible refine And.intro ?_ ?_); (focus (try omega)))
    all_goals try (exfalso; omega)
    all_goals refine Kf_r ?_
    all_goals simp only [Tryd.f22, E4, E3, E2, E5, rawX, deadX, ET, T, SB, List.not_mem_nil, ↓reduceIte, ne_eq, reduceCtorEq, Nat.reduceLT, Nat.reduceEqDiff, Nat.reduceAdd, Nat.reduceMul, Nat.reduceLeDiff, Nat.reduceDiv, Nat.reduceMod, Nat.reduceSub, Nat.reduceBEq, List.length_map, rn_len, Opn.x, St.x, St.rx, Book.x, two_i, List.length_cons, List.length_nil, bkE, bk0, noSt]
    all_goals rfl
  by_cases h6 : k.u < 0 ∨ opC o > 64 * a - k.u
  · rw [show nextF a b c k o = (bk0, 190) by unfold nextF; rw [if_neg (fun q => q h1), if_neg (fun q => q h2), if_neg (fun q => q h3), if_neg (fun q => q h4), if_neg h5, if_pos h6]]
    have q6 := first_b 190 (by decide)
    have q7 := whyE_ok 190
    simp only [argsG, Nat.zero_add, Nat.reduceAdd, Book.x, Opn.x, erX] at *
    repeat' first
      | ((first
          | ((with_reducible refine vR_cons (by decide) ?_); generalize hk : KtR _ _ _ _ _ _ _ _ _ _ = k)
          | ((first
          | with_reducible refine vOps_cons' ?_
          | ((with_reducible apply orc_i); (focus (exact q1; done)))
          | ((with_reducible apply orc_i); (focus (exact q2; done)))
          | ((with_reducible apply orc_i); (focus (exact q3; done)))
          | ((with_reducible apply orc_i); (focus (exact q5; done)))
          | ((with_reducible apply orc_i); (focus (exact q8; done)))
          | ((with_reducible apply orc_i); (focus (exact q4; done)))
          | ((with_reducible apply orc_i); (focus (exact q6; done)))
          | ((with_reducible apply orc_i); (focus (exact q7; done)))) <;> generalize hk : Kt _ _ _ _ _ _ _ _ _ = k)) <;> (simp only [Tryd.f22, lv, E1, E2, E5, ET, T, orc_mv, noO_mv, mvB, orc_bx, noO_bx, bxB, orc_sx, noO_sx, sxB, fwd, fwds, inv, mOk, Int.toNat_natCast, Nat.div_one, Nat.mul_one, Int.reduceToNat, SB, List.not_mem_nil, ↓reduceIte, ne_eq, reduceCtorEq, Nat.reduceLT, Nat.reduceEqDiff, Nat.reduceAdd, Nat.reduceMul, Nat.reduceLeDiff, Nat.reduceDiv, Nat.reduceMod, Nat.reduceSub, Nat.reduceBEq, List.length_map, rn_len, Opn.x, St.x, St.rx, Book.x, two_i, List.length_cons, List.length_nil]; (try simp (disch := omega) only [wrap_in, Int.toNat_natCast, tv_rn]); subst hk))
      | with_reducible first | refine Kt_p ?_ | refine Kt_i (by kernel_rfl) ?_ | refine Kr_f (by kernel_rfl) ?_
      | (with_reducible refine Kr_t ?_; simp only [List.length_append, List.length_cons, List.length_nil, Nat.reduceAdd, Nat.reduceSub, List.drop_succ_cons, List.drop_zero])
      | with_reducible first | refine vR_nil ?_ | refine KtR_i (by kernel_rfl) ?_ | refine KrR_i (by kernel_rfl) ?_ | refine vR_skip (by decide) ?_
      | ((with_reducible refine vB_i ?_ ?_) <;> intro _ <;> (first | (exfalso; omega) | (exact absurd trivial ‹¬True›) | (try dsimp only [])))
      | ((with_reducible refine vOps_nil' ?_); refine Kr_i (by kernel_rfl) ?_; generalize hk : plain _ _ = G; simp only [lv, E3, E2, E5, rawX, deadX, SB, List.not_mem_nil, ↓reduceIte, ne_eq, reduceCtorEq, Nat.reduceLT, Nat.reduceEqDiff, Nat.reduceAdd, Nat.reduceMul, Nat.reduceLeDiff, Nat.reduceDiv, Nat.reduceMod, Nat.reduceSub, Nat.reduceBEq, List.length_map, rn_len, Opn.x, St.x, St.rx, Book.x, two_i, List.length_cons, List.length_nil] at hk; subst hk)
      | with_reducible refine vSeq_i ?_
      | with_reducible first | refine vRegion_i (by kernel_rfl) ?_ | refine Kv_i ?_
      | ((with_reducible apply vStrK_i); (focus (rfl; done)))
      | ((with_reducible refine imp_i ?_); intro _)
      | with_reducible first | refine Ks_n ?_ | refine Ks_r ?_ | refine Ks_e ?_ | refine Kl_e ?_ | refine Kx_n ?_ | refine Kl_r ?_ | refine vRet_i ?_ | refine vSkip_i ?_ | refine vExit_i ?_ | refine vBlock_i ?_ | refine Ks_p ?_ | refine Kl_p ?_ | refine blk_p ?_ | exact Kb_p | refine vGoto_i ?_ | refine vLabel_i ?_ | refine Ks_g ?_ | refine Kl_g ?_ | refine blk_g ?_ | refine jmp_g ?_ | refine jmp_n ?_ | refine jmp_r ?_ | refine nog_n ?_ | refine nog_r ?_ | refine blk_n ?_ | refine blk_r ?_ | refine blk_e ?_ | refine blk_o (by decide) ?_ | refine cp_t ?_ | refine cp_f ?_
      | ((with_reducible apply vCond_x); (focus (simp only [lv, E1, E2, E5, ET, T, orc_mv, noO_mv, mvB, orc_bx, noO_bx, bxB, orc_sx, noO_sx, sxB, fwd, fwds, inv, mOk, Int.toNat_natCast, Nat.div_one, Nat.mul_one, Int.reduceToNat, SB, List.not_mem_nil, ↓reduceIte, ne_eq, reduceCtorEq, Nat.reduceLT, Nat.reduceEqDiff, Nat.reduceAdd, Nat.reduceMul, Nat.reduceLeDiff, Nat.reduceDiv, Nat.reduceMod, Nat.reduceSub, Nat.reduceBEq, List.length_map, rn_len, Opn.x, St.x, St.rx, Book.x, two_i, List.length_cons, List.length_nil]; with_reducible first | exact Eq.refl (bo true) | exact Eq.refl (bo false))))
      | ((with_reducible refine And.intro ?_ ?_); (focus (try omega)))
    all_goals try (exfalso; omega)
    all_goals refine Kf_r ?_
    all_goals simp only [Tryd.f22, E4, E3, E2, E5, rawX, deadX, ET, T, SB, List.not_mem_nil, ↓reduceIte, ne_eq, reduceCtorEq, Nat.reduceLT, Nat.reduceEqDiff, Nat.reduceAdd, Nat.reduceMul, Nat.reduceLeDiff, Nat.reduceDiv, Nat.reduceMod, Nat.reduceSub, Nat.reduceBEq, List.length_map, rn_len, Opn.x, St.x, St.rx, Book.x, two_i, List.length_cons, List.length_nil, bkE, bk0, noSt]
    all_goals rfl
  rw [show nextF a b c k o = (⟨(appF k.s o).1, k.n + 1, k.u + opC o⟩, 0) by unfold nextF; rw [if_neg (fun q => q h1), if_neg (fun q => q h2), if_neg (fun q => q h3), if_neg (fun q => q h4), if_neg h5, if_neg h6]]
  have hcn : 0 ≤ k.n ∧ k.n < 2147483647 := by
    unfold cntF at h4; split at h4
    · cases h4
    · omega
  simp only [argsG, Nat.zero_add, Nat.reduceAdd, Book.x, Opn.x, erX] at *
  repeat' first
    | ((first
        | ((with_reducible refine vR_cons (by decide) ?_); generalize hk : KtR _ _ _ _ _ _ _ _ _ _ = k)
        | ((first
        | with_reducible refine vOps_cons' ?_
        | ((with_reducible apply orc_i); (focus (exact q1; done)))
        | ((with_reducible apply orc_i); (focus (exact q2; done)))
        | ((with_reducible apply orc_i); (focus (exact q3; done)))
        | ((with_reducible apply orc_i); (focus (exact q5; done)))
        | ((with_reducible apply orc_i); (focus (exact q8; done)))
        | ((with_reducible apply orc_i); (focus (exact q4; done)))) <;> generalize hk : Kt _ _ _ _ _ _ _ _ _ = k)) <;> (simp only [Tryd.f22, lv, E1, E2, E5, ET, T, orc_mv, noO_mv, mvB, orc_bx, noO_bx, bxB, orc_sx, noO_sx, sxB, fwd, fwds, inv, mOk, Int.toNat_natCast, Nat.div_one, Nat.mul_one, Int.reduceToNat, SB, List.not_mem_nil, ↓reduceIte, ne_eq, reduceCtorEq, Nat.reduceLT, Nat.reduceEqDiff, Nat.reduceAdd, Nat.reduceMul, Nat.reduceLeDiff, Nat.reduceDiv, Nat.reduceMod, Nat.reduceSub, Nat.reduceBEq, List.length_map, rn_len, Opn.x, St.x, St.rx, Book.x, two_i, List.length_cons, List.length_nil]; (try simp (disch := omega) only [wrap_in, Int.toNat_natCast, tv_rn]); subst hk))
    | with_reducible first | refine Kt_p ?_ | refine Kt_i (by kernel_rfl) ?_ | refine Kr_f (by kernel_rfl) ?_
    | (with_reducible refine Kr_t ?_; simp only [List.length_append, List.length_cons, List.length_nil, Nat.reduceAdd, Nat.reduceSub, List.drop_succ_cons, List.drop_zero])
    | with_reducible first | refine vR_nil ?_ | refine KtR_i (by kernel_rfl) ?_ | refine KrR_i (by kernel_rfl) ?_ | refine vR_skip (by decide) ?_
    | ((with_reducible refine vB_i ?_ ?_) <;> intro _ <;> (first | (exfalso; omega) | (exact absurd trivial ‹¬True›) | (try dsimp only [])))
    | ((with_reducible refine vOps_nil' ?_); refine Kr_i (by kernel_rfl) ?_; generalize hk : plain _ _ = G; simp only [lv, E3, E2, E5, rawX, deadX, SB, List.not_mem_nil, ↓reduceIte, ne_eq, reduceCtorEq, Nat.reduceLT, Nat.reduceEqDiff, Nat.reduceAdd, Nat.reduceMul, Nat.reduceLeDiff, Nat.reduceDiv, Nat.reduceMod, Nat.reduceSub, Nat.reduceBEq, List.length_map, rn_len, Opn.x, St.x, St.rx, Book.x, two_i, List.length_cons, List.length_nil] at hk; subst hk)
    | with_reducible refine vSeq_i ?_
    | with_reducible first | refine vRegion_i (by kernel_rfl) ?_ | refine Kv_i ?_
    | ((with_reducible apply vStrK_i); (focus (rfl; done)))
    | ((with_reducible refine imp_i ?_); intro _)
    | with_reducible first | refine Ks_n ?_ | refine Ks_r ?_ | refine Ks_e ?_ | refine Kl_e ?_ | refine Kx_n ?_ | refine Kl_r ?_ | refine vRet_i ?_ | refine vSkip_i ?_ | refine vExit_i ?_ | refine vBlock_i ?_ | refine Ks_p ?_ | refine Kl_p ?_ | refine blk_p ?_ | exact Kb_p | refine vGoto_i ?_ | refine vLabel_i ?_ | refine Ks_g ?_ | refine Kl_g ?_ | refine blk_g ?_ | refine jmp_g ?_ | refine jmp_n ?_ | refine jmp_r ?_ | refine nog_n ?_ | refine nog_r ?_ | refine blk_n ?_ | refine blk_r ?_ | refine blk_e ?_ | refine blk_o (by decide) ?_ | refine cp_t ?_ | refine cp_f ?_
    | ((with_reducible apply vCond_x); (focus (simp only [lv, E1, E2, E5, ET, T, orc_mv, noO_mv, mvB, orc_bx, noO_bx, bxB, orc_sx, noO_sx, sxB, fwd, fwds, inv, mOk, Int.toNat_natCast, Nat.div_one, Nat.mul_one, Int.reduceToNat, SB, List.not_mem_nil, ↓reduceIte, ne_eq, reduceCtorEq, Nat.reduceLT, Nat.reduceEqDiff, Nat.reduceAdd, Nat.reduceMul, Nat.reduceLeDiff, Nat.reduceDiv, Nat.reduceMod, Nat.reduceSub, Nat.reduceBEq, List.length_map, rn_len, Opn.x, St.x, St.rx, Book.x, two_i, List.length_cons, List.length_nil]; with_reducible first | exact Eq.refl (bo true) | exact Eq.refl (bo false))))
    | ((with_reducible refine And.intro ?_ ?_); (focus (try omega)))
  all_goals try (exfalso; omega)
  all_goals refine Kf_r ?_
  all_goals simp only [Tryd.f22, E4, E3, E2, E5, rawX, deadX, ET, T, SB, List.not_mem_nil, ↓reduceIte, ne_eq, reduceCtorEq, Nat.reduceLT, Nat.reduceEqDiff, Nat.reduceAdd, Nat.reduceMul, Nat.reduceLeDiff, Nat.reduceDiv, Nat.reduceMod, Nat.reduceSub, Nat.reduceBEq, List.length_map, rn_len, Opn.x, St.x, St.rx, Book.x, two_i, List.length_cons, List.length_nil, bkE, bk0, noSt]
  all_goals rfl
end Go.Proofs.YtdpflafjfkooeaaDoorG
namespace Go.Proofs.YtdpflafjfkooeaaDoorG.Dec
open Go Go.RowKit Go.Proofs
set_option linter.unusedSimpArgs false
set_option linter.unusedVariables false
/-! ### bytes and what they are as scalar values, in plain Lean -/
def rd (l : List Int) (i : Int) : Int := l.getD i.toNat 0
def Bytes (l : List Int) : Prop := ∀ x ∈ l, 0 ≤ x ∧ x ≤ 255
def form (r : Int) : List Int :=
  if szU r = 1 then [r]
  else if szU r = 2 then [192 + r / 64, 128 + r % 64]
  else if szU r = 3 then [224 + r / 4096, 128 + r / 64 % 64, 128 + r % 64]
  else if szU r = 4 then [240 + r / 262144, 128 + r / 4096 % 64, 128 + r / 64 % 64, 128 + r % 64]
  else []
theorem size_range (r : Int) : szU r = 0 ∨ szU r = 1 ∨ szU r = 2 ∨ szU r = 3 ∨ szU r = 4 := by
  unfold szU
  repeat' split
  all_goals simp
theorem size_one {r : Int} (h : szU r = 1) : 0 ≤ r ∧ r < 128 := by
  unfold szU at h
  repeat' split at h
  all_goals omega
theorem size_two {r : Int} (h : szU r = 2) : 128 ≤ r ∧ r < 2048 := by
  unfold szU at h
  repeat' split at h
  all_goals omega
theorem size_three {r : Int} (h : szU r = 3) : 2048 ≤ r ∧ r < 65536 := by
  unfold szU at h
  repeat' split at h
  all_goals omega
theorem size_four {r : Int} (h : szU r = 4) : 65536 ≤ r ∧ r < 1114112 := by
  unfold szU at h
  repeat' split at h
  all_goals omega
theorem form_len (r : Int) : ((form r).length : Int) = szU r := by
  unfold form
  rcases size_range r with h | h | h | h | h <;> simp [h]
theorem form_byte (r : Int) : ∀ x ∈ form r, 0 ≤ x ∧ x ≤ 255 := by
  intro x hx
  unfold form at hx
  rcases size_range r with h | h | h | h | h
  · simp [h] at hx
  · have := size_one h
    simp [h] at hx
    omega
  · have := size_two h
    simp [h] at hx
    rcases hx with rfl | rfl <;> omega
  · have := size_three h
    simp [h] at hx
    rcases hx with rfl | rfl | rfl <;> omega
  · have := size_four h
    simp [h] at hx
    rcases hx with rfl | rfl | rfl | rfl <;> omega
theorem rd_byte {l : List Int} (h : Bytes l) (i : Nat) (hi : i < l.length) : 0 ≤ rd l i ∧ rd l i ≤ 255 := by
  have : rd l (i : Int) = l[i] := by simp [rd, List.getD, List.getElem?_eq_getElem hi]
  rw [this]; exact h _ (List.getElem_mem hi)
def cont (x : Int) : Bool := decide (128 ≤ x ∧ x < 192)
def two (l : List Int) : Int := rd l 0 % 32 * 64 + rd l 1 % 64
def three (l : List Int) : Int := (rd l 0 % 16 * 64 + rd l 1 % 64) * 64 + rd l 2 % 64
def four (l : List Int) : Int := ((rd l 0 % 8 * 64 + rd l 1 % 64) * 64 + rd l 2 % 64) * 64 + rd l 3 % 64
/-- The form at the front of bytes: its number and its length; (0, 0): there is none. -/
def nx (l : List Int) : Int × Int :=
  if l.length = 0 then (0, 0)
  else if rd l 0 < 128 then (rd l 0, 1)
  else if rd l 0 < 192 then (0, 0)
  else if rd l 0 < 224 then (if 2 ≤ l.length ∧ cont (rd l 1) = true ∧ szU (two l) = 2 then (two l, 2) else (0, 0))
  else if rd l 0 < 240 then (if 3 ≤ l.length ∧ cont (rd l 1) = true ∧ cont (rd l 2) = true ∧ szU (three l) = 3 then (three l, 3) else (0, 0))
  else if rd l 0 < 248 then (if 4 ≤ l.length ∧ cont (rd l 1) = true ∧ cont (rd l 2) = true ∧ cont (rd l 3) = true ∧ szU (four l) = 4 then (four l, 4) else (0, 0))
  else (0, 0)
def valR (l : List Int) (n : Int) : Int :=
  if n = 1 then rd l 0 else if n = 2 then (rd l 0 - 192) * 64 + rd l 1 - 128 else if n = 3 then ((rd l 0 - 224) * 64 + rd l 1 - 128) * 64 + rd l 2 - 128 else (((rd l 0 - 240) * 64 + rd l 1 - 128) * 64 + rd l 2 - 128) * 64 + rd l 3 - 128
theorem cont_iff (x : Int) : cont x = true ↔ 128 ≤ x ∧ x < 192 := by unfold cont; simp
theorem size_one_iff (r : Int) : szU r = 1 ↔ 0 ≤ r ∧ r < 128 := by unfold szU; (repeat' split) <;> omega
theorem size_two_iff (r : Int) : szU r = 2 ↔ 128 ≤ r ∧ r < 2048 := by unfold szU; (repeat' split) <;> omega
theorem size_three_iff (r : Int) : szU r = 3 ↔ (2048 ≤ r ∧ r < 65536) ∧ ¬ (55296 ≤ r ∧ r < 57344) := by unfold szU; (repeat' split) <;> omega
theorem size_four_iff (r : Int) : szU r = 4 ↔ 65536 ≤ r ∧ r < 1114112 := by unfold szU; (repeat' split) <;> omega
theorem size_zero_iff (r : Int) : szU r = 0 ↔ r < 0 ∨ 1114111 < r ∨ (55296 ≤ r ∧ r < 57344) := by
  have h1 := size_one_iff r
  have h2 := size_two_iff r
  have h3 := size_three_iff r
  have h4 := size_four_iff r
  have h5 := size_range r
  omega
/-- What the bytes at the front must be, that a form of n bytes stands there. -/
def Is (l : List Int) (n : Nat) : Prop :=
  (n = 1 ∧ 1 ≤ l.length ∧ rd l 0 < 128) ∨
  (n = 2 ∧ 2 ≤ l.length ∧ 192 ≤ rd l 0 ∧ rd l 0 < 224 ∧ cont (rd l 1) = true ∧ szU (two l) = 2) ∨
  (n = 3 ∧ 3 ≤ l.length ∧ 224 ≤ rd l 0 ∧ rd l 0 < 240 ∧ cont (rd l 1) = true ∧ cont (rd l 2) = true ∧ szU (three l) = 3) ∨
  (n = 4 ∧ 4 ≤ l.length ∧ 240 ≤ rd l 0 ∧ rd l 0 < 248 ∧ cont (rd l 1) = true ∧ cont (rd l 2) = true ∧ cont (rd l 3) = true ∧ szU (four l) = 4)
def val (l : List Int) (n : Nat) : Int := if n = 1 then rd l 0 else if n = 2 then two l else if n = 3 then three l else four l
/-- The program's reader, by what stands there. -/
theorem nx_cases (l : List Int) : (∃ n : Nat, Is l n ∧ nx l = (val l n, (n : Int))) ∨ ((∀ n, ¬ Is l n) ∧ nx l = (0, 0)) := by
  unfold nx
  by_cases z : l.length = 0
  · right
    rw [if_pos z]
    refine ⟨fun n h => ?_, rfl⟩
    unfold Is at h
    omega
  rw [if_neg z]
  by_cases c1 : rd l 0 < 128
  · left
    rw [if_pos c1]
    exact ⟨1, .inl ⟨rfl, by omega, c1⟩, rfl⟩
  rw [if_neg c1]
  by_cases c2 : rd l 0 < 192
  · right
    rw [if_pos c2]
    refine ⟨fun n h => ?_, rfl⟩
    unfold Is at h
    omega
  rw [if_neg c2]
  by_cases c3 : rd l 0 < 224
  · rw [if_pos c3]
    split
    · rename_i h
      left
      exact ⟨2, .inr (.inl ⟨rfl, h.1, by omega, c3, h.2.1, h.2.2⟩), rfl⟩
    · rename_i h
      right
      refine ⟨fun n hn => ?_, rfl⟩
      rcases hn with hn | hn | hn | hn
      · omega
      · exact h ⟨hn.2.1, hn.2.2.2.2.1, hn.2.2.2.2.2⟩
      · omega
      · omega
  rw [if_neg c3]
  by_cases c4 : rd l 0 < 240
  · rw [if_pos c4]
    split
    · rename_i h
      left
      exact ⟨3, .inr (.inr (.inl ⟨rfl, h.1, by omega, c4, h.2.1, h.2.2.1, h.2.2.2⟩)), rfl⟩
    · rename_i h
      right
      refine ⟨fun n hn => ?_, rfl⟩
      rcases hn with hn | hn | hn | hn
      · omega
      · omega
      · exact h ⟨hn.2.1, hn.2.2.2.2.1, hn.2.2.2.2.2.1, hn.2.2.2.2.2.2⟩
      · omega
  rw [if_neg c4]
  by_cases c5 : rd l 0 < 248
  · rw [if_pos c5]
    split
    · rename_i h
      left
      exact ⟨4, .inr (.inr (.inr ⟨rfl, h.1, by omega, c5, h.2.1, h.2.2.1, h.2.2.2.1, h.2.2.2.2⟩)), rfl⟩
    · rename_i h
      right
      refine ⟨fun n hn => ?_, rfl⟩
      rcases hn with hn | hn | hn | hn
      · omega
      · omega
      · omega
      · exact h ⟨hn.2.1, hn.2.2.2.2.1, hn.2.2.2.2.2.1, hn.2.2.2.2.2.2.1, hn.2.2.2.2.2.2.2⟩
  rw [if_neg c5]
  right
  refine ⟨fun n h => ?_, rfl⟩
  unfold Is at h
  omega
theorem take_two (l : List Int) (h : 2 ≤ l.length) : l.take 2 = [rd l 0, rd l 1] := by
  match l, h with
  | a :: b :: _, _ => simp [rd]
theorem take_three (l : List Int) (h : 3 ≤ l.length) : l.take 3 = [rd l 0, rd l 1, rd l 2] := by
  match l, h with
  | a :: b :: c :: _, _ => simp [rd]
theorem take_four (l : List Int) (h : 4 ≤ l.length) : l.take 4 = [rd l 0, rd l 1, rd l 2, rd l 3] := by
  match l, h with
  | a :: b :: c :: d :: _, _ => simp [rd]
theorem take_one (l : List Int) (h : 1 ≤ l.length) : l.take 1 = [rd l 0] := by
  match l, h with
  | a :: _, _ => simp [rd]
/-- The document's test of n bytes at the front. -/
theorem is_iff (l : List Int) (hb : Bytes l) (n : Nat) (h1 : 1 ≤ n) (h4 : n ≤ 4) (hn : n ≤ l.length) :
    (szU (valR l n) = n ∧ form (valR l n) = l.take n) ↔ Is l n := by
  have b0 := rd_byte hb 0 (by omega)
  have e : ∀ j : Nat, (0 : Int) + (j : Int) = (j : Int) := fun j => by omega
  have hk : n = 1 ∨ n = 2 ∨ n = 3 ∨ n = 4 := by omega
  simp only [Int.natCast_zero] at b0
  rcases hk with rfl | rfl | rfl | rfl
  · rw [take_one l hn]
    simp only [valR, Is, Int.natCast_one, if_pos]
    constructor
    · rintro ⟨h, _⟩
      have := size_one h
      exact .inl ⟨trivial, hn, by omega⟩
    · intro h
      have h2 : rd l 0 < 128 := by omega
      have h3 : szU (rd l 0) = 1 := (size_one_iff _).mpr ⟨b0.1, h2⟩
      exact ⟨h3, by simp [form, h3]⟩
  · have b1 := rd_byte hb 1 (by omega)
    simp only [Int.natCast_one] at b1
    rw [take_two l hn]
    have hv : valR l (2 : Nat) = (rd l 0 - 192) * 64 + rd l 1 - 128 := rfl
    rw [hv]
    simp only [Is, two, cont_iff]
    generalize rd l 0 = x0 at *
    generalize rd l 1 = x1 at *
    constructor
    · rintro ⟨h, hf⟩
      have h' : szU ((x0 - 192) * 64 + x1 - 128) = 2 := h
      have hr := size_two h'
      simp only [form, h'] at hf
      simp at hf
      refine .inr (.inl ⟨trivial, hn, by omega, by omega, by omega, ?_⟩)
      rw [show x0 % 32 * 64 + x1 % 64 = (x0 - 192) * 64 + x1 - 128 by omega]
      exact h'
    · intro h
      have h2 : 192 ≤ x0 ∧ x0 < 224 ∧ (128 ≤ x1 ∧ x1 < 192) := by omega
      have h3 : szU (x0 % 32 * 64 + x1 % 64) = 2 := by
        rcases h with h | h | h | h
        · omega
        · exact h.2.2.2.2.2
        · omega
        · omega
      rw [show x0 % 32 * 64 + x1 % 64 = (x0 - 192) * 64 + x1 - 128 by omega] at h3
      refine ⟨h3, ?_⟩
      have hr := size_two h3
      simp only [form, h3]
      simp
      omega
  · have b1 := rd_byte hb 1 (by omega)
    have b2 := rd_byte hb 2 (by omega)
    simp only [Int.natCast_one] at b1
    rw [take_three l hn]
    have hv : valR l (3 : Nat) = ((rd l 0 - 224) * 64 + rd l 1 - 128) * 64 + rd l 2 - 128 := rfl
    rw [hv]
    simp only [Is, three, cont_iff]
    have b2' : 0 ≤ rd l 2 ∧ rd l 2 ≤ 255 := b2
    clear b2 hv
    generalize rd l 0 = x0 at *
    generalize rd l 1 = x1 at *
    generalize rd l 2 = x2 at *
    constructor
    · rintro ⟨h, hf⟩
      have h' : szU (((x0 - 224) * 64 + x1 - 128) * 64 + x2 - 128) = 3 := h
      have hr := size_three h'
      simp only [form, h'] at hf
      simp at hf
      refine .inr (.inr (.inl ⟨trivial, hn, by omega, by omega, by omega, by omega, ?_⟩))
      rw [show (x0 % 16 * 64 + x1 % 64) * 64 + x2 % 64 = ((x0 - 224) * 64 + x1 - 128) * 64 + x2 - 128 by omega]
      exact h'
    · intro h
      have h2 : 224 ≤ x0 ∧ x0 < 240 ∧ (128 ≤ x1 ∧ x1 < 192) ∧ (128 ≤ x2 ∧ x2 < 192) := by omega
      have h3 : szU ((x0 % 16 * 64 + x1 % 64) * 64 + x2 % 64) = 3 := by
        rcases h with h | h | h | h
        · omega
        · omega
        · exact h.2.2.2.2.2.2
        · omega
      rw [show (x0 % 16 * 64 + x1 % 64) * 64 + x2 % 64 = ((x0 - 224) * 64 + x1 - 128) * 64 + x2 - 128 by omega] at h3
      refine ⟨h3, ?_⟩
      have hr := size_three h3
      simp only [form, h3]
      simp
      omega
  · have b1 := rd_byte hb 1 (by omega)
    have b2 := rd_byte hb 2 (by omega)
    have b3 := rd_byte hb 3 (by omega)
    simp only [Int.natCast_one] at b1
    rw [take_four l hn]
    have hv : valR l (4 : Nat) = (((rd l 0 - 240) * 64 + rd l 1 - 128) * 64 + rd l 2 - 128) * 64 + rd l 3 - 128 := rfl
    rw [hv]
    simp only [Is, four, cont_iff]
    have b2' : 0 ≤ rd l 2 ∧ rd l 2 ≤ 255 := b2
    have b3' : 0 ≤ rd l 3 ∧ rd l 3 ≤ 255 := b3
    clear b2 b3 hv
    generalize rd l 0 = x0 at *
    generalize rd l 1 = x1 at *
    generalize rd l 2 = x2 at *
    generalize rd l 3 = x3 at *
    constructor
    · rintro ⟨h, hf⟩
      have h' : szU ((((x0 - 240) * 64 + x1 - 128) * 64 + x2 - 128) * 64 + x3 - 128) = 4 := h
      have hr := size_four h'
      simp only [form, h'] at hf
      simp at hf
      refine .inr (.inr (.inr ⟨trivial, hn, by omega, by omega, by omega, by omega, by omega, ?_⟩))
      rw [show ((x0 % 8 * 64 + x1 % 64) * 64 + x2 % 64) * 64 + x3 % 64 = (((x0 - 240) * 64 + x1 - 128) * 64 + x2 - 128) * 64 + x3 - 128 by omega]
      exact h'
    · intro h
      have h2 : 240 ≤ x0 ∧ x0 < 248 ∧ (128 ≤ x1 ∧ x1 < 192) ∧ (128 ≤ x2 ∧ x2 < 192) ∧ (128 ≤ x3 ∧ x3 < 192) := by omega
      have h3 : szU (((x0 % 8 * 64 + x1 % 64) * 64 + x2 % 64) * 64 + x3 % 64) = 4 := by
        rcases h with h | h | h | h
        · omega
        · omega
        · omega
        · exact h.2.2.2.2.2.2.2
      rw [show ((x0 % 8 * 64 + x1 % 64) * 64 + x2 % 64) * 64 + x3 % 64 = (((x0 - 240) * 64 + x1 - 128) * 64 + x2 - 128) * 64 + x3 - 128 by omega] at h3
      refine ⟨h3, ?_⟩
      have hr := size_four h3
      simp only [form, h3]
      simp
      omega
theorem is_val (l : List Int) (hb : Bytes l) (n : Nat) (h : Is l n) : valR l n = val l n := by
  have b0 : 1 ≤ l.length → 0 ≤ rd l 0 ∧ rd l 0 ≤ 255 := fun h => rd_byte hb 0 (by omega)
  have b1 : 2 ≤ l.length → 0 ≤ rd l 1 ∧ rd l 1 ≤ 255 := fun h => rd_byte hb 1 (by omega)
  have b2 : 3 ≤ l.length → 0 ≤ rd l 2 ∧ rd l 2 ≤ 255 := fun h => rd_byte hb 2 (by omega)
  have b3 : 4 ≤ l.length → 0 ≤ rd l 3 ∧ rd l 3 ≤ 255 := fun h => rd_byte hb 3 (by omega)
  unfold Is at h
  simp only [cont_iff] at h
  rcases h with ⟨rfl, h⟩ | ⟨rfl, h⟩ | ⟨rfl, h⟩ | ⟨rfl, h⟩
  · rfl
  · show (rd l 0 - 192) * 64 + rd l 1 - 128 = rd l 0 % 32 * 64 + rd l 1 % 64
    omega
  · show ((rd l 0 - 224) * 64 + rd l 1 - 128) * 64 + rd l 2 - 128 = (rd l 0 % 16 * 64 + rd l 1 % 64) * 64 + rd l 2 % 64
    omega
  · show (((rd l 0 - 240) * 64 + rd l 1 - 128) * 64 + rd l 2 - 128) * 64 + rd l 3 - 128 = ((rd l 0 % 8 * 64 + rd l 1 % 64) * 64 + rd l 2 % 64) * 64 + rd l 3 % 64
    omega
/-- At most one length fits. -/
theorem is_one {l : List Int} {m n : Nat} (h : Is l m) (h' : Is l n) : m = n := by
  unfold Is at h h'
  omega
theorem is_range {l : List Int} {n : Nat} (h : Is l n) : 1 ≤ n ∧ n ≤ 4 ∧ n ≤ l.length := by
  unfold Is at h
  omega
theorem Bytes.drop {l : List Int} (h : Bytes l) (n : Nat) : Bytes (l.drop n) := fun x hx => h x (List.mem_of_mem_drop hx)
theorem Bytes.take {l : List Int} (h : Bytes l) (n : Nat) : Bytes (l.take n) := fun x hx => h x (List.mem_of_mem_take hx)
theorem Bytes.form (r : Int) : Bytes (form r) := form_byte r
theorem nx_range {l : List Int} : 0 ≤ (nx l).2 ∧ ((nx l).2 ≠ 0 → 1 ≤ (nx l).2 ∧ (nx l).2 ≤ 4 ∧ (nx l).2 ≤ l.length) := by
  rcases nx_cases l with ⟨n, hn, he⟩ | ⟨_, he⟩
  · rw [he]
    have := is_range hn
    exact ⟨by simp, fun _ => ⟨by simp; omega, by simp; omega, by simp; omega⟩⟩
  · rw [he]; simp
/-! ### cuts -/
/-- The numbers of bytes behind acc; the first byte is number i; d: so many forms at the most. -/
def decR : Nat → List Int → List Int → Nat → List Int × Int × Int
  | 0, _, acc, _ => (acc, 0, 0)
  | d + 1, l, acc, i => if l = [] then (acc, 0, 0) else if (nx l).2 = 0 then ([], (i : Int), 10) else decR d (l.drop (nx l).2.toNat) (acc ++ [(nx l).1]) (i + (nx l).2.toNat)
/-- What bytes are decoded to. -/
def dec (l : List Int) : List Int × Int × Int := decR l.length l [] 0
def Gd (l : List Int) : Prop := ∀ r ∈ l, szU r ≠ 0
def forms (l : List Int) : List Int := l.flatMap form
theorem forms_cons (r : Int) (l : List Int) : forms (r :: l) = form r ++ forms l := by simp [forms]
theorem forms_byte (l : List Int) : Bytes (forms l) := by
  intro x hx
  simp only [forms, List.mem_flatMap] at hx
  obtain ⟨r, _, hr⟩ := hx
  exact form_byte r x hr
theorem nx_form (r : Int) (hr : szU r ≠ 0) (rest : List Int) (hb : Bytes rest) : nx (form r ++ rest) = (r, szU r) := by
  have hB : Bytes (form r ++ rest) := fun x hx => by
    rcases List.mem_append.mp hx with h | h
    · exact form_byte r x h
    · exact hb x h
  have hl := form_len r
  have h0 := size_range r
  obtain ⟨n, hn⟩ : ∃ n : Nat, szU r = n := ⟨(szU r).toNat, by omega⟩
  have hlen : (form r).length = n := by omega
  have hv : valR (form r ++ rest) n = r := by
    rcases h0 with h | h | h | h | h
    · exact absurd h hr
    · obtain rfl : n = 1 := by omega
      have e : form r = [r] := by simp [form, h]
      rw [e]; simp [valR, rd]
    · obtain rfl : n = 2 := by omega
      have e : form r = [192 + r / 64, 128 + r % 64] := by simp [form, h]
      rw [e]
      show (rd _ 0 - 192) * 64 + rd _ 1 - 128 = r
      simp [rd]; omega
    · obtain rfl : n = 3 := by omega
      have e : form r = [224 + r / 4096, 128 + r / 64 % 64, 128 + r % 64] := by simp [form, h]
      rw [e]
      show ((rd _ 0 - 224) * 64 + rd _ 1 - 128) * 64 + rd _ 2 - 128 = r
      simp [rd]; omega
    · obtain rfl : n = 4 := by omega
      have e : form r = [240 + r / 262144, 128 + r / 4096 % 64, 128 + r / 64 % 64, 128 + r % 64] := by simp [form, h]
      rw [e]
      show (((rd _ 0 - 240) * 64 + rd _ 1 - 128) * 64 + rd _ 2 - 128) * 64 + rd _ 3 - 128 = r
      simp [rd]; omega
  have hi : Is (form r ++ rest) n := by
    rw [← is_iff _ hB n (by omega) (by omega) (by simp; omega), hv]
    exact ⟨hn, by rw [List.take_left' hlen]⟩
  rcases nx_cases (form r ++ rest) with ⟨m, hm, he⟩ | ⟨hno, _⟩
  · obtain rfl := is_one hm hi
    rw [he, ← is_val _ hB m hm, hv, hn]
  · exact absurd hi (hno n)
theorem nx_back {l : List Int} (hb : Bytes l) (h : (nx l).2 ≠ 0) : szU (nx l).1 = (nx l).2 ∧ form (nx l).1 = l.take (nx l).2.toNat := by
  rcases nx_cases l with ⟨n, hn, he⟩ | ⟨_, he⟩
  · rw [he]
    have hr := is_range hn
    have := (is_iff l hb n (by omega) (by omega) (by omega)).mpr hn
    rw [is_val l hb n hn] at this
    simpa using this
  · rw [he] at h; simp at h
theorem form_ne {r : Int} (hr : szU r ≠ 0) (x : List Int) : ¬ form r ++ x = [] := by
  intro h
  have h1 := form_len r
  have := congrArg List.length h
  simp at this
  have h2 := size_range r
  have h3 := this.1
  rw [h3] at h1
  simp at h1
  omega
theorem dec_forms : ∀ (l : List Int) (d : Nat) (acc : List Int) (i : Nat), Gd l → l.length ≤ d → decR d (forms l) acc i = (acc ++ l, 0, 0) := by
  intro l
  induction l with
  | nil =>
    intro d acc i _ _
    cases d with
    | zero => simp [decR]
    | succ d => simp [decR, forms]
  | cons r l ih =>
    intro d acc i h hd
    obtain ⟨d, rfl⟩ : ∃ m, d = m + 1 := ⟨d - 1, by simp at hd; omega⟩
    have hr : szU r ≠ 0 := h r (by simp)
    have hl := form_len r
    have h0 := size_range r
    rw [forms_cons, decR, if_neg (form_ne hr _), nx_form r hr _ (forms_byte l)]
    simp only
    rw [if_neg hr, List.drop_left' (by omega), ih d _ _ (fun x hx => h x (by simp [hx])) (by simp at hd; omega)]
    simp
theorem forms_ge {l : List Int} (h : Gd l) : l.length ≤ (forms l).length := by
  induction l with
  | nil => simp
  | cons r l ih =>
    have hr : szU r ≠ 0 := h r (by simp)
    have h1 := form_len r
    have h2 := size_range r
    have h3 := ih (fun x hx => h x (by simp [hx]))
    rw [forms_cons]
    simp only [List.length_append, List.length_cons]
    omega
theorem dec_enc {l : List Int} (h : Gd l) : dec (forms l) = (l, 0, 0) := by
  unfold dec
  rw [dec_forms l _ [] 0 h (forms_ge h)]
  simp
/-- What is read is good, and is written so; or the bytes are no text. -/
theorem dec_cases : ∀ (d : Nat) (l acc : List Int) (i : Nat), Bytes l → l.length ≤ d → (∃ m, Gd m ∧ forms m = l ∧ decR d l acc i = (acc ++ m, 0, 0)) ∨ (∃ j : Nat, j < l.length ∧ decR d l acc i = ([], ((i + j : Nat) : Int), 10)) := by
  intro d
  induction d with
  | zero =>
    intro l acc i hb hl
    obtain rfl : l = [] := List.length_eq_zero_iff.mp (by omega)
    exact .inl ⟨[], fun r hr => by simp at hr, rfl, by simp [decR]⟩
  | succ d ih =>
    intro l acc i hb hl
    rw [decR]
    by_cases he : l = []
    · subst he
      exact .inl ⟨[], fun r hr => by simp at hr, rfl, by simp⟩
    · rw [if_neg he]
      have hpos : 0 < l.length := by
        cases l with
        | nil => exact absurd rfl he
        | cons _ _ => simp
      have hr := nx_range (l := l)
      by_cases hz : (nx l).2 = 0
      · rw [if_pos hz]
        exact .inr ⟨0, hpos, by simp⟩
      · rw [if_neg hz]
        have hr2 := hr.2 hz
        have hk := nx_back hb hz
        rcases ih (l.drop (nx l).2.toNat) (acc ++ [(nx l).1]) (i + (nx l).2.toNat) (hb.drop _) (by simp; omega) with ⟨m, h1, h2, h3⟩ | ⟨j, h1, h2⟩
        · left
          refine ⟨(nx l).1 :: m, ?_, ?_, ?_⟩
          · intro r hr
            rcases List.mem_cons.mp hr with rfl | hr
            · omega
            · exact h1 r hr
          · rw [forms_cons, hk.2, h2, List.take_append_drop]
          · rw [h3]; simp
        · right
          simp only [List.length_drop] at h1
          refine ⟨(nx l).2.toNat + j, by omega, ?_⟩
          rw [h2]
          simp only [Prod.mk.injEq, true_and, and_true]
          omega
theorem dec_split {l : List Int} (hb : Bytes l) : (∃ m, Gd m ∧ forms m = l ∧ dec l = (m, 0, 0)) ∨ (∃ j : Nat, j < l.length ∧ dec l = ([], (j : Int), 10)) := by
  rcases dec_cases l.length l [] 0 hb (Nat.le_refl _) with ⟨m, h1, h2, h3⟩ | ⟨j, h1, h2⟩
  · exact .inl ⟨m, h1, h2, by rw [dec, h3]; simp⟩
  · exact .inr ⟨j, h1, by rw [dec, h2]; simp⟩
end Go.Proofs.YtdpflafjfkooeaaDoorG.Dec
namespace Go.Proofs.YtdpflafjfkooeaaDoorG
open Go Go.RowKit Go.Proofs Go.Proofs.YtdpflafjfkooeaaDoorG.Dec
set_option linter.unusedSimpArgs false
set_option linter.unusedVariables false
theorem tv_bs {l : List Int} {j : Nat} (h : j < l.length) : (List.map TV.v (bs l)).getD j .dead = .v (.raw (.int .u8 (l.getD j 0))) := by
  simp [bs, List.getD, List.getElem?_eq_getElem h]
theorem cut_bs (l : List Int) (h : Int) : cutSV 1 (bs l) 0 h = bs (l.take h.toNat) := by simp [cutSV, bs]
theorem cut_bsd (l : List Int) (a : Int) : cutSV 1 (bs l) a (l.length : Int) = bs (l.drop a.toNat) := by
  simp only [cutSV, bs, Nat.mul_one, ← List.map_drop, ← List.map_take]
  rw [List.take_of_length_le (by simp only [List.length_drop]; omega)]
/-- A reader's bytes. -/
abbrev rdr (xs : List Int) : List TV := [.v (.sl 1 (bs xs))]
abbrev r0 : X := .p (.one (.pr 0 0))
abbrev errno (n : Int) : Value := .iface 32 (.int .i64 n)
set_option maxRecDepth 10000 in
theorem take_ok (xs : List Int) (n : Int) (h0 : 0 ≤ n) (hl : xs.length ≤ 140000000000000) : CallB Tryd.prog 81 [(121, rdr xs)] [r0, i64 n] (if n ≤ xs.length then .ret (sl (bs (xs.take n.toNat))) [(121, rdr (xs.drop n.toNat))] else .pan (errno 20)) := by
  by_cases h : n ≤ xs.length
  · rw [if_pos h]
    refine fn_okB' T_ok (orc_ok _) mixed Tryd.func81 rfl (by kernel_rfl) (lv [[0, 1], [0, 1, 12], [0, 1], [0, 1, 5], [0, 5], [0, 4]]) 30 rfl (by simp) (by simp [Out.ok, X.all, PX.all, TV.isV, TV.lent]) ?_
    simp only [lentL, argsG, Nat.zero_add, Nat.reduceAdd, List.cons_append, List.nil_append]
    repeat' first
      | ((first
          | ((with_reducible refine vR_cons (by decide) ?_); generalize hk : KtR _ _ _ _ _ _ _ _ _ _ = k)
          | ((first
          | with_reducible refine vOps_cons' ?_) <;> generalize hk : Kt _ _ _ _ _ _ _ _ _ = k)) <;> (simp only [Tryd.f81, lv, E1, E2, E5, ET, T, orc_mv, noO_mv, mvB, orc_bx, noO_bx, bxB, orc_sx, noO_sx, sxB, fwd, fwds, inv, mOk, Int.toNat_natCast, Nat.div_one, Nat.mul_one, Int.reduceToNat, SB, List.not_mem_nil, ↓reduceIte, ne_eq, reduceCtorEq, Nat.reduceLT, Nat.reduceEqDiff, Nat.reduceAdd, Nat.reduceMul, Nat.reduceLeDiff, Nat.reduceDiv, Nat.reduceMod, Nat.reduceSub, Nat.reduceBEq, List.length_map, bs_len, rn_len, cut_bs, cut_bsd, Int.sub_zero, Int.toNat_natCast]; (try simp (disch := omega) only [wrap_in, Int.toNat_natCast, tv_rn, tv_bs]); subst hk))
      | with_reducible first | refine Kt_p ?_ | refine Kt_i (by kernel_rfl) ?_ | refine Kr_f (by kernel_rfl) ?_
      | (with_reducible refine Kr_t ?_; simp only [List.length_append, List.length_cons, List.length_nil, Nat.reduceAdd, Nat.reduceSub, List.drop_succ_cons, List.drop_zero])
      | with_reducible first | refine vR_nil ?_ | refine KtR_i (by kernel_rfl) ?_ | refine KrR_i (by kernel_rfl) ?_ | refine vR_skip (by decide) ?_
      | ((with_reducible refine vB_i ?_ ?_) <;> intro _ <;> (first | (exfalso; omega) | (exact absurd trivial ‹¬True›) | (try dsimp only [])))
      | ((with_reducible refine vOps_nil' ?_); refine Kr_i (by kernel_rfl) ?_; generalize hk : plain _ _ = G; simp only [lv, E3, E2, E5, rawX, deadX, SB, List.not_mem_nil, ↓reduceIte, ne_eq, reduceCtorEq, Nat.reduceLT, Nat.reduceEqDiff, Nat.reduceAdd, Nat.reduceMul, Nat.reduceLeDiff, Nat.reduceDiv, Nat.reduceMod, Nat.reduceSub, Nat.reduceBEq, List.length_map, bs_len, rn_len, cut_bs, cut_bsd, Int.sub_zero, Int.toNat_natCast] at hk; subst hk)
      | with_reducible refine vSeq_i ?_
      | with_reducible first | refine vRegion_i (by kernel_rfl) ?_ | refine Kv_i ?_
      | ((with_reducible apply vStrK_i); (focus (rfl; done)))
      | ((with_reducible refine imp_i ?_); intro _)
      | with_reducible first | refine Ks_n ?_ | refine Ks_r ?_ | refine Ks_e ?_ | refine Kl_e ?_ | refine Kx_n ?_ | refine Kl_r ?_ | refine vRet_i ?_ | refine vSkip_i ?_ | refine vExit_i ?_ | refine vBlock_i ?_ | refine Ks_p ?_ | refine Kl_p ?_ | refine blk_p ?_ | exact Kb_p | refine vGoto_i ?_ | refine vLabel_i ?_ | refine Ks_g ?_ | refine Kl_g ?_ | refine blk_g ?_ | refine jmp_g ?_ | refine jmp_n ?_ | refine jmp_r ?_ | refine nog_n ?_ | refine nog_r ?_ | refine blk_n ?_ | refine blk_r ?_ | refine blk_e ?_ | refine blk_o (by decide) ?_ | refine cp_t ?_ | refine cp_f ?_
      | ((with_reducible apply vCond_x); (focus (simp only [lv, E1, E2, E5, ET, T, orc_mv, noO_mv, mvB, orc_bx, noO_bx, bxB, orc_sx, noO_sx, sxB, fwd, fwds, inv, mOk, Int.toNat_natCast, Nat.div_one, Nat.mul_one, Int.reduceToNat, SB, List.not_mem_nil, ↓reduceIte, ne_eq, reduceCtorEq, Nat.reduceLT, Nat.reduceEqDiff, Nat.reduceAdd, Nat.reduceMul, Nat.reduceLeDiff, Nat.reduceDiv, Nat.reduceMod, Nat.reduceSub, Nat.reduceBEq, List.length_map, bs_len, rn_len, cut_bs, cut_bsd, Int.sub_zero, Int.toNat_natCast]; with_reducible first | exact Eq.refl (bo true) | exact Eq.refl (bo false))))
      | ((with_reducible refine And.intro ?_ ?_); (focus (try omega)))
    first | refine Kb_r ?_ | refine Kb_n ?_
    simp only [Tryd.f81, E4, E3, E2, E5, rawX, deadX, ET, T, SB, List.not_mem_nil, ↓reduceIte, ne_eq, reduceCtorEq, Nat.reduceLT, Nat.reduceEqDiff, Nat.reduceAdd, Nat.reduceMul, Nat.reduceLeDiff, Nat.reduceDiv, Nat.reduceMod, Nat.reduceSub, Nat.reduceBEq, List.length_map, bs_len, rn_len, cut_bs, cut_bsd, Int.sub_zero, Int.toNat_natCast]
    generalize hW : List.contains (wrs _) 0 = b
    obtain rfl : b = false := hW.symm.trans (by kernel_rfl)
    simp only [E4, E3, E2, E5, rawX, deadX, ET, T, SB, List.not_mem_nil, ↓reduceIte, ne_eq, reduceCtorEq, Nat.reduceLT, Nat.reduceEqDiff, Nat.reduceAdd, Nat.reduceMul, Nat.reduceLeDiff, Nat.reduceDiv, Nat.reduceMod, Nat.reduceSub, Nat.reduceBEq, List.length_map, bs_len, rn_len, cut_bs, cut_bsd, Int.sub_zero, Int.toNat_natCast]
  · rw [if_neg h]
    refine fn_okB' T_ok (orc_ok _) mixed Tryd.func81 rfl (by kernel_rfl) (lv [[0, 1], [0, 1, 12], [0, 1], [0, 1, 5], [0, 5], [0, 4]]) 30 rfl (by simp) trivial ?_
    simp only [lentL, argsG, Nat.zero_add, Nat.reduceAdd, List.cons_append, List.nil_append]
    repeat' first
      | ((first
          | ((with_reducible refine vR_cons (by decide) ?_); generalize hk : KtR _ _ _ _ _ _ _ _ _ _ = k)
          | ((first
          | with_reducible refine vOps_cons' ?_) <;> generalize hk : Kt _ _ _ _ _ _ _ _ _ = k)) <;> (simp only [Tryd.f81, lv, E1, E2, E5, ET, T, orc_mv, noO_mv, mvB, orc_bx, noO_bx, bxB, orc_sx, noO_sx, sxB, fwd, fwds, inv, mOk, Int.toNat_natCast, Nat.div_one, Nat.mul_one, Int.reduceToNat, SB, List.not_mem_nil, ↓reduceIte, ne_eq, reduceCtorEq, Nat.reduceLT, Nat.reduceEqDiff, Nat.reduceAdd, Nat.reduceMul, Nat.reduceLeDiff, Nat.reduceDiv, Nat.reduceMod, Nat.reduceSub, Nat.reduceBEq, List.length_map, bs_len, rn_len, cut_bs, cut_bsd, Int.sub_zero, Int.toNat_natCast]; (try simp (disch := omega) only [wrap_in, Int.toNat_natCast, tv_rn, tv_bs]); subst hk))
      | with_reducible first | refine Kt_p ?_ | refine Kt_i (by kernel_rfl) ?_ | refine Kr_f (by kernel_rfl) ?_
      | (with_reducible refine Kr_t ?_; simp only [List.length_append, List.length_cons, List.length_nil, Nat.reduceAdd, Nat.reduceSub, List.drop_succ_cons, List.drop_zero])
      | with_reducible first | refine vR_nil ?_ | refine KtR_i (by kernel_rfl) ?_ | refine KrR_i (by kernel_rfl) ?_ | refine vR_skip (by decide) ?_
      | ((with_reducible refine vB_i ?_ ?_) <;> intro _ <;> (first | (exfalso; omega) | (exact absurd trivial ‹¬True›) | (try dsimp only [])))
      | ((with_reducible refine vOps_nil' ?_); refine Kr_i (by kernel_rfl) ?_; generalize hk : plain _ _ = G; simp only [lv, E3, E2, E5, rawX, deadX, SB, List.not_mem_nil, ↓reduceIte, ne_eq, reduceCtorEq, Nat.reduceLT, Nat.reduceEqDiff, Nat.reduceAdd, Nat.reduceMul, Nat.reduceLeDiff, Nat.reduceDiv, Nat.reduceMod, Nat.reduceSub, Nat.reduceBEq, List.length_map, bs_len, rn_len, cut_bs, cut_bsd, Int.sub_zero, Int.toNat_natCast] at hk; subst hk)
      | with_reducible refine vSeq_i ?_
      | with_reducible first | refine vRegion_i (by kernel_rfl) ?_ | refine Kv_i ?_
      | ((with_reducible apply vStrK_i); (focus (rfl; done)))
      | ((with_reducible refine imp_i ?_); intro _)
      | with_reducible first | refine Ks_n ?_ | refine Ks_r ?_ | refine Ks_e ?_ | refine Kl_e ?_ | refine Kx_n ?_ | refine Kl_r ?_ | refine vRet_i ?_ | refine vSkip_i ?_ | refine vExit_i ?_ | refine vBlock_i ?_ | refine Ks_p ?_ | refine Kl_p ?_ | refine blk_p ?_ | exact Kb_p | refine vGoto_i ?_ | refine vLabel_i ?_ | refine Ks_g ?_ | refine Kl_g ?_ | refine blk_g ?_ | refine jmp_g ?_ | refine jmp_n ?_ | refine jmp_r ?_ | refine nog_n ?_ | refine nog_r ?_ | refine blk_n ?_ | refine blk_r ?_ | refine blk_e ?_ | refine blk_o (by decide) ?_ | refine cp_t ?_ | refine cp_f ?_
      | ((with_reducible apply vCond_x); (focus (simp only [lv, E1, E2, E5, ET, T, orc_mv, noO_mv, mvB, orc_bx, noO_bx, bxB, orc_sx, noO_sx, sxB, fwd, fwds, inv, mOk, Int.toNat_natCast, Nat.div_one, Nat.mul_one, Int.reduceToNat, SB, List.not_mem_nil, ↓reduceIte, ne_eq, reduceCtorEq, Nat.reduceLT, Nat.reduceEqDiff, Nat.reduceAdd, Nat.reduceMul, Nat.reduceLeDiff, Nat.reduceDiv, Nat.reduceMod, Nat.reduceSub, Nat.reduceBEq, List.length_map, bs_len, rn_len, cut_bs, cut_bsd, Int.sub_zero, Int.toNat_natCast]; with_reducible first | exact Eq.refl (bo true) | exact Eq.refl (bo false))))
      | ((with_reducible refine And.intro ?_ ?_); (focus (try omega)))
end Go.Proofs.YtdpflafjfkooeaaDoorG
