/- YtncabdcaamkhiaaZ17: a part of the proof, joined of its texts. -/
import Derived.Test.YtncabdcaamkhiaaZ16
namespace Go.Proofs.YtncabdcaamkhiaaG
open Go Go.RowKit Go.Proofs
set_option linter.unusedSimpArgs false
set_option linter.unusedVariables false
set_option maxRecDepth 10000 in
set_option maxHeartbeats 4000000 in
theorem resolve_bad (l u t : List Int) (lev sos : Int) (hl : l.length ≤ 2000000) (hu : u.length ≤ 2000000) (ht : t.length ≤ 2000000) (h : l.length ≠ t.length ∨ u.length ≠ t.length ∨ lev < 0 ∨ 126 < lev ∨ (sos ≠ 1 ∧ sos ≠ 2)) :
    CallOk Try.prog 15 [sl (rn l), sl (nts u), sl (nts t), i64 lev, i64 sos] (.tup [.one (.sr 0), .one (.v (.raw (.int .i64 2)))]) [(3, 1, [])] true := by
  refine fn_ok' T_ok (orc_ok _) mixed Try.func15 rfl (by kernel_rfl) (lv [[0, 1, 2, 3, 4], [0, 1, 2, 3, 4, 21], [0, 1, 2, 3, 4, 21], [0, 1, 2, 3, 4, 21], [0, 1, 2, 3, 4, 21], [0, 1, 2, 3, 4, 21], [10, 11], [0, 1, 2, 3, 4, 42], [10, 11], [0, 1, 2, 3, 4, 12], [1, 3, 4, 12, 13], [1, 3, 4, 12, 55, 56, 57], [1, 3, 4, 12, 55, 56, 57, 58], [1, 3, 4, 12, 16, 55, 56, 57], [1, 3, 4, 12, 16, 17, 55, 56, 57], [1, 3, 4, 12, 16, 17, 55, 56, 57, 69], [1, 3, 4, 12, 17, 55, 56, 57, 70, 71], [1, 3, 4, 12, 17, 55, 56, 57, 70, 71, 72], [1, 3, 4, 12, 17, 19, 55, 56, 57, 70, 71], [1, 3, 4, 12, 17, 19, 55, 56, 57, 70, 71], [1, 3, 4, 12, 17, 20, 55, 56, 57, 70, 71], [1, 3, 4, 12, 17, 20, 55, 56, 57, 70, 71, 90], [1, 3, 4, 12, 17, 20, 55, 56, 57, 70, 71], [1, 3, 4, 12, 17, 20, 55, 56, 57, 70, 71], [1, 3, 4, 12, 17, 55, 56, 57, 70, 71], [1, 3, 4, 12, 55, 56, 57], [10, 11]]) 100 rfl (by simp) rfl (fun _ => ⟨by simp [X.all, PX.all, TV.rawR, SV.isRaw], fun r hr => by simp only [List.mem_singleton] at hr; subst hr; intro x hx; cases hx⟩) ?_
  simp only [argsG, Nat.zero_add, Nat.reduceAdd]
  repeat' first
    | ((first
        | ((with_reducible refine vR_cons (by decide) ?_); generalize hk : KtR _ _ _ _ _ _ _ _ _ _ = k)
        | ((first
        | with_reducible refine vOps_cons' ?_) <;> generalize hk : Kt _ _ _ _ _ _ _ _ _ = k)) <;> (simp only [Try.f15, lv, E1, E2, E5, ET, T, orc_mv, noO_mv, mvB, orc_bx, noO_bx, bxB, orc_sx, noO_sx, sxB, fwd, fwds, inv, mOk, Int.toNat_natCast, Nat.div_one, Nat.mul_one, Int.reduceToNat, SB, List.not_mem_nil, ↓reduceIte, ne_eq, reduceCtorEq, Nat.reduceLT, Nat.reduceEqDiff, Nat.reduceAdd, Nat.reduceMul, Nat.reduceLeDiff, Nat.reduceDiv, Nat.reduceMod, Nat.reduceSub, Nat.reduceBEq, List.length_map, rn_len, nts_len, prs_len, prs_cnt, nts_cnt, cnt_two, List.length_set, Int.add_sub_cancel]; (try simp (disch := omega) only [wrap_in, Int.toNat_natCast, tv_rn, tv_nts, tv_prs0, tv_prs1]); subst hk))
    | with_reducible first | refine Kt_p ?_ | refine Kt_i (by kernel_rfl) ?_ | refine Kr_f (by kernel_rfl) ?_
    | (with_reducible refine Kr_t ?_; simp only [List.length_append, List.length_cons, List.length_nil, Nat.reduceAdd, Nat.reduceSub, List.drop_succ_cons, List.drop_zero])
    | with_reducible first | refine vR_nil ?_ | refine KtR_i (by kernel_rfl) ?_ | refine KrR_i (by kernel_rfl) ?_ | refine vR_skip (by decide) ?_
    | ((with_reducible refine vB_i ?_ ?_) <;> intro _ <;> (first | (exfalso; omega) | (exact absurd trivial ‹¬True›) | (try dsimp only [])))
    | ((with_reducible refine vOps_nil' ?_); refine Kr_i (by kernel_rfl) ?_; generalize hk : plain _ _ = G; simp only [lv, E3, E2, E5, rawX, deadX, SB, List.not_mem_nil, ↓reduceIte, ne_eq, reduceCtorEq, Nat.reduceLT, Nat.reduceEqDiff, Nat.reduceAdd, Nat.reduceMul, Nat.reduceLeDiff, Nat.reduceDiv, Nat.reduceMod, Nat.reduceSub, Nat.reduceBEq, List.length_map, rn_len, nts_len, prs_len, prs_cnt, nts_cnt, cnt_two, List.length_set, Int.add_sub_cancel] at hk; subst hk)
    | with_reducible refine vSeq_i ?_
    | with_reducible first | refine vRegion_i (by kernel_rfl) ?_ | refine Kv_i ?_
    | ((with_reducible apply vStrK_i); (focus (rfl; done)))
    | ((with_reducible refine imp_i ?_); intro _)
    | with_reducible first | refine Ks_n ?_ | refine Ks_r ?_ | refine Ks_e ?_ | refine Kl_e ?_ | refine Kx_n ?_ | refine Kl_r ?_ | refine vRet_i ?_ | refine vSkip_i ?_ | refine vExit_i ?_ | refine vBlock_i ?_ | refine Ks_p ?_ | refine Kl_p ?_ | refine blk_p ?_ | exact Kb_p | refine vGoto_i ?_ | refine vLabel_i ?_ | refine Ks_g ?_ | refine Kl_g ?_ | refine blk_g ?_ | refine jmp_g ?_ | refine jmp_n ?_ | refine jmp_r ?_ | refine nog_n ?_ | refine nog_r ?_ | refine blk_n ?_ | refine blk_r ?_ | refine blk_e ?_ | refine blk_o (by decide) ?_ | refine cp_t ?_ | refine cp_f ?_
    | ((with_reducible apply vCond_x); (focus (simp only [lv, E1, E2, E5, ET, T, orc_mv, noO_mv, mvB, orc_bx, noO_bx, bxB, orc_sx, noO_sx, sxB, fwd, fwds, inv, mOk, Int.toNat_natCast, Nat.div_one, Nat.mul_one, Int.reduceToNat, SB, List.not_mem_nil, ↓reduceIte, ne_eq, reduceCtorEq, Nat.reduceLT, Nat.reduceEqDiff, Nat.reduceAdd, Nat.reduceMul, Nat.reduceLeDiff, Nat.reduceDiv, Nat.reduceMod, Nat.reduceSub, Nat.reduceBEq, List.length_map, rn_len, nts_len, prs_len, prs_cnt, nts_cnt, cnt_two, List.length_set, Int.add_sub_cancel]; with_reducible first | exact Eq.refl (bo true) | exact Eq.refl (bo false))))
    | ((with_reducible refine And.intro ?_ ?_); (focus (try omega)))
  all_goals try (exfalso; omega)
  all_goals refine Kf_r ?_
  all_goals simp only [Try.f15, E4, E3, E2, E5, rawX, deadX, ET, T, SB, List.not_mem_nil, ↓reduceIte, ne_eq, reduceCtorEq, Nat.reduceLT, Nat.reduceEqDiff, Nat.reduceAdd, Nat.reduceMul, Nat.reduceLeDiff, Nat.reduceDiv, Nat.reduceMod, Nat.reduceSub, Nat.reduceBEq, List.length_map, rn_len, nts_len, prs_len, prs_cnt, nts_cnt, cnt_two, List.length_set, Int.add_sub_cancel]
set_option maxRecDepth 10000 in
set_option maxHeartbeats 4000000 in
theorem resolve_unf (l u t : List Int) (lev sos : Int) (hl : l.length ≤ 2000000) (h1 : u.length = l.length) (h2 : t.length = l.length) (hv : 0 ≤ lev ∧ lev ≤ 126) (hs : sos = 1 ∨ sos = 2) (hf : formedF t = false) :
    CallOk Try.prog 15 [sl (rn l), sl (nts u), sl (nts t), i64 lev, i64 sos] (.tup [.one (.sr 0), .one (.v (.raw (.int .i64 50)))]) [(3, 1, [])] true := by
  have q := formed_ok t (by omega)
  rw [hf] at q
  refine fn_ok' T_ok (orc_ok _) mixed Try.func15 rfl (by kernel_rfl) (lv [[0, 1, 2, 3, 4], [0, 1, 2, 3, 4, 21], [0, 1, 2, 3, 4, 21], [0, 1, 2, 3, 4, 21], [0, 1, 2, 3, 4, 21], [0, 1, 2, 3, 4, 21], [10, 11], [0, 1, 2, 3, 4, 42], [10, 11], [0, 1, 2, 3, 4, 12], [1, 3, 4, 12, 13], [1, 3, 4, 12, 55, 56, 57], [1, 3, 4, 12, 55, 56, 57, 58], [1, 3, 4, 12, 16, 55, 56, 57], [1, 3, 4, 12, 16, 17, 55, 56, 57], [1, 3, 4, 12, 16, 17, 55, 56, 57, 69], [1, 3, 4, 12, 17, 55, 56, 57, 70, 71], [1, 3, 4, 12, 17, 55, 56, 57, 70, 71, 72], [1, 3, 4, 12, 17, 19, 55, 56, 57, 70, 71], [1, 3, 4, 12, 17, 19, 55, 56, 57, 70, 71], [1, 3, 4, 12, 17, 20, 55, 56, 57, 70, 71], [1, 3, 4, 12, 17, 20, 55, 56, 57, 70, 71, 90], [1, 3, 4, 12, 17, 20, 55, 56, 57, 70, 71], [1, 3, 4, 12, 17, 20, 55, 56, 57, 70, 71], [1, 3, 4, 12, 17, 55, 56, 57, 70, 71], [1, 3, 4, 12, 55, 56, 57], [10, 11]]) 100 rfl (by simp) rfl (fun _ => ⟨by simp [X.all, PX.all, TV.rawR, SV.isRaw], fun r hr => by simp only [List.mem_singleton] at hr; subst hr; intro x hx; cases hx⟩) ?_
  simp only [argsG, Nat.zero_add, Nat.reduceAdd]
  repeat' first
    | ((first
        | ((with_reducible refine vR_cons (by decide) ?_); generalize hk : KtR _ _ _ _ _ _ _ _ _ _ = k)
        | ((first
        | with_reducible refine vOps_cons' ?_
        | ((with_reducible apply orc_i); (focus (exact q; done)))) <;> generalize hk : Kt _ _ _ _ _ _ _ _ _ = k)) <;> (simp only [Try.f15, lv, E1, E2, E5, ET, T, orc_mv, noO_mv, mvB, orc_bx, noO_bx, bxB, orc_sx, noO_sx, sxB, fwd, fwds, inv, mOk, Int.toNat_natCast, Nat.div_one, Nat.mul_one, Int.reduceToNat, SB, List.not_mem_nil, ↓reduceIte, ne_eq, reduceCtorEq, Nat.reduceLT, Nat.reduceEqDiff, Nat.reduceAdd, Nat.reduceMul, Nat.reduceLeDiff, Nat.reduceDiv, Nat.reduceMod, Nat.reduceSub, Nat.reduceBEq, List.length_map, rn_len, nts_len, prs_len, prs_cnt, nts_cnt, cnt_two, List.length_set, Int.add_sub_cancel]; (try simp (disch := omega) only [wrap_in, Int.toNat_natCast, tv_rn, tv_nts, tv_prs0, tv_prs1]); subst hk))
    | with_reducible first | refine Kt_p ?_ | refine Kt_i (by kernel_rfl) ?_ | refine Kr_f (by kernel_rfl) ?_
    | (with_reducible refine Kr_t ?_; simp only [List.length_append, List.length_cons, List.length_nil, Nat.reduceAdd, Nat.reduceSub, List.drop_succ_cons, List.drop_zero])
    | with_reducible first | refine vR_nil ?_ | refine KtR_i (by kernel_rfl) ?_ | refine KrR_i (by kernel_rfl) ?_ | refine vR_skip (by decide) ?_
    | ((with_reducible refine vB_i ?_ ?_) <;> intro _ <;> (first | (exfalso; omega) | (exact absurd trivial ‹¬True›) | (try dsimp only [])))
    | ((with_reducible refine vOps_nil' ?_); refine Kr_i (by kernel_rfl) ?_; generalize hk : plain _ _ = G; simp only [lv, E3, E2, E5, rawX, deadX, SB, List.not_mem_nil, ↓reduceIte, ne_eq, reduceCtorEq, Nat.reduceLT, Nat.reduceEqDiff, Nat.reduceAdd, Nat.reduceMul, Nat.reduceLeDiff, Nat.reduceDiv, Nat.reduceMod, Nat.reduceSub, Nat.reduceBEq, List.length_map, rn_len, nts_len, prs_len, prs_cnt, nts_cnt, cnt_two, List.length_set, Int.add_sub_cancel] at hk; subst hk)
    | with_reducible refine vSeq_i ?_
    | with_reducible first | refine vRegion_i (by kernel_rfl) ?_ | refine Kv_i ?_
    | ((with_reducible apply vStrK_i); (focus (rfl; done)))
    | ((with_reducible refine imp_i ?_); intro _)
    | with_reducible first | refine Ks_n ?_ | refine Ks_r ?_ | refine Ks_e ?_ | refine Kl_e ?_ | refine Kx_n ?_ | refine Kl_r ?_ | refine vRet_i ?_ | refine vSkip_i ?_ | refine vExit_i ?_ | refine vBlock_i ?_ | refine Ks_p ?_ | refine Kl_p ?_ | refine blk_p ?_ | exact Kb_p | refine vGoto_i ?_ | refine vLabel_i ?_ | refine Ks_g ?_ | refine Kl_g ?_ | refine blk_g ?_ | refine jmp_g ?_ | refine jmp_n ?_ | refine jmp_r ?_ | refine nog_n ?_ | refine nog_r ?_ | refine blk_n ?_ | refine blk_r ?_ | refine blk_e ?_ | refine blk_o (by decide) ?_ | refine cp_t ?_ | refine cp_f ?_
    | ((with_reducible apply vCond_x); (focus (simp only [lv, E1, E2, E5, ET, T, orc_mv, noO_mv, mvB, orc_bx, noO_bx, bxB, orc_sx, noO_sx, sxB, fwd, fwds, inv, mOk, Int.toNat_natCast, Nat.div_one, Nat.mul_one, Int.reduceToNat, SB, List.not_mem_nil, ↓reduceIte, ne_eq, reduceCtorEq, Nat.reduceLT, Nat.reduceEqDiff, Nat.reduceAdd, Nat.reduceMul, Nat.reduceLeDiff, Nat.reduceDiv, Nat.reduceMod, Nat.reduceSub, Nat.reduceBEq, List.length_map, rn_len, nts_len, prs_len, prs_cnt, nts_cnt, cnt_two, List.length_set, Int.add_sub_cancel]; with_reducible first | exact Eq.refl (bo true) | exact Eq.refl (bo false))))
    | ((with_reducible refine And.intro ?_ ?_); (focus (try omega)))
  all_goals try (exfalso; omega)
  all_goals refine Kf_r ?_
  all_goals simp only [Try.f15, E4, E3, E2, E5, rawX, deadX, ET, T, SB, List.not_mem_nil, ↓reduceIte, ne_eq, reduceCtorEq, Nat.reduceLT, Nat.reduceEqDiff, Nat.reduceAdd, Nat.reduceMul, Nat.reduceLeDiff, Nat.reduceDiv, Nat.reduceMod, Nat.reduceSub, Nat.reduceBEq, List.length_map, rn_len, nts_len, prs_len, prs_cnt, nts_cnt, cnt_two, List.length_set, Int.add_sub_cancel]
set_option maxRecDepth 10000 in
set_option maxHeartbeats 4000000 in
theorem refResolve_bad (l u t : List Int) (lev sos : Int) (hl : l.length ≤ 2000000) (hu : u.length ≤ 2000000) (ht : t.length ≤ 2000000) (h : l.length ≠ t.length ∨ u.length ≠ t.length ∨ lev < 0 ∨ 126 < lev ∨ (sos ≠ 1 ∧ sos ≠ 2)) :
    CallOk Try.prog 16 [sl (rn l), sl (nts u), sl (nts t), i64 lev, i64 sos] (.tup [.one (.sr 0), .one (.v (.raw (.int .i64 2)))]) [(3, 1, [])] true := by
  refine fn_ok' T_ok (orc_ok _) mixed Try.func16 rfl (by kernel_rfl) (lv [[0, 1, 2, 3, 4], [0, 1, 2, 3, 4, 48], [10, 11], [0, 1, 2, 3, 4, 12], [0, 1, 2, 3, 4, 12, 52], [0, 1, 2, 3, 4, 12], [0, 1, 2, 3, 4, 12, 60], [10, 11], [0, 1, 2, 3, 4, 13], [0, 1, 2, 4, 13, 63], [0, 1, 2, 4, 13], [0, 1, 2, 4, 13, 14], [1, 4, 13, 14, 15], [1, 4, 13, 14, 15, 17], [1, 4, 13, 14, 15, 17, 76], [1, 4, 13, 14, 15, 17], [1, 4, 13, 14, 15, 17, 18], [1, 4, 13, 14, 15, 17, 18, 19], [1, 4, 13, 14, 15, 17, 18, 19, 92], [1, 4, 13, 14, 15, 17, 18, 19], [1, 4, 13, 14, 15, 17, 18, 19, 20], [1, 4, 13, 14, 15, 17, 18, 19, 20], [1, 4, 13, 14, 15, 17, 18, 19, 20, 117], [1, 4, 13, 14, 15, 17, 18, 19, 20], [1, 4, 13, 14, 15, 17, 18, 19, 20], [10, 11]]) 125 rfl (by simp) rfl (fun _ => ⟨by simp [X.all, PX.all, TV.rawR, SV.isRaw], fun r hr => by simp only [List.mem_singleton] at hr; subst hr; intro x hx; cases hx⟩) ?_
  simp only [argsG, Nat.zero_add, Nat.reduceAdd]
  repeat' first
    | ((first
        | ((with_reducible refine vR_cons (by decide) ?_); generalize hk : KtR _ _ _ _ _ _ _ _ _ _ = k)
        | ((first
        | with_reducible refine vOps_cons' ?_) <;> generalize hk : Kt _ _ _ _ _ _ _ _ _ = k)) <;> (simp only [Try.f16, lv, E1, E2, E5, ET, T, orc_mv, noO_mv, mvB, orc_bx, noO_bx, bxB, orc_sx, noO_sx, sxB, fwd, fwds, inv, mOk, Int.toNat_natCast, Nat.div_one, Nat.mul_one, Int.reduceToNat, SB, List.not_mem_nil, ↓reduceIte, ne_eq, reduceCtorEq, Nat.reduceLT, Nat.reduceEqDiff, Nat.reduceAdd, Nat.reduceMul, Nat.reduceLeDiff, Nat.reduceDiv, Nat.reduceMod, Nat.reduceSub, Nat.reduceBEq, List.length_map, rn_len, nts_len, prs_len, prs_cnt, nts_cnt, cnt_two, List.length_set, Int.add_sub_cancel]; (try simp (disch := omega) only [wrap_in, Int.toNat_natCast, tv_rn, tv_nts, tv_prs0, tv_prs1]); subst hk))
    | with_reducible first | refine Kt_p ?_ | refine Kt_i (by kernel_rfl) ?_ | refine Kr_f (by kernel_rfl) ?_
    | (with_reducible refine Kr_t ?_; simp only [List.length_append, List.length_cons, List.length_nil, Nat.reduceAdd, Nat.reduceSub, List.drop_succ_cons, List.drop_zero])
    | with_reducible first | refine vR_nil ?_ | refine KtR_i (by kernel_rfl) ?_ | refine KrR_i (by kernel_rfl) ?_ | refine vR_skip (by decide) ?_
    | ((with_reducible refine vB_i ?_ ?_) <;> intro _ <;> (first | (exfalso; omega) | (exact absurd trivial ‹¬True›) | (try dsimp only [])))
    | ((with_reducible refine vOps_nil' ?_); refine Kr_i (by kernel_rfl) ?_; generalize hk : plain _ _ = G; simp only [lv, E3, E2, E5, rawX, deadX, SB, List.not_mem_nil, ↓reduceIte, ne_eq, reduceCtorEq, Nat.reduceLT, Nat.reduceEqDiff, Nat.reduceAdd, Nat.reduceMul, Nat.reduceLeDiff, Nat.reduceDiv, Nat.reduceMod, Nat.reduceSub, Nat.reduceBEq, List.length_map, rn_len, nts_len, prs_len, prs_cnt, nts_cnt, cnt_two, List.length_set, Int.add_sub_cancel] at hk; subst hk)
    | with_reducible refine vSeq_i ?_
    | with_reducible first | refine vRegion_i (by kernel_rfl) ?_ | refine Kv_i ?_
    | ((with_reducible apply vStrK_i); (focus (rfl; done)))
    | ((with_reducible refine imp_i ?_); intro _)
    | with_reducible first | refine Ks_n ?_ | refine Ks_r ?_ | refine Ks_e ?_ | refine Kl_e ?_ | refine Kx_n ?_ | refine Kl_r ?_ | refine vRet_i ?_ | refine vSkip_i ?_ | refine vExit_i ?_ | refine vBlock_i ?_ | refine Ks_p ?_ | refine Kl_p ?_ | refine blk_p ?_ | exact Kb_p | refine vGoto_i ?_ | refine vLabel_i ?_ | refine Ks_g ?_ | refine Kl_g ?_ | refine blk_g ?_ | refine jmp_g ?_ | refine jmp_n ?_ | refine jmp_r ?_ | refine nog_n ?_ | refine nog_r ?_ | refine blk_n ?_ | refine blk_r ?_ | refine blk_e ?_ | refine blk_o (by decide) ?_ | refine cp_t ?_ | refine cp_f ?_
    | ((with_reducible apply vCond_x); (focus (simp only [lv, E1, E2, E5, ET, T, orc_mv, noO_mv, mvB, orc_bx, noO_bx, bxB, orc_sx, noO_sx, sxB, fwd, fwds, inv, mOk, Int.toNat_natCast, Nat.div_one, Nat.mul_one, Int.reduceToNat, SB, List.not_mem_nil, ↓reduceIte, ne_eq, reduceCtorEq, Nat.reduceLT, Nat.reduceEqDiff, Nat.reduceAdd, Nat.reduceMul, Nat.reduceLeDiff, Nat.reduceDiv, Nat.reduceMod, Nat.reduceSub, Nat.reduceBEq, List.length_map, rn_len, nts_len, prs_len, prs_cnt, nts_cnt, cnt_two, List.length_set, Int.add_sub_cancel]; with_reducible first | exact Eq.refl (bo true) | exact Eq.refl (bo false))))
    | ((with_reducible refine And.intro ?_ ?_); (focus (try omega)))
  all_goals try (exfalso; omega)
  all_goals refine Kf_r ?_
  all_goals simp only [Try.f16, E4, E3, E2, E5, rawX, deadX, ET, T, SB, List.not_mem_nil, ↓reduceIte, ne_eq, reduceCtorEq, Nat.reduceLT, Nat.reduceEqDiff, Nat.reduceAdd, Nat.reduceMul, Nat.reduceLeDiff, Nat.reduceDiv, Nat.reduceMod, Nat.reduceSub, Nat.reduceBEq, List.length_map, rn_len, nts_len, prs_len, prs_cnt, nts_cnt, cnt_two, List.length_set, Int.add_sub_cancel]
set_option maxRecDepth 10000 in
set_option maxHeartbeats 4000000 in
theorem refResolve_unf (l u t : List Int) (lev sos : Int) (hl : l.length ≤ 2000000) (h1 : u.length = l.length) (h2 : t.length = l.length) (hv : 0 ≤ lev ∧ lev ≤ 126) (hs : sos = 1 ∨ sos = 2) (hf : formedF t = false) :
    CallOk Try.prog 16 [sl (rn l), sl (nts u), sl (nts t), i64 lev, i64 sos] (.tup [.one (.sr 0), .one (.v (.raw (.int .i64 50)))]) [(3, 1, [])] true := by
  have hex : ∃ i, i < t.length ∧ mayF (t.getD i 0) = false := by
    refine Classical.byContradiction fun hno => ?_
    have : formedF t = true := by
      unfold formedF; simp only [decide_eq_true_eq]
      intro i hi
      cases hq : mayF (t.getD i 0)
      · exact absurd ⟨i, hi, hq⟩ hno
      · rfl
    rw [hf] at this; cases this
  refine fn_ok' T_ok (orc_ok _) mixed Try.func16 rfl (by kernel_rfl) (lv [[0, 1, 2, 3, 4], [0, 1, 2, 3, 4, 48], [10, 11], [0, 1, 2, 3, 4, 12], [0, 1, 2, 3, 4, 12, 52], [0, 1, 2, 3, 4, 12], [0, 1, 2, 3, 4, 12, 60], [10, 11], [0, 1, 2, 3, 4, 13], [0, 1, 2, 4, 13, 63], [0, 1, 2, 4, 13], [0, 1, 2, 4, 13, 14], [1, 4, 13, 14, 15], [1, 4, 13, 14, 15, 17], [1, 4, 13, 14, 15, 17, 76], [1, 4, 13, 14, 15, 17], [1, 4, 13, 14, 15, 17, 18], [1, 4, 13, 14, 15, 17, 18, 19], [1, 4, 13, 14, 15, 17, 18, 19, 92], [1, 4, 13, 14, 15, 17, 18, 19], [1, 4, 13, 14, 15, 17, 18, 19, 20], [1, 4, 13, 14, 15, 17, 18, 19, 20], [1, 4, 13, 14, 15, 17, 18, 19, 20, 117], [1, 4, 13, 14, 15, 17, 18, 19, 20], [1, 4, 13, 14, 15, 17, 18, 19, 20], [10, 11]]) 125 rfl (by simp) rfl (fun _ => ⟨by simp [X.all, PX.all, TV.rawR, SV.isRaw], fun r hr => by simp only [List.mem_singleton] at hr; subst hr; intro x hx; cases hx⟩) ?_
  simp only [argsG, Nat.zero_add, Nat.reduceAdd]
  repeat' first
    | ((first
        | ((with_reducible refine vR_cons (by decide) ?_); generalize hk : KtR _ _ _ _ _ _ _ _ _ _ = k)
        | ((first
        | with_reducible refine vOps_cons' ?_) <;> generalize hk : Kt _ _ _ _ _ _ _ _ _ = k)) <;> (simp only [Try.f16, lv, E1, E2, E5, ET, T, orc_mv, noO_mv, mvB, orc_bx, noO_bx, bxB, orc_sx, noO_sx, sxB, fwd, fwds, inv, mOk, Int.toNat_natCast, Nat.div_one, Nat.mul_one, Int.reduceToNat, SB, List.not_mem_nil, ↓reduceIte, ne_eq, reduceCtorEq, Nat.reduceLT, Nat.reduceEqDiff, Nat.reduceAdd, Nat.reduceMul, Nat.reduceLeDiff, Nat.reduceDiv, Nat.reduceMod, Nat.reduceSub, Nat.reduceBEq, List.length_map, rn_len, nts_len, prs_len, prs_cnt, nts_cnt, cnt_two, List.length_set, Int.add_sub_cancel]; (try simp (disch := omega) only [wrap_in, Int.toNat_natCast, tv_rn, tv_nts, tv_prs0, tv_prs1]); subst hk))
    | with_reducible first | refine Kt_p ?_ | refine Kt_i (by kernel_rfl) ?_ | refine Kr_f (by kernel_rfl) ?_
    | (with_reducible refine Kr_t ?_; simp only [List.length_append, List.length_cons, List.length_nil, Nat.reduceAdd, Nat.reduceSub, List.drop_succ_cons, List.drop_zero])
    | with_reducible first | refine vR_nil ?_ | refine KtR_i (by kernel_rfl) ?_ | refine KrR_i (by kernel_rfl) ?_ | refine vR_skip (by decide) ?_
    | ((with_reducible refine vB_i ?_ ?_) <;> intro _ <;> (first | (exfalso; omega) | (exact absurd trivial ‹¬True›) | (try dsimp only [])))
    | ((with_reducible refine vOps_nil' ?_); refine Kr_i (by kernel_rfl) ?_; generalize hk : plain _ _ = G; simp only [lv, E3, E2, E5, rawX, deadX, SB, List.not_mem_nil, ↓reduceIte, ne_eq, reduceCtorEq, Nat.reduceLT, Nat.reduceEqDiff, Nat.reduceAdd, Nat.reduceMul, Nat.reduceLeDiff, Nat.reduceDiv, Nat.reduceMod, Nat.reduceSub, Nat.reduceBEq, List.length_map, rn_len, nts_len, prs_len, prs_cnt, nts_cnt, cnt_two, List.length_set, Int.add_sub_cancel] at hk; subst hk)
    | with_reducible refine vSeq_i ?_
    | with_reducible first | refine vRegion_i (by kernel_rfl) ?_ | refine Kv_i ?_
    | ((with_reducible apply vStrK_i); (focus (rfl; done)))
    | ((with_reducible refine imp_i ?_); intro _)
    | with_reducible first | refine Ks_n ?_ | refine Ks_r ?_ | refine Ks_e ?_ | refine Kl_e ?_ | refine Kx_n ?_ | refine Kl_r ?_ | refine vRet_i ?_ | refine vSkip_i ?_ | refine vExit_i ?_ | refine vBlock_i ?_ | refine Ks_p ?_ | refine Kl_p ?_ | refine blk_p ?_ | exact Kb_p | refine vGoto_i ?_ | refine vLabel_i ?_ | refine Ks_g ?_ | refine Kl_g ?_ | refine blk_g ?_ | refine jmp_g ?_ | refine jmp_n ?_ | refine jmp_r ?_ | refine nog_n ?_ | refine nog_r ?_ | refine blk_n ?_ | refine blk_r ?_ | refine blk_e ?_ | refine blk_o (by decide) ?_ | refine cp_t ?_ | refine cp_f ?_
    | ((with_reducible apply vCond_x); (focus (simp only [lv, E1, E2, E5, ET, T, orc_mv, noO_mv, mvB, orc_bx, noO_bx, bxB, orc_sx, noO_sx, sxB, fwd, fwds, inv, mOk, Int.toNat_natCast, Nat.div_one, Nat.mul_one, Int.reduceToNat, SB, List.not_mem_nil, ↓reduceIte, ne_eq, reduceCtorEq, Nat.reduceLT, Nat.reduceEqDiff, Nat.reduceAdd, Nat.reduceMul, Nat.reduceLeDiff, Nat.reduceDiv, Nat.reduceMod, Nat.reduceSub, Nat.reduceBEq, List.length_map, rn_len, nts_len, prs_len, prs_cnt, nts_cnt, cnt_two, List.length_set, Int.add_sub_cancel]; with_reducible first | exact Eq.refl (bo true) | exact Eq.refl (bo false))))
    | ((with_reducible refine And.intro ?_ ?_); (focus (try omega)))
  all_goals try (exfalso; omega)
  all_goals
    refine vLoop_s (fun k : Nat => [(.t 0, .t (sl (rn l))), (.t 1, .t (sl (nts u))), (.t 2, .t (sl (nts t))), (.t 3, .t (i64 lev)), (.t 4, .t (i64 sos)), (.t 12, .t (i64 k))]) (fun k => k ≤ t.length ∧ ∀ i, i < k → mayF (t.getD i 0) = true) (fun k => t.length - k) 0 ⟨by omega, fun i hi => absurd hi (Nat.not_lt_zero _)⟩ rfl ?_
    rintro k ⟨hk, hlt⟩
    by_cases hkl : k < t.length
    · skip
      repeat' first
        | ((first
            | ((with_reducible refine vR_cons (by decide) ?_); generalize hk : KtR _ _ _ _ _ _ _ _ _ _ = k)
            | ((first
            | with_reducible refine vOps_cons' ?_
            | ((with_reducible apply orc_b); (focus (exact may_ok _; done)); (all_goals (intro hb; (try simp only [decide_eq_true_eq, decide_eq_false_iff_not, Bool.not_eq_true', Bool.not_eq_false', Bool.and_eq_true, Decidable.not_not] at hb))))) <;> generalize hk : Kt _ _ _ _ _ _ _ _ _ = k)) <;> (simp only [Try.f16, lv, E1, E2, E5, ET, T, orc_mv, noO_mv, mvB, orc_bx, noO_bx, bxB, orc_sx, noO_sx, sxB, fwd, fwds, inv, mOk, Int.toNat_natCast, Nat.div_one, Nat.mul_one, Int.reduceToNat, SB, List.not_mem_nil, ↓reduceIte, ne_eq, reduceCtorEq, Nat.reduceLT, Nat.reduceEqDiff, Nat.reduceAdd, Nat.reduceMul, Nat.reduceLeDiff, Nat.reduceDiv, Nat.reduceMod, Nat.reduceSub, Nat.reduceBEq, List.length_map, rn_len, nts_len, prs_len, prs_cnt, nts_cnt, cnt_two, List.length_set, Int.add_sub_cancel]; (try simp (disch := omega) only [wrap_in, Int.toNat_natCast, tv_rn, tv_nts, tv_prs0, tv_prs1]); subst hk))
        | with_reducible first | refine Kt_p ?_ | refine Kt_i (by kernel_rfl) ?_ | refine Kr_f (by kernel_rfl) ?_
        | (with_reducible refine Kr_t ?_; simp only [List.length_append, List.length_cons, List.length_nil, Nat.reduceAdd, Nat.reduceSub, List.drop_succ_cons, List.drop_zero])
        | with_reducible first | refine vR_nil ?_ | refine KtR_i (by kernel_rfl) ?_ | refine KrR_i (by kernel_rfl) ?_ | refine vR_skip (by decide) ?_
        | ((with_reducible refine vB_i ?_ ?_) <;> intro _ <;> (first | (exfalso; omega) | (exact absurd trivial ‹¬True›) | (try dsimp only [])))
        | ((with_reducible refine vOps_nil' ?_); refine Kr_i (by kernel_rfl) ?_; generalize hk : plain _ _ = G; simp only [lv, E3, E2, E5, rawX, deadX, SB, List.not_mem_nil, ↓reduceIte, ne_eq, reduceCtorEq, Nat.reduceLT, Nat.reduceEqDiff, Nat.reduceAdd, Nat.reduceMul, Nat.reduceLeDiff, Nat.reduceDiv, Nat.reduceMod, Nat.reduceSub, Nat.reduceBEq, List.length_map, rn_len, nts_len, prs_len, prs_cnt, nts_cnt, cnt_two, List.length_set, Int.add_sub_cancel] at hk; subst hk)
        | with_reducible refine vSeq_i ?_
        | with_reducible first | refine vRegion_i (by kernel_rfl) ?_ | refine Kv_i ?_
        | ((with_reducible apply vStrK_i); (focus (rfl; done)))
        | ((with_reducible refine imp_i ?_); intro _)
        | with_reducible first | refine Ks_n ?_ | refine Ks_r ?_ | refine Ks_e ?_ | refine Kl_e ?_ | refine Kx_n ?_ | refine Kl_r ?_ | refine vRet_i ?_ | refine vSkip_i ?_ | refine vExit_i ?_ | refine vBlock_i ?_ | refine Ks_p ?_ | refine Kl_p ?_ | refine blk_p ?_ | exact Kb_p | refine vGoto_i ?_ | refine vLabel_i ?_ | refine Ks_g ?_ | refine Kl_g ?_ | refine blk_g ?_ | refine jmp_g ?_ | refine jmp_n ?_ | refine jmp_r ?_ | refine nog_n ?_ | refine nog_r ?_ | refine blk_n ?_ | refine blk_r ?_ | refine blk_e ?_ | refine blk_o (by decide) ?_ | refine cp_t ?_ | refine cp_f ?_
        | ((with_reducible apply vCond_x); (focus (simp only [lv, E1, E2, E5, ET, T, orc_mv, noO_mv, mvB, orc_bx, noO_bx, bxB, orc_sx, noO_sx, sxB, fwd, fwds, inv, mOk, Int.toNat_natCast, Nat.div_one, Nat.mul_one, Int.reduceToNat, SB, List.not_mem_nil, ↓reduceIte, ne_eq, reduceCtorEq, Nat.reduceLT, Nat.reduceEqDiff, Nat.reduceAdd, Nat.reduceMul, Nat.reduceLeDiff, Nat.reduceDiv, Nat.reduceMod, Nat.reduceSub, Nat.reduceBEq, List.length_map, rn_len, nts_len, prs_len, prs_cnt, nts_cnt, cnt_two, List.length_set, Int.add_sub_cancel]; with_reducible first | exact Eq.refl (bo true) | exact Eq.refl (bo false))))
        | ((with_reducible refine And.intro ?_ ?_); (focus (try omega)))
      all_goals try (exfalso; omega)
      · exact Kl_n ⟨k + 1, ⟨by omega, fun i hi => by rcases Nat.lt_or_eq_of_le (Nat.le_of_lt_succ hi) with q | q; exact hlt i q; exact q ▸ hb⟩, by omega, by simp only [Int.natCast_add, Int.natCast_one]⟩
      · refine Kf_r ?_
        simp only [Try.f16, E4, E3, E2, E5, rawX, deadX, ET, T, SB, List.not_mem_nil, ↓reduceIte, ne_eq, reduceCtorEq, Nat.reduceLT, Nat.reduceEqDiff, Nat.reduceAdd, Nat.reduceMul, Nat.reduceLeDiff, Nat.reduceDiv, Nat.reduceMod, Nat.reduceSub, Nat.reduceBEq, List.length_map, rn_len, nts_len, prs_len, prs_cnt, nts_cnt, cnt_two, List.length_set, Int.add_sub_cancel]
    · exfalso
      obtain ⟨i, hi, hx⟩ := hex
      rw [hlt i (by omega)] at hx; cases hx
end Go.Proofs.YtncabdcaamkhiaaG
/- N12: pairs nest (pure). -/
namespace Go.Proofs.YtncabdcaamkhiaaG
open Go Go.RowKit Go.Proofs
set_option linter.unusedSimpArgs false
set_option linter.unusedVariables false
structure Wnest (l t : List Int) (z : WS) : Prop where
  inc : z.1.Pairwise (· < ·)
  kW : ∀ j ∈ z.1, kindF l t j = 1
  kO : ∀ p ∈ z.2, kindF l t p.1.toNat = 1 ∧ kindF l t p.2.toNat = 2 ∧ endsF l p.1.toNat p.2.toNat = true
  nst : ∀ p ∈ z.2, ∀ q ∈ z.2, p ≠ q → q.2 ≠ p.2 ∧ ¬ (q.1 < p.1 ∧ p.1 < q.2 ∧ q.2 < p.2)
  wo : ∀ (j : Nat), j ∈ z.1 → ∀ p ∈ z.2, ¬ (p.1 < (j : Int) ∧ (j : Int) < p.2)
theorem take_lt {W : List Nat} (h : W.Pairwise (· < ·)) {k : Nat} (hk : k < W.length) : ∀ j ∈ W.take k, j < W.getD k 0 := by
  intro j hj
  rw [getD_el hk]
  obtain ⟨m, hm, rfl⟩ := List.mem_iff_getElem.1 hj
  simp only [List.length_take] at hm
  rw [List.getElem_take]
  exact List.pairwise_iff_getElem.1 h m k (by omega) hk (by omega)
theorem stW_nest (l t : List Int) : ∀ i, Wnest l t (stW l t i).1
  | 0 => ⟨by simp [stW], by simp [stW], by simp [stW], by simp [stW], by simp [stW]⟩
  | i + 1 => by
    have ih := stW_nest l t i
    have hok := stW_ok l t i
    unfold stW
    split
    · exact ih
    · split
      · rename_i hk1
        split
        · exact ih
        · refine ⟨?_, fun j hj => ?_, ih.kO, ih.nst, fun j hj p hp => ?_⟩
          · rw [List.pairwise_append]
            refine ⟨ih.inc, List.pairwise_singleton _ _, fun a ha b hb => ?_⟩
            simp only [List.mem_singleton] at hb
            have := hok.lt a ha; omega
          · simp only [List.mem_append, List.mem_singleton] at hj
            rcases hj with hj | rfl
            · exact ih.kW j hj
            · exact hk1
          · simp only [List.mem_append, List.mem_singleton] at hj
            rcases hj with hj | rfl
            · exact ih.wo j hj p hp
            · have := hok.pr p hp; omega
      · split
        · rename_i hk2
          split
          · exact ih
          · rename_i k hk
            have hk' := (fnd_lt hk).1
            have hm := getD_mem hk'
            have hwl := hok.lt _ hm
            have htl := take_lt ih.inc hk'
            refine ⟨List.Pairwise.sublist (List.take_sublist _ _) ih.inc, fun j hj => ih.kW j (List.mem_of_mem_take hj), fun p hp => ?_, fun p hp q hq hne => ?_, fun j hj p hp => ?_⟩
            · simp only [List.mem_append, List.mem_singleton] at hp
              rcases hp with hp | rfl
              · exact ih.kO p hp
              · simp only [Int.toNat_natCast]
                exact ⟨ih.kW _ hm, hk2, (fnd_lt hk).2⟩
            · simp only [List.mem_append, List.mem_singleton] at hp hq
              rcases hp with hp | rfl <;> rcases hq with hq | rfl
              · exact ih.nst p hp q hq hne
              · have h1 := hok.pr p hp
                simp only []; omega
              · have h1 := hok.pr q hq
                have h2 := ih.wo _ hm q hq
                simp only []; omega
              · exact absurd rfl hne
            · simp only [List.mem_append, List.mem_singleton] at hp
              rcases hp with hp | rfl
              · exact ih.wo j (List.mem_of_mem_take hj) p hp
              · have := htl j hj
                simp only []; omega
        · exact ih
theorem prsF_mem' {l t : List Int} {p : Int × Int} : p ∈ prsF l t ↔ p ∈ (stW l t l.length).1.2 := by
  have hok := stW_ok l t l.length
  unfold prsF
  exact rising_mem (List.nodup_append.1 hok.nd).2.1 (fun p hp => by have := hok.pr p hp; omega) p
theorem kind_one {l t : List Int} {k : Nat} (h : kindF l t k = 1) : t.getD k 0 = 14 ∧ (brF (l.getD k 0)).1 = 1 := by
  unfold kindF at h; split at h
  · cases h
  · rename_i q; exact ⟨Classical.byContradiction q, h⟩
theorem kind_two {l t : List Int} {k : Nat} (h : kindF l t k = 2) : t.getD k 0 = 14 ∧ (brF (l.getD k 0)).1 = 2 := by
  unfold kindF at h; split at h
  · cases h
  · rename_i q; exact ⟨Classical.byContradiction q, h⟩
/-- What every pair is. -/
theorem prsF_pair {l t : List Int} {p : Int × Int} (h : p ∈ prsF l t) : t.getD p.1.toNat 0 = 14 ∧ t.getD p.2.toNat 0 = 14 ∧ (brF (l.getD p.1.toNat 0)).1 = 1 ∧ (brF (l.getD p.2.toNat 0)).1 = 2 ∧ canF (brF (l.getD p.1.toNat 0)).2 = canF (l.getD p.2.toNat 0) := by
  have hn := (stW_nest l t l.length).kO p (prsF_mem'.1 h)
  exact ⟨(kind_one hn.1).1, (kind_two hn.2.1).1, (kind_one hn.1).2, (kind_two hn.2.1).2, of_decide_eq_true hn.2.2⟩
/-- Two pairs nest or lie apart. -/
theorem prsF_nest {l t : List Int} {j k : Nat} (hj : j < k) (hk : k < (prsF l t).length) :
    ((prsF l t).getD j (0, 0)).1 < ((prsF l t).getD k (0, 0)).1 ∧ ((prsF l t).getD j (0, 0)).2 ≠ ((prsF l t).getD k (0, 0)).2 ∧
    ¬ (((prsF l t).getD k (0, 0)).1 < ((prsF l t).getD j (0, 0)).2 ∧ ((prsF l t).getD j (0, 0)).2 < ((prsF l t).getD k (0, 0)).2) := by
  have hs := rising_sorted l.length (stW l t l.length).1.2
  have hlt := List.pairwise_iff_getElem.1 hs j k (by exact Nat.lt_trans hj hk) hk hj
  have e1 : (prsF l t).getD j (0, 0) = (prsF l t)[j]'(Nat.lt_trans hj hk) := by
    rw [List.getD_eq_getElem?_getD, List.getElem?_eq_getElem (Nat.lt_trans hj hk)]; rfl
  have e2 : (prsF l t).getD k (0, 0) = (prsF l t)[k]'hk := by
    rw [List.getD_eq_getElem?_getD, List.getElem?_eq_getElem hk]; rfl
  have m1 : (prsF l t)[j]'(Nat.lt_trans hj hk) ∈ prsF l t := List.getElem_mem _
  have m2 : (prsF l t)[k]'hk ∈ prsF l t := List.getElem_mem _
  have hlt' : ((prsF l t)[j]'(Nat.lt_trans hj hk)).1 < ((prsF l t)[k]'hk).1 := hlt
  have hne : (prsF l t)[k]'hk ≠ (prsF l t)[j]'(Nat.lt_trans hj hk) := fun e => by rw [e] at hlt'; omega
  have hx := (stW_nest l t l.length).nst _ (prsF_mem'.1 m2) _ (prsF_mem'.1 m1) hne
  rw [e1, e2]
  exact ⟨hlt', hx.1, fun q => hx.2 ⟨hlt', q.1, q.2⟩⟩
end Go.Proofs.YtncabdcaamkhiaaG
