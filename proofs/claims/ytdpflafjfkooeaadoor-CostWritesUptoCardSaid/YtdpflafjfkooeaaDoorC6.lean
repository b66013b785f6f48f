import Derived.Test.YtdpflafjfkooeaaDoorC5
namespace Go.Proofs.YtdpflafjfkooeaaDoorG
open Go Go.RowKit Go.Proofs
set_option linter.unusedSimpArgs false
set_option linter.unusedVariables false
def inS (n : Int) : Prop := 1 ≤ n ∧ n ≤ 4096
instance (n : Int) : Decidable (inS n) := by unfold inS; infer_instance
/-- What a geometry needs, and why not. -/
def secF (a b c : Int) : Int × Int := if ¬ (inS a ∧ inS b ∧ inS c) then (0, 2) else if a + 2 + 2 * b + c > 4096 then (0, 2) else (a + 2 + 2 * b + c, 0)
abbrev geo (a b c : Int) : X := .p (.agg [.v (.raw (.int .i64 a)), .v (.raw (.int .i64 b)), .v (.raw (.int .i64 c))])
abbrev two (p : Int × Int) : X := .tup [.one (.v (.raw (.int .i64 p.1))), .one (.v (.raw (.int .i64 p.2)))]
theorem sec_no {a b c : Int} (h : ¬ (inS a ∧ inS b ∧ inS c)) : secF a b c = (0, 2) := if_pos h
theorem sec_big {a b c : Int} (h : inS a ∧ inS b ∧ inS c) (h2 : a + 2 + 2 * b + c > 4096) : secF a b c = (0, 2) := by unfold secF; rw [if_neg (fun q => q h), if_pos h2]
theorem sec_ok {a b c : Int} (h : inS a ∧ inS b ∧ inS c) (h2 : ¬ a + 2 + 2 * b + c > 4096) : secF a b c = (a + 2 + 2 * b + c, 0) := by unfold secF; rw [if_neg (fun q => q h), if_neg h2]
set_option maxRecDepth 10000 in
set_option maxHeartbeats 4000000 in
theorem sectors1_ok (a b c : Int) : CallOk Tryd.prog 10 [geo a b c] (two (secF a b c)) [] true := by
  refine fn_ok' T_ok (orc_ok _) mixed Tryd.func10 rfl (by kernel_rfl) (lv [[1], [1, 32], [2, 3], [4], [4, 44], [2, 3], [2, 3]]) 46 rfl (by simp) rfl (by simp [X.all, PX.all, TV.rawR, SV.isRaw]) ?_
  simp only [argsG, Nat.zero_add, Nat.reduceAdd]
  repeat' first
    | ((with_reducible refine vOps_cons' ?_)
       generalize hk : Kt _ _ _ _ _ _ _ _ _ = k
       simp only [Tryd.f10, lv, E1, E2, E5, ET, T, orc_mv, noO_mv, mvB, orc_bx, noO_bx, bxB, fwd, fwds, inv, mOk, Int.toNat_natCast, Nat.div_one, Nat.mul_one, Int.reduceToNat, List.not_mem_nil, true_or, or_true, true_and, and_true, decide_true, decide_false, Bool.and_self, Bool.or_self, ↓reduceIte, ne_eq, not_false_eq_true, not_true_eq_false, reduceCtorEq, Nat.reduceLT, Nat.reduceEqDiff, Nat.reduceAdd, Nat.reduceMul, Nat.reduceLeDiff, Nat.reduceDiv, Nat.reduceMod, Nat.reduceSub, Nat.reduceBEq, List.length_map, bs_len, rn_len, chs_len, chs_cnt, List.length_append, List.length_cons, List.length_nil, Ch.x, Opn.x, St.x, List.getD_cons_zero, List.getD_cons_succ]
       try simp (disch := omega) only [wrap_in, Int.toNat_natCast, tv_rn, tv_ch0, tv_ch1, tv_ch2]
       subst hk)
    | with_reducible refine Kt_p ?_
    | with_reducible refine Kt_i (by kernel_rfl) ?_
    | with_reducible refine Kr_f (by kernel_rfl) ?_
    | (with_reducible refine Kr_t ?_; simp only [List.length_append, List.length_cons, List.length_nil, Nat.reduceAdd, Nat.reduceSub, List.drop_succ_cons, List.drop_zero])
    | with_reducible refine vR_nil ?_
    | with_reducible refine KtR_i (by kernel_rfl) ?_
    | with_reducible refine KrR_i (by kernel_rfl) ?_
    | with_reducible refine vR_skip (by decide) ?_
    | ((with_reducible refine vR_cons (by decide) ?_)
       generalize hk : KtR _ _ _ _ _ _ _ _ _ _ = k
       simp only [Tryd.f10, lv, E1, E2, E5, ET, T, orc_mv, noO_mv, mvB, orc_bx, noO_bx, bxB, fwd, fwds, inv, mOk, Int.toNat_natCast, Nat.div_one, Nat.mul_one, Int.reduceToNat, List.not_mem_nil, true_or, or_true, true_and, and_true, decide_true, decide_false, Bool.and_self, Bool.or_self, ↓reduceIte, ne_eq, not_false_eq_true, not_true_eq_false, reduceCtorEq, Nat.reduceLT, Nat.reduceEqDiff, Nat.reduceAdd, Nat.reduceMul, Nat.reduceLeDiff, Nat.reduceDiv, Nat.reduceMod, Nat.reduceSub, Nat.reduceBEq, List.length_map, bs_len, rn_len, chs_len, chs_cnt, List.length_append, List.length_cons, List.length_nil, Ch.x, Opn.x, St.x, List.getD_cons_zero, List.getD_cons_succ]
       try simp (disch := omega) only [wrap_in, Int.toNat_natCast, tv_rn, tv_ch0, tv_ch1, tv_ch2]
       subst hk)
    | ((with_reducible refine vB_i ?_ ?_) <;> intro _ <;> (first | (exfalso; omega) | (exact absurd trivial ‹¬True›) | (try dsimp only [])))
    | ((with_reducible refine vOps_nil' ?_); refine Kr_i (by kernel_rfl) ?_; generalize hk : plain _ _ = G; simp only [lv, E3, E2, E5, rawX, deadX, List.not_mem_nil, true_or, or_true, true_and, and_true, decide_true, decide_false, Bool.and_self, Bool.or_self, ↓reduceIte, ne_eq, not_false_eq_true, not_true_eq_false, reduceCtorEq, Nat.reduceLT, Nat.reduceEqDiff, Nat.reduceAdd, Nat.reduceMul, Nat.reduceLeDiff, Nat.reduceDiv, Nat.reduceMod, Nat.reduceSub, Nat.reduceBEq, List.length_map, bs_len, rn_len, chs_len, chs_cnt, List.length_append, List.length_cons, List.length_nil, Ch.x, Opn.x, St.x, List.getD_cons_zero, List.getD_cons_succ] at hk; subst hk)
    | with_reducible refine vSeq_i ?_
    | with_reducible refine vRegion_i (by kernel_rfl) ?_
    | with_reducible refine Kv_i ?_
    | ((with_reducible apply vStrK_i); (focus (rfl; done)))
    | ((with_reducible refine imp_i ?_); intro _)
    | with_reducible refine Ks_n ?_
    | with_reducible refine Ks_r ?_
    | with_reducible refine Ks_e ?_
    | with_reducible refine Kl_e ?_
    | with_reducible refine Kx_n ?_
    | with_reducible refine Kl_r ?_
    | with_reducible refine vRet_i ?_
    | with_reducible refine vSkip_i ?_
    | with_reducible refine vExit_i ?_
    | with_reducible refine vBlock_i ?_
    | with_reducible refine Ks_p ?_
    | with_reducible refine Kl_p ?_
    | with_reducible refine blk_p ?_
    | with_reducible exact Kb_p
    | with_reducible refine vGoto_i ?_
    | with_reducible refine vLabel_i ?_
    | with_reducible refine Ks_g ?_
    | with_reducible refine Kl_g ?_
    | with_reducible refine blk_g ?_
    | with_reducible refine jmp_g ?_
    | with_reducible refine jmp_n ?_
    | with_reducible refine jmp_r ?_
    | with_reducible refine nog_n ?_
    | with_reducible refine nog_r ?_
    | with_reducible refine blk_n ?_
    | with_reducible refine blk_r ?_
    | with_reducible refine blk_e ?_
    | with_reducible refine blk_o (by decide) ?_
    | ((with_reducible refine vCond_t ?_ ?_); (focus (simp only [lv, E1, E2, E5, ET, T, orc_mv, noO_mv, mvB, orc_bx, noO_bx, bxB, fwd, fwds, inv, mOk, Int.toNat_natCast, Nat.div_one, Nat.mul_one, Int.reduceToNat, List.not_mem_nil, true_or, or_true, true_and, and_true, decide_true, decide_false, Bool.and_self, Bool.or_self, ↓reduceIte, ne_eq, not_false_eq_true, not_true_eq_false, reduceCtorEq, Nat.reduceLT, Nat.reduceEqDiff, Nat.reduceAdd, Nat.reduceMul, Nat.reduceLeDiff, Nat.reduceDiv, Nat.reduceMod, Nat.reduceSub, Nat.reduceBEq, List.length_map, bs_len, rn_len, chs_len, chs_cnt, List.length_append, List.length_cons, List.length_nil, Ch.x, Opn.x, St.x, List.getD_cons_zero, List.getD_cons_succ]; done)))
    | ((with_reducible refine vCond_f ?_ ?_); (focus (simp only [lv, E1, E2, E5, ET, T, orc_mv, noO_mv, mvB, orc_bx, noO_bx, bxB, fwd, fwds, inv, mOk, Int.toNat_natCast, Nat.div_one, Nat.mul_one, Int.reduceToNat, List.not_mem_nil, true_or, or_true, true_and, and_true, decide_true, decide_false, Bool.and_self, Bool.or_self, ↓reduceIte, ne_eq, not_false_eq_true, not_true_eq_false, reduceCtorEq, Nat.reduceLT, Nat.reduceEqDiff, Nat.reduceAdd, Nat.reduceMul, Nat.reduceLeDiff, Nat.reduceDiv, Nat.reduceMod, Nat.reduceSub, Nat.reduceBEq, List.length_map, bs_len, rn_len, chs_len, chs_cnt, List.length_append, List.length_cons, List.length_nil, Ch.x, Opn.x, St.x, List.getD_cons_zero, List.getD_cons_succ]; done)))
    | ((with_reducible refine And.intro ?_ ?_); (focus (try omega)))
  all_goals refine Kf_r ?_
  all_goals first
    | (rw [sec_no (by unfold inS; omega)]; simp only [Tryd.f10, E4, E3, E2, E5, rawX, deadX, ET, T, List.not_mem_nil, true_or, or_true, true_and, and_true, decide_true, decide_false, Bool.and_self, Bool.or_self, ↓reduceIte, ne_eq, not_false_eq_true, not_true_eq_false, reduceCtorEq, Nat.reduceLT, Nat.reduceEqDiff, Nat.reduceAdd, Nat.reduceMul, Nat.reduceLeDiff, Nat.reduceDiv, Nat.reduceMod, Nat.reduceSub, Nat.reduceBEq, List.length_map, bs_len, rn_len, chs_len, chs_cnt, List.length_append, List.length_cons, List.length_nil, Ch.x, Opn.x, St.x, List.getD_cons_zero, List.getD_cons_succ]; done)
    | (rw [sec_big (by unfold inS; omega) (by omega)]; simp only [Tryd.f10, E4, E3, E2, E5, rawX, deadX, ET, T, List.not_mem_nil, true_or, or_true, true_and, and_true, decide_true, decide_false, Bool.and_self, Bool.or_self, ↓reduceIte, ne_eq, not_false_eq_true, not_true_eq_false, reduceCtorEq, Nat.reduceLT, Nat.reduceEqDiff, Nat.reduceAdd, Nat.reduceMul, Nat.reduceLeDiff, Nat.reduceDiv, Nat.reduceMod, Nat.reduceSub, Nat.reduceBEq, List.length_map, bs_len, rn_len, chs_len, chs_cnt, List.length_append, List.length_cons, List.length_nil, Ch.x, Opn.x, St.x, List.getD_cons_zero, List.getD_cons_succ]; done)
    | (rw [sec_ok (by unfold inS; omega) (by omega)]; simp only [Tryd.f10, E4, E3, E2, E5, rawX, deadX, ET, T, List.not_mem_nil, true_or, or_true, true_and, and_true, decide_true, decide_false, Bool.and_self, Bool.or_self, ↓reduceIte, ne_eq, not_false_eq_true, not_true_eq_false, reduceCtorEq, Nat.reduceLT, Nat.reduceEqDiff, Nat.reduceAdd, Nat.reduceMul, Nat.reduceLeDiff, Nat.reduceDiv, Nat.reduceMod, Nat.reduceSub, Nat.reduceBEq, List.length_map, bs_len, rn_len, chs_len, chs_cnt, List.length_append, List.length_cons, List.length_nil, Ch.x, Opn.x, St.x, List.getD_cons_zero, List.getD_cons_succ]; done)
set_option maxRecDepth 10000 in
set_option maxHeartbeats 4000000 in
theorem sectors_ok (a b c : Int) : CallOk Tryd.prog 9 [geo a b c] (two (secF a b c)) [] true := by
  refine fn_ok' T_ok (orc_ok _) mixed Tryd.func9 rfl (by kernel_rfl) (lv [[1], [1, 13, 14], [1, 13, 14, 15], [1, 5, 13, 14], [1, 13, 14, 22], [2, 3], [1, 13, 14], [6], [6, 35], [2, 3], [2, 3]]) 37 rfl (by simp) rfl (by simp [X.all, PX.all, TV.rawR, SV.isRaw]) ?_
  simp only [argsG, Nat.zero_add, Nat.reduceAdd]
  repeat' first
    | ((with_reducible refine vOps_cons' ?_)
       generalize hk : Kt _ _ _ _ _ _ _ _ _ = k
       simp only [Tryd.f9, lv, E1, E2, E5, ET, T, orc_mv, noO_mv, mvB, orc_bx, noO_bx, bxB, fwd, fwds, inv, mOk, Int.toNat_natCast, Nat.div_one, Nat.mul_one, Int.reduceToNat, List.not_mem_nil, true_or, or_true, true_and, and_true, decide_true, decide_false, Bool.and_self, Bool.or_self, ↓reduceIte, ne_eq, not_false_eq_true, not_true_eq_false, reduceCtorEq, Nat.reduceLT, Nat.reduceEqDiff, Nat.reduceAdd, Nat.reduceMul, Nat.reduceLeDiff, Nat.reduceDiv, Nat.reduceMod, Nat.reduceSub, Nat.reduceBEq, List.length_map, bs_len, rn_len, chs_len, chs_cnt, List.length_append, List.length_cons, List.length_nil, Ch.x, Opn.x, St.x, List.getD_cons_zero, List.getD_cons_succ]
       try simp (disch := omega) only [wrap_in, Int.toNat_natCast, tv_rn, tv_ch0, tv_ch1, tv_ch2]
       subst hk)
    | with_reducible refine Kt_p ?_
    | with_reducible refine Kt_i (by kernel_rfl) ?_
    | with_reducible refine Kr_f (by kernel_rfl) ?_
    | (with_reducible refine Kr_t ?_; simp only [List.length_append, List.length_cons, List.length_nil, Nat.reduceAdd, Nat.reduceSub, List.drop_succ_cons, List.drop_zero])
    | with_reducible refine vR_nil ?_
    | with_reducible refine KtR_i (by kernel_rfl) ?_
    | with_reducible refine KrR_i (by kernel_rfl) ?_
    | with_reducible refine vR_skip (by decide) ?_
    | ((with_reducible refine vR_cons (by decide) ?_)
       generalize hk : KtR _ _ _ _ _ _ _ _ _ _ = k
       simp only [Tryd.f9, lv, E1, E2, E5, ET, T, orc_mv, noO_mv, mvB, orc_bx, noO_bx, bxB, fwd, fwds, inv, mOk, Int.toNat_natCast, Nat.div_one, Nat.mul_one, Int.reduceToNat, List.not_mem_nil, true_or, or_true, true_and, and_true, decide_true, decide_false, Bool.and_self, Bool.or_self, ↓reduceIte, ne_eq, not_false_eq_true, not_true_eq_false, reduceCtorEq, Nat.reduceLT, Nat.reduceEqDiff, Nat.reduceAdd, Nat.reduceMul, Nat.reduceLeDiff, Nat.reduceDiv, Nat.reduceMod, Nat.reduceSub, Nat.reduceBEq, List.length_map, bs_len, rn_len, chs_len, chs_cnt, List.length_append, List.length_cons, List.length_nil, Ch.x, Opn.x, St.x, List.getD_cons_zero, List.getD_cons_succ]
       try simp (disch := omega) only [wrap_in, Int.toNat_natCast, tv_rn, tv_ch0, tv_ch1, tv_ch2]
       subst hk)
    | ((with_reducible refine vB_i ?_ ?_) <;> intro _ <;> (first | (exfalso; omega) | (exact absurd trivial ‹¬True›) | (try dsimp only [])))
    | ((with_reducible refine vOps_nil' ?_); refine Kr_i (by kernel_rfl) ?_; generalize hk : plain _ _ = G; simp only [lv, E3, E2, E5, rawX, deadX, List.not_mem_nil, true_or, or_true, true_and, and_true, decide_true, decide_false, Bool.and_self, Bool.or_self, ↓reduceIte, ne_eq, not_false_eq_true, not_true_eq_false, reduceCtorEq, Nat.reduceLT, Nat.reduceEqDiff, Nat.reduceAdd, Nat.reduceMul, Nat.reduceLeDiff, Nat.reduceDiv, Nat.reduceMod, Nat.reduceSub, Nat.reduceBEq, List.length_map, bs_len, rn_len, chs_len, chs_cnt, List.length_append, List.length_cons, List.length_nil, Ch.x, Opn.x, St.x, List.getD_cons_zero, List.getD_cons_succ] at hk; subst hk)
    | with_reducible refine vSeq_i ?_
    | with_reducible refine vRegion_i (by kernel_rfl) ?_
    | with_reducible refine Kv_i ?_
    | ((with_reducible apply vStrK_i); (focus (rfl; done)))
    | ((with_reducible refine imp_i ?_); intro _)
    | with_reducible refine Ks_n ?_
    | with_reducible refine Ks_r ?_
    | with_reducible refine Ks_e ?_
    | with_reducible refine Kl_e ?_
    | with_reducible refine Kx_n ?_
    | with_reducible refine Kl_r ?_
    | with_reducible refine vRet_i ?_
    | with_reducible refine vSkip_i ?_
    | with_reducible refine vExit_i ?_
    | with_reducible refine vBlock_i ?_
    | with_reducible refine Ks_p ?_
    | with_reducible refine Kl_p ?_
    | with_reducible refine blk_p ?_
    | with_reducible exact Kb_p
    | with_reducible refine vGoto_i ?_
    | with_reducible refine vLabel_i ?_
    | with_reducible refine Ks_g ?_
    | with_reducible refine Kl_g ?_
    | with_reducible refine blk_g ?_
    | with_reducible refine jmp_g ?_
    | with_reducible refine jmp_n ?_
    | with_reducible refine jmp_r ?_
    | with_reducible refine nog_n ?_
    | with_reducible refine nog_r ?_
    | with_reducible refine blk_n ?_
    | with_reducible refine blk_r ?_
    | with_reducible refine blk_e ?_
    | with_reducible refine blk_o (by decide) ?_
    | ((with_reducible refine vCond_t ?_ ?_); (focus (simp only [lv, E1, E2, E5, ET, T, orc_mv, noO_mv, mvB, orc_bx, noO_bx, bxB, fwd, fwds, inv, mOk, Int.toNat_natCast, Nat.div_one, Nat.mul_one, Int.reduceToNat, List.not_mem_nil, true_or, or_true, true_and, and_true, decide_true, decide_false, Bool.and_self, Bool.or_self, ↓reduceIte, ne_eq, not_false_eq_true, not_true_eq_false, reduceCtorEq, Nat.reduceLT, Nat.reduceEqDiff, Nat.reduceAdd, Nat.reduceMul, Nat.reduceLeDiff, Nat.reduceDiv, Nat.reduceMod, Nat.reduceSub, Nat.reduceBEq, List.length_map, bs_len, rn_len, chs_len, chs_cnt, List.length_append, List.length_cons, List.length_nil, Ch.x, Opn.x, St.x, List.getD_cons_zero, List.getD_cons_succ]; done)))
    | ((with_reducible refine vCond_f ?_ ?_); (focus (simp only [lv, E1, E2, E5, ET, T, orc_mv, noO_mv, mvB, orc_bx, noO_bx, bxB, fwd, fwds, inv, mOk, Int.toNat_natCast, Nat.div_one, Nat.mul_one, Int.reduceToNat, List.not_mem_nil, true_or, or_true, true_and, and_true, decide_true, decide_false, Bool.and_self, Bool.or_self, ↓reduceIte, ne_eq, not_false_eq_true, not_true_eq_false, reduceCtorEq, Nat.reduceLT, Nat.reduceEqDiff, Nat.reduceAdd, Nat.reduceMul, Nat.reduceLeDiff, Nat.reduceDiv, Nat.reduceMod, Nat.reduceSub, Nat.reduceBEq, List.length_map, bs_len, rn_len, chs_len, chs_cnt, List.length_append, List.length_cons, List.length_nil, Ch.x, Opn.x, St.x, List.getD_cons_zero, List.getD_cons_succ]; done)))
    | ((with_reducible refine And.intro ?_ ?_); (focus (try omega)))
  refine vLoop_s (fun k : Nat => [(.t 1, .t (.p (.one (.pr 0 0)))), (.t 13, .t (geo a b c)), (.t 14, .t (i64 k)), (.box 0, .box 23 [.v (.raw (.int .i64 a)), .v (.raw (.int .i64 b)), .v (.raw (.int .i64 c))])]) (fun k => k ≤ 3 ∧ (k = 0 ∨ (1 ≤ a ∧ a ≤ 4096)) ∧ (k ≤ 1 ∨ (1 ≤ b ∧ b ≤ 4096)) ∧ (k ≤ 2 ∨ (1 ≤ c ∧ c ≤ 4096))) (fun k => 3 - k) 0 ⟨by omega, by omega, by omega, by omega⟩ rfl ?_
  rintro k ⟨hk, h1, h2, h3⟩
  rcases (by omega : k = 0 ∨ k = 1 ∨ k = 2 ∨ k = 3) with rfl | rfl | rfl | rfl
  all_goals
    repeat' first
      | ((with_reducible refine vOps_cons' ?_)
         generalize hk : Kt _ _ _ _ _ _ _ _ _ = k
         simp only [Tryd.f9, lv, E1, E2, E5, ET, T, orc_mv, noO_mv, mvB, orc_bx, noO_bx, bxB, fwd, fwds, inv, mOk, Int.toNat_natCast, Nat.div_one, Nat.mul_one, Int.reduceToNat, List.not_mem_nil, true_or, or_true, true_and, and_true, decide_true, decide_false, Bool.and_self, Bool.or_self, ↓reduceIte, ne_eq, not_false_eq_true, not_true_eq_false, reduceCtorEq, Nat.reduceLT, Nat.reduceEqDiff, Nat.reduceAdd, Nat.reduceMul, Nat.reduceLeDiff, Nat.reduceDiv, Nat.reduceMod, Nat.reduceSub, Nat.reduceBEq, List.length_map, bs_len, rn_len, chs_len, chs_cnt, List.length_append, List.length_cons, List.length_nil, Ch.x, Opn.x, St.x, List.getD_cons_zero, List.getD_cons_succ]
         try simp (disch := omega) only [wrap_in, Int.toNat_natCast, tv_rn, tv_ch0, tv_ch1, tv_ch2]
         subst hk)
      | with_reducible refine Kt_p ?_
      | with_reducible refine Kt_i (by kernel_rfl) ?_
      | with_reducible refine Kr_f (by kernel_rfl) ?_
      | (with_reducible refine Kr_t ?_; simp only [List.length_append, List.length_cons, List.length_nil, Nat.reduceAdd, Nat.reduceSub, List.drop_succ_cons, List.drop_zero])
      | with_reducible refine vR_nil ?_
      | with_reducible refine KtR_i (by kernel_rfl) ?_
      | with_reducible refine KrR_i (by kernel_rfl) ?_
      | with_reducible refine vR_skip (by decide) ?_
      | ((with_reducible refine vR_cons (by decide) ?_)
         generalize hk : KtR _ _ _ _ _ _ _ _ _ _ = k
         simp only [Tryd.f9, lv, E1, E2, E5, ET, T, orc_mv, noO_mv, mvB, orc_bx, noO_bx, bxB, fwd, fwds, inv, mOk, Int.toNat_natCast, Nat.div_one, Nat.mul_one, Int.reduceToNat, List.not_mem_nil, true_or, or_true, true_and, and_true, decide_true, decide_false, Bool.and_self, Bool.or_self, ↓reduceIte, ne_eq, not_false_eq_true, not_true_eq_false, reduceCtorEq, Nat.reduceLT, Nat.reduceEqDiff, Nat.reduceAdd, Nat.reduceMul, Nat.reduceLeDiff, Nat.reduceDiv, Nat.reduceMod, Nat.reduceSub, Nat.reduceBEq, List.length_map, bs_len, rn_len, chs_len, chs_cnt, List.length_append, List.length_cons, List.length_nil, Ch.x, Opn.x, St.x, List.getD_cons_zero, List.getD_cons_succ]
         try simp (disch := omega) only [wrap_in, Int.toNat_natCast, tv_rn, tv_ch0, tv_ch1, tv_ch2]
         subst hk)
      | ((with_reducible refine vB_i ?_ ?_) <;> intro _ <;> (first | (exfalso; omega) | (exact absurd trivial ‹¬True›) | (try dsimp only [])))
      | ((with_reducible refine vOps_nil' ?_); refine Kr_i (by kernel_rfl) ?_; generalize hk : plain _ _ = G; simp only [lv, E3, E2, E5, rawX, deadX, List.not_mem_nil, true_or, or_true, true_and, and_true, decide_true, decide_false, Bool.and_self, Bool.or_self, ↓reduceIte, ne_eq, not_false_eq_true, not_true_eq_false, reduceCtorEq, Nat.reduceLT, Nat.reduceEqDiff, Nat.reduceAdd, Nat.reduceMul, Nat.reduceLeDiff, Nat.reduceDiv, Nat.reduceMod, Nat.reduceSub, Nat.reduceBEq, List.length_map, bs_len, rn_len, chs_len, chs_cnt, List.length_append, List.length_cons, List.length_nil, Ch.x, Opn.x, St.x, List.getD_cons_zero, List.getD_cons_succ] at hk; subst hk)
      | with_reducible refine vSeq_i ?_
      | with_reducible refine vRegion_i (by kernel_rfl) ?_
      | with_reducible refine Kv_i ?_
      | ((with_reducible apply vStrK_i); (focus (rfl; done)))
      | ((with_reducible refine imp_i ?_); intro _)
      | with_reducible refine Ks_n ?_
      | with_reducible refine Ks_r ?_
      | with_reducible refine Ks_e ?_
      | with_reducible refine Kl_e ?_
      | with_reducible refine Kx_n ?_
      | with_reducible refine Kl_r ?_
      | with_reducible refine vRet_i ?_
      | with_reducible refine vSkip_i ?_
      | with_reducible refine vExit_i ?_
      | with_reducible refine vBlock_i ?_
      | with_reducible refine Ks_p ?_
      | with_reducible refine Kl_p ?_
      | with_reducible refine blk_p ?_
      | with_reducible exact Kb_p
      | with_reducible refine vGoto_i ?_
      | with_reducible refine vLabel_i ?_
      | with_reducible refine Ks_g ?_
      | with_reducible refine Kl_g ?_
      | with_reducible refine blk_g ?_
      | with_reducible refine jmp_g ?_
      | with_reducible refine jmp_n ?_
      | with_reducible refine jmp_r ?_
      | with_reducible refine nog_n ?_
      | with_reducible refine nog_r ?_
      | with_reducible refine blk_n ?_
      | with_reducible refine blk_r ?_
      | with_reducible refine blk_e ?_
      | with_reducible refine blk_o (by decide) ?_
      | ((with_reducible refine vCond_t ?_ ?_); (focus (simp only [lv, E1, E2, E5, ET, T, orc_mv, noO_mv, mvB, orc_bx, noO_bx, bxB, fwd, fwds, inv, mOk, Int.toNat_natCast, Nat.div_one, Nat.mul_one, Int.reduceToNat, List.not_mem_nil, true_or, or_true, true_and, and_true, decide_true, decide_false, Bool.and_self, Bool.or_self, ↓reduceIte, ne_eq, not_false_eq_true, not_true_eq_false, reduceCtorEq, Nat.reduceLT, Nat.reduceEqDiff, Nat.reduceAdd, Nat.reduceMul, Nat.reduceLeDiff, Nat.reduceDiv, Nat.reduceMod, Nat.reduceSub, Nat.reduceBEq, List.length_map, bs_len, rn_len, chs_len, chs_cnt, List.length_append, List.length_cons, List.length_nil, Ch.x, Opn.x, St.x, List.getD_cons_zero, List.getD_cons_succ]; done)))
      | ((with_reducible refine vCond_f ?_ ?_); (focus (simp only [lv, E1, E2, E5, ET, T, orc_mv, noO_mv, mvB, orc_bx, noO_bx, bxB, fwd, fwds, inv, mOk, Int.toNat_natCast, Nat.div_one, Nat.mul_one, Int.reduceToNat, List.not_mem_nil, true_or, or_true, true_and, and_true, decide_true, decide_false, Bool.and_self, Bool.or_self, ↓reduceIte, ne_eq, not_false_eq_true, not_true_eq_false, reduceCtorEq, Nat.reduceLT, Nat.reduceEqDiff, Nat.reduceAdd, Nat.reduceMul, Nat.reduceLeDiff, Nat.reduceDiv, Nat.reduceMod, Nat.reduceSub, Nat.reduceBEq, List.length_map, bs_len, rn_len, chs_len, chs_cnt, List.length_append, List.length_cons, List.length_nil, Ch.x, Opn.x, St.x, List.getD_cons_zero, List.getD_cons_succ]; done)))
      | ((with_reducible refine And.intro ?_ ?_); (focus (try omega)))
  all_goals first
    | (refine Kf_r ?_; rw [sec_no (by unfold inS; omega)]; simp only [Tryd.f9, E4, E3, E2, E5, rawX, deadX, ET, T, List.not_mem_nil, true_or, or_true, true_and, and_true, decide_true, decide_false, Bool.and_self, Bool.or_self, ↓reduceIte, ne_eq, not_false_eq_true, not_true_eq_false, reduceCtorEq, Nat.reduceLT, Nat.reduceEqDiff, Nat.reduceAdd, Nat.reduceMul, Nat.reduceLeDiff, Nat.reduceDiv, Nat.reduceMod, Nat.reduceSub, Nat.reduceBEq, List.length_map, bs_len, rn_len, chs_len, chs_cnt, List.length_append, List.length_cons, List.length_nil, Ch.x, Opn.x, St.x, List.getD_cons_zero, List.getD_cons_succ]; done)
    | (refine Kf_r ?_; rw [sec_big (by unfold inS; omega) (by omega)]; simp only [Tryd.f9, E4, E3, E2, E5, rawX, deadX, ET, T, List.not_mem_nil, true_or, or_true, true_and, and_true, decide_true, decide_false, Bool.and_self, Bool.or_self, ↓reduceIte, ne_eq, not_false_eq_true, not_true_eq_false, reduceCtorEq, Nat.reduceLT, Nat.reduceEqDiff, Nat.reduceAdd, Nat.reduceMul, Nat.reduceLeDiff, Nat.reduceDiv, Nat.reduceMod, Nat.reduceSub, Nat.reduceBEq, List.length_map, bs_len, rn_len, chs_len, chs_cnt, List.length_append, List.length_cons, List.length_nil, Ch.x, Opn.x, St.x, List.getD_cons_zero, List.getD_cons_succ]; done)
    | (refine Kf_r ?_; rw [sec_ok (by unfold inS; omega) (by omega), show a + 2 * (b + 1) + c = a + 2 + 2 * b + c by omega]; simp only [Tryd.f9, E4, E3, E2, E5, rawX, deadX, ET, T, List.not_mem_nil, true_or, or_true, true_and, and_true, decide_true, decide_false, Bool.and_self, Bool.or_self, ↓reduceIte, ne_eq, not_false_eq_true, not_true_eq_false, reduceCtorEq, Nat.reduceLT, Nat.reduceEqDiff, Nat.reduceAdd, Nat.reduceMul, Nat.reduceLeDiff, Nat.reduceDiv, Nat.reduceMod, Nat.reduceSub, Nat.reduceBEq, List.length_map, bs_len, rn_len, chs_len, chs_cnt, List.length_append, List.length_cons, List.length_nil, Ch.x, Opn.x, St.x, List.getD_cons_zero, List.getD_cons_succ]; done)
    | exact Kl_n ⟨1, ⟨by omega, by omega, by omega, by omega⟩, by omega, rfl⟩
    | exact Kl_n ⟨2, ⟨by omega, by omega, by omega, by omega⟩, by omega, rfl⟩
    | exact Kl_n ⟨3, ⟨by omega, by omega, by omega, by omega⟩, by omega, rfl⟩
theorem scal_enc {l : List Int} (hs : scal l) : encV l = encF l := if_pos hs
set_option maxRecDepth 10000 in
set_option maxHeartbeats 4000000 in
theorem rop_ok (o : Opn) (h : R32s o.text) (hl : o.text.length ≤ 2000000) : CallOk Tryd.prog 25 [o.x] (.tup [.one (.sr 0), .one (.v (.raw (.int .i64 (opF o).2)))]) [(5, 1, bs (opF o).1)] true := by
  have hv := encV_le o.text
  refine fn_ok' T_ok (orc_ok _) mixed Tryd.func25 rfl (by kernel_rfl) (lv [[1], [1, 15], [2, 3], [1, 4], [1, 4, 22], [1, 4, 26], [2, 3], [1, 4], [1, 4, 34], [1, 4, 38], [2, 3], [1, 4], [1, 4, 46], [1, 4, 50], [2, 3], [4, 5, 7], [4, 5, 7, 59], [2, 3], [4], [4, 66], [2, 3], [2, 3]]) 68 rfl (by simp) rfl (fun _ => ⟨rfl, rows_raw⟩) ?_
  simp only [argsG, Nat.zero_add, Nat.reduceAdd, Opn.x]
  repeat' first
    | ((with_reducible refine vOps_cons' ?_)
       generalize hk : Kt _ _ _ _ _ _ _ _ _ = k
       simp only [Tryd.f25, lv, E1, E2, E5, ET, T, orc_mv, noO_mv, mvB, orc_bx, noO_bx, bxB, fwd, fwds, inv, mOk, Int.toNat_natCast, Nat.div_one, Nat.mul_one, Int.reduceToNat, List.not_mem_nil, true_or, or_true, true_and, and_true, decide_true, decide_false, Bool.and_self, Bool.or_self, ↓reduceIte, ne_eq, not_false_eq_true, not_true_eq_false, reduceCtorEq, Nat.reduceLT, Nat.reduceEqDiff, Nat.reduceAdd, Nat.reduceMul, Nat.reduceLeDiff, Nat.reduceDiv, Nat.reduceMod, Nat.reduceSub, Nat.reduceBEq, List.length_map, bs_len, rn_len, chs_len, chs_cnt, List.length_append, List.length_cons, List.length_nil, Ch.x, Opn.x, St.x, List.getD_cons_zero, List.getD_cons_succ]
       try simp (disch := omega) only [wrap_in, Int.toNat_natCast, tv_rn, tv_ch0, tv_ch1, tv_ch2]
       subst hk)
    | with_reducible refine Kt_p ?_
    | with_reducible refine Kt_i (by kernel_rfl) ?_
    | with_reducible refine Kr_f (by kernel_rfl) ?_
    | (with_reducible refine Kr_t ?_; simp only [List.length_append, List.length_cons, List.length_nil, Nat.reduceAdd, Nat.reduceSub, List.drop_succ_cons, List.drop_zero])
    | with_reducible refine vR_nil ?_
    | with_reducible refine KtR_i (by kernel_rfl) ?_
    | with_reducible refine KrR_i (by kernel_rfl) ?_
    | with_reducible refine vR_skip (by decide) ?_
    | ((with_reducible refine vR_cons (by decide) ?_)
       generalize hk : KtR _ _ _ _ _ _ _ _ _ _ = k
       simp only [Tryd.f25, lv, E1, E2, E5, ET, T, orc_mv, noO_mv, mvB, orc_bx, noO_bx, bxB, fwd, fwds, inv, mOk, Int.toNat_natCast, Nat.div_one, Nat.mul_one, Int.reduceToNat, List.not_mem_nil, true_or, or_true, true_and, and_true, decide_true, decide_false, Bool.and_self, Bool.or_self, ↓reduceIte, ne_eq, not_false_eq_true, not_true_eq_false, reduceCtorEq, Nat.reduceLT, Nat.reduceEqDiff, Nat.reduceAdd, Nat.reduceMul, Nat.reduceLeDiff, Nat.reduceDiv, Nat.reduceMod, Nat.reduceSub, Nat.reduceBEq, List.length_map, bs_len, rn_len, chs_len, chs_cnt, List.length_append, List.length_cons, List.length_nil, Ch.x, Opn.x, St.x, List.getD_cons_zero, List.getD_cons_succ]
       try simp (disch := omega) only [wrap_in, Int.toNat_natCast, tv_rn, tv_ch0, tv_ch1, tv_ch2]
       subst hk)
    | ((with_reducible refine vB_i ?_ ?_) <;> intro _ <;> (first | (exfalso; omega) | (exact absurd trivial ‹¬True›) | (try dsimp only [])))
    | ((with_reducible refine vOps_nil' ?_); refine Kr_i (by kernel_rfl) ?_; generalize hk : plain _ _ = G; simp only [lv, E3, E2, E5, rawX, deadX, List.not_mem_nil, true_or, or_true, true_and, and_true, decide_true, decide_false, Bool.and_self, Bool.or_self, ↓reduceIte, ne_eq, not_false_eq_true, not_true_eq_false, reduceCtorEq, Nat.reduceLT, Nat.reduceEqDiff, Nat.reduceAdd, Nat.reduceMul, Nat.reduceLeDiff, Nat.reduceDiv, Nat.reduceMod, Nat.reduceSub, Nat.reduceBEq, List.length_map, bs_len, rn_len, chs_len, chs_cnt, List.length_append, List.length_cons, List.length_nil, Ch.x, Opn.x, St.x, List.getD_cons_zero, List.getD_cons_succ] at hk; subst hk)
    | with_reducible refine vSeq_i ?_
    | with_reducible refine vRegion_i (by kernel_rfl) ?_
    | with_reducible refine Kv_i ?_
    | ((with_reducible apply vStrK_i); (focus (rfl; done)))
    | ((with_reducible refine imp_i ?_); intro _)
    | with_reducible refine Ks_n ?_
    | with_reducible refine Ks_r ?_
    | with_reducible refine Ks_e ?_
    | with_reducible refine Kl_e ?_
    | with_reducible refine Kx_n ?_
    | with_reducible refine Kl_r ?_
    | with_reducible refine vRet_i ?_
    | with_reducible refine vSkip_i ?_
    | with_reducible refine vExit_i ?_
    | with_reducible refine vBlock_i ?_
    | with_reducible refine Ks_p ?_
    | with_reducible refine Kl_p ?_
    | with_reducible refine blk_p ?_
    | with_reducible exact Kb_p
    | with_reducible refine vGoto_i ?_
    | with_reducible refine vLabel_i ?_
    | with_reducible refine Ks_g ?_
    | with_reducible refine Kl_g ?_
    | with_reducible refine blk_g ?_
    | with_reducible refine jmp_g ?_
    | with_reducible refine jmp_n ?_
    | with_reducible refine jmp_r ?_
    | with_reducible refine nog_n ?_
    | with_reducible refine nog_r ?_
    | with_reducible refine blk_n ?_
    | with_reducible refine blk_r ?_
    | with_reducible refine blk_e ?_
    | with_reducible refine blk_o (by decide) ?_
    | ((with_reducible refine vCond_t ?_ ?_); (focus (simp only [lv, E1, E2, E5, ET, T, orc_mv, noO_mv, mvB, orc_bx, noO_bx, bxB, fwd, fwds, inv, mOk, Int.toNat_natCast, Nat.div_one, Nat.mul_one, Int.reduceToNat, List.not_mem_nil, true_or, or_true, true_and, and_true, decide_true, decide_false, Bool.and_self, Bool.or_self, ↓reduceIte, ne_eq, not_false_eq_true, not_true_eq_false, reduceCtorEq, Nat.reduceLT, Nat.reduceEqDiff, Nat.reduceAdd, Nat.reduceMul, Nat.reduceLeDiff, Nat.reduceDiv, Nat.reduceMod, Nat.reduceSub, Nat.reduceBEq, List.length_map, bs_len, rn_len, chs_len, chs_cnt, List.length_append, List.length_cons, List.length_nil, Ch.x, Opn.x, St.x, List.getD_cons_zero, List.getD_cons_succ]; done)))
    | ((with_reducible refine vCond_f ?_ ?_); (focus (simp only [lv, E1, E2, E5, ET, T, orc_mv, noO_mv, mvB, orc_bx, noO_bx, bxB, fwd, fwds, inv, mOk, Int.toNat_natCast, Nat.div_one, Nat.mul_one, Int.reduceToNat, List.not_mem_nil, true_or, or_true, true_and, and_true, decide_true, decide_false, Bool.and_self, Bool.or_self, ↓reduceIte, ne_eq, not_false_eq_true, not_true_eq_false, reduceCtorEq, Nat.reduceLT, Nat.reduceEqDiff, Nat.reduceAdd, Nat.reduceMul, Nat.reduceLeDiff, Nat.reduceDiv, Nat.reduceMod, Nat.reduceSub, Nat.reduceBEq, List.length_map, bs_len, rn_len, chs_len, chs_cnt, List.length_append, List.length_cons, List.length_nil, Ch.x, Opn.x, St.x, List.getD_cons_zero, List.getD_cons_succ]; done)))
    | ((with_reducible refine And.intro ?_ ?_); (focus (try omega)))
    | ((with_reducible apply orc_b); (focus (exact is1_ok _; done)); (all_goals (intro hb; (try simp only [decide_eq_true_eq, decide_eq_false_iff_not, Bool.not_eq_true', Bool.not_eq_false', Bool.and_eq_true, Decidable.not_not] at hb); (generalize hk : Kt _ _ _ _ _ _ _ _ _ = k; simp only [lv, E1, E2, E5, ET, T, orc_mv, noO_mv, mvB, orc_bx, noO_bx, bxB, fwd, fwds, inv, mOk, Int.toNat_natCast, Nat.div_one, Nat.mul_one, Int.reduceToNat, List.not_mem_nil, true_or, or_true, true_and, and_true, decide_true, decide_false, Bool.and_self, Bool.or_self, ↓reduceIte, ne_eq, not_false_eq_true, not_true_eq_false, reduceCtorEq, Nat.reduceLT, Nat.reduceEqDiff, Nat.reduceAdd, Nat.reduceMul, Nat.reduceLeDiff, Nat.reduceDiv, Nat.reduceMod, Nat.reduceSub, Nat.reduceBEq, List.length_map, bs_len, rn_len, chs_len, chs_cnt, List.length_append, List.length_cons, List.length_nil, Ch.x, Opn.x, St.x, List.getD_cons_zero, List.getD_cons_succ]; (try simp (disch := omega) only [wrap_in, Int.toNat_natCast, tv_rn, tv_ch0, tv_ch1, tv_ch2]); subst hk))))
    | ((with_reducible apply orc_i); (focus ((have hq := encode1_ok o.text h hl; simp only [encX, encR_v] at hq; exact hq); done)); (generalize hk : Kt _ _ _ _ _ _ _ _ _ = k; simp only [lv, E1, E2, E5, ET, T, orc_mv, noO_mv, mvB, orc_bx, noO_bx, bxB, fwd, fwds, inv, mOk, Int.toNat_natCast, Nat.div_one, Nat.mul_one, Int.reduceToNat, List.not_mem_nil, true_or, or_true, true_and, and_true, decide_true, decide_false, Bool.and_self, Bool.or_self, ↓reduceIte, ne_eq, not_false_eq_true, not_true_eq_false, reduceCtorEq, Nat.reduceLT, Nat.reduceEqDiff, Nat.reduceAdd, Nat.reduceMul, Nat.reduceLeDiff, Nat.reduceDiv, Nat.reduceMod, Nat.reduceSub, Nat.reduceBEq, List.length_map, bs_len, rn_len, chs_len, chs_cnt, List.length_append, List.length_cons, List.length_nil, Ch.x, Opn.x, St.x, List.getD_cons_zero, List.getD_cons_succ]; (try simp (disch := omega) only [wrap_in, Int.toNat_natCast, tv_rn, tv_ch0, tv_ch1, tv_ch2]); subst hk))
    | ((with_reducible apply orc_i); (focus (exact digits_ok _ (by omega) (by omega); done)); (generalize hk : Kt _ _ _ _ _ _ _ _ _ = k; simp only [lv, E1, E2, E5, ET, T, orc_mv, noO_mv, mvB, orc_bx, noO_bx, bxB, fwd, fwds, inv, mOk, Int.toNat_natCast, Nat.div_one, Nat.mul_one, Int.reduceToNat, List.not_mem_nil, true_or, or_true, true_and, and_true, decide_true, decide_false, Bool.and_self, Bool.or_self, ↓reduceIte, ne_eq, not_false_eq_true, not_true_eq_false, reduceCtorEq, Nat.reduceLT, Nat.reduceEqDiff, Nat.reduceAdd, Nat.reduceMul, Nat.reduceLeDiff, Nat.reduceDiv, Nat.reduceMod, Nat.reduceSub, Nat.reduceBEq, List.length_map, bs_len, rn_len, chs_len, chs_cnt, List.length_append, List.length_cons, List.length_nil, Ch.x, Opn.x, St.x, List.getD_cons_zero, List.getD_cons_succ]; (try simp (disch := omega) only [wrap_in, Int.toNat_natCast, tv_rn, tv_ch0, tv_ch1, tv_ch2]); subst hk))
  all_goals try (simp only [List.length_append, List.length_cons, List.length_nil, numB_len]; omega)
  · rename_i k1
    rw [opF_no (by omega) (by omega) (by omega) (by omega)]
    refine Kf_r ?_
    simp only [Tryd.f25, E4, E3, E2, E5, rawX, deadX, ET, T, List.not_mem_nil, true_or, or_true, true_and, and_true, decide_true, decide_false, Bool.and_self, Bool.or_self, ↓reduceIte, ne_eq, not_false_eq_true, not_true_eq_false, reduceCtorEq, Nat.reduceLT, Nat.reduceEqDiff, Nat.reduceAdd, Nat.reduceMul, Nat.reduceLeDiff, Nat.reduceDiv, Nat.reduceMod, Nat.reduceSub, Nat.reduceBEq, List.length_map, bs_len, rn_len, chs_len, chs_cnt, List.length_append, List.length_cons, List.length_nil, Ch.x, Opn.x, St.x, List.getD_cons_zero, List.getD_cons_succ, bs_nil]
  · rename_i k1 k2
    rw [opF_no (by omega) (by omega) (by omega) (by omega)]
    refine Kf_r ?_
    simp only [Tryd.f25, E4, E3, E2, E5, rawX, deadX, ET, T, List.not_mem_nil, true_or, or_true, true_and, and_true, decide_true, decide_false, Bool.and_self, Bool.or_self, ↓reduceIte, ne_eq, not_false_eq_true, not_true_eq_false, reduceCtorEq, Nat.reduceLT, Nat.reduceEqDiff, Nat.reduceAdd, Nat.reduceMul, Nat.reduceLeDiff, Nat.reduceDiv, Nat.reduceMod, Nat.reduceSub, Nat.reduceBEq, List.length_map, bs_len, rn_len, chs_len, chs_cnt, List.length_append, List.length_cons, List.length_nil, Ch.x, Opn.x, St.x, List.getD_cons_zero, List.getD_cons_succ, bs_nil]
  · rename_i k1 k2 k3 hb1 k4 k5 k6
    exfalso
    rw [numB_len, numB_len] at k6
    omega
  · rename_i k1 k2 k3 hb1 k4 k5 k6
    have hn : ¬ (isI o.at_ = false ∨ isI o.to_ = false) := fun q => by
      rcases q with q | q
      · rw [isI_t hb1] at q; cases q
      · rw [isI_t hb] at q; cases q
    rw [opF_del k4 hn, k4, w_2, ← bs_app]
    refine Kf_r ?_
    simp only [Tryd.f25, E4, E3, E2, E5, rawX, deadX, ET, T, List.not_mem_nil, true_or, or_true, true_and, and_true, decide_true, decide_false, Bool.and_self, Bool.or_self, ↓reduceIte, ne_eq, not_false_eq_true, not_true_eq_false, reduceCtorEq, Nat.reduceLT, Nat.reduceEqDiff, Nat.reduceAdd, Nat.reduceMul, Nat.reduceLeDiff, Nat.reduceDiv, Nat.reduceMod, Nat.reduceSub, Nat.reduceBEq, List.length_map, bs_len, rn_len, chs_len, chs_cnt, List.length_append, List.length_cons, List.length_nil, Ch.x, Opn.x, St.x, List.getD_cons_zero, List.getD_cons_succ]
    rfl
  · rename_i k1 k2 k3 hb1 k4
    rw [opF_err2 k4 (.inr (isI_f hb))]
    refine Kf_r ?_
    simp only [Tryd.f25, E4, E3, E2, E5, rawX, deadX, ET, T, List.not_mem_nil, true_or, or_true, true_and, and_true, decide_true, decide_false, Bool.and_self, Bool.or_self, ↓reduceIte, ne_eq, not_false_eq_true, not_true_eq_false, reduceCtorEq, Nat.reduceLT, Nat.reduceEqDiff, Nat.reduceAdd, Nat.reduceMul, Nat.reduceLeDiff, Nat.reduceDiv, Nat.reduceMod, Nat.reduceSub, Nat.reduceBEq, List.length_map, bs_len, rn_len, chs_len, chs_cnt, List.length_append, List.length_cons, List.length_nil, Ch.x, Opn.x, St.x, List.getD_cons_zero, List.getD_cons_succ, bs_nil]
  · rename_i k1 k2 k3 k4 k5 k6
    rw [opF_err1 k5 (.inr (List.eq_nil_of_length_eq_zero (by omega)))]
    refine Kf_r ?_
    simp only [Tryd.f25, E4, E3, E2, E5, rawX, deadX, ET, T, List.not_mem_nil, true_or, or_true, true_and, and_true, decide_true, decide_false, Bool.and_self, Bool.or_self, ↓reduceIte, ne_eq, not_false_eq_true, not_true_eq_false, reduceCtorEq, Nat.reduceLT, Nat.reduceEqDiff, Nat.reduceAdd, Nat.reduceMul, Nat.reduceLeDiff, Nat.reduceDiv, Nat.reduceMod, Nat.reduceSub, Nat.reduceBEq, List.length_map, bs_len, rn_len, chs_len, chs_cnt, List.length_append, List.length_cons, List.length_nil, Ch.x, Opn.x, St.x, List.getD_cons_zero, List.getD_cons_succ, bs_nil]
  · rename_i k1 k2 k3 k4 k5 k6 k7 k8
    have hn : ¬ (isI o.at_ = false ∨ o.text = []) := fun q => by
      rcases q with q | q
      · rw [isI_t hb] at q; cases q
      · rw [q] at k6; exact k6 rfl
    have hs := scal_of k7
    rw [show encV o.text = encF o.text from if_pos hs, numB_len] at k8
    rw [opF_big k5 hn hs (by omega)]
    refine Kf_r ?_
    simp only [Tryd.f25, E4, E3, E2, E5, rawX, deadX, ET, T, List.not_mem_nil, true_or, or_true, true_and, and_true, decide_true, decide_false, Bool.and_self, Bool.or_self, ↓reduceIte, ne_eq, not_false_eq_true, not_true_eq_false, reduceCtorEq, Nat.reduceLT, Nat.reduceEqDiff, Nat.reduceAdd, Nat.reduceMul, Nat.reduceLeDiff, Nat.reduceDiv, Nat.reduceMod, Nat.reduceSub, Nat.reduceBEq, List.length_map, bs_len, rn_len, chs_len, chs_cnt, List.length_append, List.length_cons, List.length_nil, Ch.x, Opn.x, St.x, List.getD_cons_zero, List.getD_cons_succ, bs_nil]
  · rename_i k1 k2 k3 k4 k5 k6 k7 k8
    have hn : ¬ (isI o.at_ = false ∨ o.text = []) := fun q => by
      rcases q with q | q
      · rw [isI_t hb] at q; cases q
      · rw [q] at k6; exact k6 rfl
    have hs := scal_of k7
    rw [show encV o.text = encF o.text from if_pos hs, numB_len] at k8
    rw [opF_ins k5 hn hs (by omega), show encV o.text = encF o.text from if_pos hs, k5, w_1, ← bs_app]
    refine Kf_r ?_
    simp only [Tryd.f25, E4, E3, E2, E5, rawX, deadX, ET, T, List.not_mem_nil, true_or, or_true, true_and, and_true, decide_true, decide_false, Bool.and_self, Bool.or_self, ↓reduceIte, ne_eq, not_false_eq_true, not_true_eq_false, reduceCtorEq, Nat.reduceLT, Nat.reduceEqDiff, Nat.reduceAdd, Nat.reduceMul, Nat.reduceLeDiff, Nat.reduceDiv, Nat.reduceMod, Nat.reduceSub, Nat.reduceBEq, List.length_map, bs_len, rn_len, chs_len, chs_cnt, List.length_append, List.length_cons, List.length_nil, Ch.x, Opn.x, St.x, List.getD_cons_zero, List.getD_cons_succ]
    rfl
  · rename_i k1 k2 k3 k4 k5 k6 k7
    have hn : ¬ (isI o.at_ = false ∨ o.text = []) := fun q => by
      rcases q with q | q
      · rw [isI_t hb] at q; cases q
      · rw [q] at k6; exact k6 rfl
    have hs := not_scal k7
    rw [opF_scal k5 hn hs, if_neg hs]
    refine Kf_r ?_
    simp only [Tryd.f25, E4, E3, E2, E5, rawX, deadX, ET, T, List.not_mem_nil, true_or, or_true, true_and, and_true, decide_true, decide_false, Bool.and_self, Bool.or_self, ↓reduceIte, ne_eq, not_false_eq_true, not_true_eq_false, reduceCtorEq, Nat.reduceLT, Nat.reduceEqDiff, Nat.reduceAdd, Nat.reduceMul, Nat.reduceLeDiff, Nat.reduceDiv, Nat.reduceMod, Nat.reduceSub, Nat.reduceBEq, List.length_map, bs_len, rn_len, chs_len, chs_cnt, List.length_append, List.length_cons, List.length_nil, Ch.x, Opn.x, St.x, List.getD_cons_zero, List.getD_cons_succ, bs_nil]
  · rename_i k1 k2 k3
    have e : opF o = ([], 2) := by
      rcases (by omega : o.kind = 1 ∨ o.kind = 2) with q | q
      · exact opF_err1 q (.inl (isI_f hb))
      · exact opF_err2 q (.inl (isI_f hb))
    rw [e]
    refine Kf_r ?_
    simp only [Tryd.f25, E4, E3, E2, E5, rawX, deadX, ET, T, List.not_mem_nil, true_or, or_true, true_and, and_true, decide_true, decide_false, Bool.and_self, Bool.or_self, ↓reduceIte, ne_eq, not_false_eq_true, not_true_eq_false, reduceCtorEq, Nat.reduceLT, Nat.reduceEqDiff, Nat.reduceAdd, Nat.reduceMul, Nat.reduceLeDiff, Nat.reduceDiv, Nat.reduceMod, Nat.reduceSub, Nat.reduceBEq, List.length_map, bs_len, rn_len, chs_len, chs_cnt, List.length_append, List.length_cons, List.length_nil, Ch.x, Opn.x, St.x, List.getD_cons_zero, List.getD_cons_succ, bs_nil]
  · rename_i k1 k2 k3 k4 k5 k6
    rw [opF_un (by omega), show IntKind.u8.wrap o.kind = o.kind from u8in (by omega) (by omega)]
    refine Kf_r ?_
    simp only [Tryd.f25, E4, E3, E2, E5, rawX, deadX, ET, T, List.not_mem_nil, true_or, or_true, true_and, and_true, decide_true, decide_false, Bool.and_self, Bool.or_self, ↓reduceIte, ne_eq, not_false_eq_true, not_true_eq_false, reduceCtorEq, Nat.reduceLT, Nat.reduceEqDiff, Nat.reduceAdd, Nat.reduceMul, Nat.reduceLeDiff, Nat.reduceDiv, Nat.reduceMod, Nat.reduceSub, Nat.reduceBEq, List.length_map, bs_len, rn_len, chs_len, chs_cnt, List.length_append, List.length_cons, List.length_nil, Ch.x, Opn.x, St.x, List.getD_cons_zero, List.getD_cons_succ, bs, List.map_cons, List.map_nil]
end Go.Proofs.YtdpflafjfkooeaaDoorG
