import Derived.Test.YthcgpebhfhhafaaGreatDoorS1
namespace Go.Proofs.YthcgpebhfhhafaaGreatDoorG
open Go Go.RowKit Go.Proofs
set_option linter.unusedSimpArgs false
set_option linter.unusedVariables false
set_option maxRecDepth 10000 in
theorem levels_ok (d : SV) (hd : NoS d) (k asked : Int) : CallOk Tryz.prog 32 [va d, i64 k, i64 asked] (.tup [.one (.v (.raw (.int .i64 0))), .one (.sr 0), .one (.v (.raw (.int .i64 1)))]) [(3, 1, [])] false := by
  rcases hd with rfl | rfl
  all_goals
    refine fn_ok' T_ok (orc_ok _) mixed Tryz.func32 rfl (by kernel_rfl) (lv [[0, 1, 2], [0, 1, 2, 16], [6, 7, 8], [0, 1, 2, 9], [0, 1, 2, 9, 10], [0, 1, 2, 9, 10, 26], [6, 7, 8], [0, 1, 2, 9, 10, 35], [6, 7, 8], [0, 2, 11], [0, 2, 11, 56], [6, 7, 8], [0, 2, 11, 12], [0, 2, 11, 12, 13, 14], [0, 2, 11, 12, 13, 83], [6, 7, 8], [0, 2, 6, 7, 8, 12], [0, 2, 6, 7, 8, 12, 96], [6, 7, 8], [6, 7, 8]]) 110 rfl (by simp) rfl (by simp) ?_
    simp only [argsG, Nat.zero_add, Nat.reduceAdd]
    repeat' first
      | ((with_reducible refine vOps_cons' ?_)
         generalize hk : Kt _ _ _ _ _ _ _ _ _ = k
         simp only [Tryz.f32, lv, E1, E2, E5, ET, T, Int.toNat_natCast, Nat.div_one, Nat.mul_one, Int.reduceToNat, true_or, or_true, true_and, and_true, decide_true, decide_false, Bool.and_self, Bool.or_self, ↓reduceIte, ne_eq, not_false_eq_true, not_true_eq_false, reduceCtorEq, Nat.reduceLT, Nat.reduceEqDiff, Nat.reduceAdd, Nat.reduceMul, Nat.reduceLeDiff, Nat.reduceDiv, Nat.reduceMod, Nat.reduceSub, Nat.reduceBEq, List.length_nil]
         try simp (disch := omega) only [wrap_in, Int.toNat_natCast]
         subst hk)
      | with_reducible refine Kt_i ?_
      | ((with_reducible refine vB_i ?_ ?_) <;> intro hq <;> (first | (exfalso; omega) | (exact absurd trivial hq) | (try dsimp only [])))
      | ((with_reducible refine vOps_nil' ?_); refine Kr_i (by kernel_rfl) ?_; generalize hk : plain _ _ = G; simp only [lv, E3, E2, E5, rawX, deadX, true_or, or_true, true_and, and_true, decide_true, decide_false, Bool.and_self, Bool.or_self, ↓reduceIte, ne_eq, not_false_eq_true, not_true_eq_false, reduceCtorEq, Nat.reduceLT, Nat.reduceEqDiff, Nat.reduceAdd, Nat.reduceMul, Nat.reduceLeDiff, Nat.reduceDiv, Nat.reduceMod, Nat.reduceSub, Nat.reduceBEq, List.length_nil] at hk; subst hk)
      | with_reducible refine vSeq_i ?_
      | with_reducible refine vRegion_i (by kernel_rfl) ?_
      | with_reducible refine Kv_i ?_
      | ((with_reducible refine imp_i ?_); intro _)
      | with_reducible refine Ks_n ?_
      | with_reducible refine Ks_r ?_
      | with_reducible refine Ks_e ?_
      | with_reducible refine Kl_e ?_
      | with_reducible refine Kx_n ?_
      | with_reducible refine Kl_r ?_
      | with_reducible refine vRet_i ?_
      | with_reducible refine vSkip_i ?_
      | with_reducible refine vExit_i ?_
      | with_reducible refine vBlock_i ?_
      | with_reducible refine blk_n ?_
      | with_reducible refine blk_r ?_
      | with_reducible refine blk_e ?_
      | with_reducible refine blk_o (by decide) ?_
      | ((with_reducible refine vCond_t ?_ ?_); (focus (simp only [lv, E1, E2, E5, ET, T, Int.toNat_natCast, Nat.div_one, Nat.mul_one, Int.reduceToNat, true_or, or_true, true_and, and_true, decide_true, decide_false, Bool.and_self, Bool.or_self, ↓reduceIte, ne_eq, not_false_eq_true, not_true_eq_false, reduceCtorEq, Nat.reduceLT, Nat.reduceEqDiff, Nat.reduceAdd, Nat.reduceMul, Nat.reduceLeDiff, Nat.reduceDiv, Nat.reduceMod, Nat.reduceSub, Nat.reduceBEq, List.length_nil]; done)))
      | ((with_reducible refine vCond_f ?_ ?_); (focus (simp only [lv, E1, E2, E5, ET, T, Int.toNat_natCast, Nat.div_one, Nat.mul_one, Int.reduceToNat, true_or, or_true, true_and, and_true, decide_true, decide_false, Bool.and_self, Bool.or_self, ↓reduceIte, ne_eq, not_false_eq_true, not_true_eq_false, reduceCtorEq, Nat.reduceLT, Nat.reduceEqDiff, Nat.reduceAdd, Nat.reduceMul, Nat.reduceLeDiff, Nat.reduceDiv, Nat.reduceMod, Nat.reduceSub, Nat.reduceBEq, List.length_nil]; done)))
      | ((with_reducible refine And.intro ?_ ?_); (focus (try omega)))
      | ((with_reducible apply orc_i); (focus (exact snone_ok _ (by first | exact .inl rfl | exact .inr rfl); done)); (generalize hk : Kt _ _ _ _ _ _ _ _ _ = k; simp only [lv, E1, E2, E5, ET, T, Int.toNat_natCast, Nat.div_one, Nat.mul_one, Int.reduceToNat, true_or, or_true, true_and, and_true, decide_true, decide_false, Bool.and_self, Bool.or_self, ↓reduceIte, ne_eq, not_false_eq_true, not_true_eq_false, reduceCtorEq, Nat.reduceLT, Nat.reduceEqDiff, Nat.reduceAdd, Nat.reduceMul, Nat.reduceLeDiff, Nat.reduceDiv, Nat.reduceMod, Nat.reduceSub, Nat.reduceBEq, List.length_nil]; (try simp (disch := omega) only [wrap_in, Int.toNat_natCast]); subst hk))
    refine Kf_r ?_
    simp only [Tryz.f32, E4, E3, E2, E5, rawX, deadX, ET, T, true_or, or_true, true_and, and_true, decide_true, decide_false, Bool.and_self, Bool.or_self, ↓reduceIte, ne_eq, not_false_eq_true, not_true_eq_false, reduceCtorEq, Nat.reduceLT, Nat.reduceEqDiff, Nat.reduceAdd, Nat.reduceMul, Nat.reduceLeDiff, Nat.reduceDiv, Nat.reduceMod, Nat.reduceSub, Nat.reduceBEq, List.length_nil]
set_option maxRecDepth 10000 in
theorem new_ok (d : SV) (hd : NoS d) : CallOk Tryz.prog 15 [va d] (.tup [.one (.v (.raw (.pointer none))), .one (.v (.raw (.int .i64 1)))]) [] false := by
  rcases hd with rfl | rfl
  all_goals
    refine fn_ok' T_ok (orc_ok _) mixed Tryz.func15 rfl (by kernel_rfl) (lv [[0], [0, 6], [0, 6, 14], [2, 3], [2, 3]]) 20 rfl (by simp) rfl (by simp) ?_
    simp only [argsG, Nat.zero_add, Nat.reduceAdd]
    repeat' first
      | ((with_reducible refine vOps_cons' ?_)
         generalize hk : Kt _ _ _ _ _ _ _ _ _ = k
         simp only [Tryz.f15, lv, E1, E2, E5, ET, T, Int.toNat_natCast, Nat.div_one, Nat.mul_one, Int.reduceToNat, true_or, or_true, true_and, and_true, decide_true, decide_false, Bool.and_self, Bool.or_self, ↓reduceIte, ne_eq, not_false_eq_true, not_true_eq_false, reduceCtorEq, Nat.reduceLT, Nat.reduceEqDiff, Nat.reduceAdd, Nat.reduceMul, Nat.reduceLeDiff, Nat.reduceDiv, Nat.reduceMod, Nat.reduceSub, Nat.reduceBEq, List.length_nil]
         try simp (disch := omega) only [wrap_in, Int.toNat_natCast]
         subst hk)
      | with_reducible refine Kt_i ?_
      | ((with_reducible refine vB_i ?_ ?_) <;> intro hq <;> (first | (exfalso; omega) | (exact absurd trivial hq) | (try dsimp only [])))
      | ((with_reducible refine vOps_nil' ?_); refine Kr_i (by kernel_rfl) ?_; generalize hk : plain _ _ = G; simp only [lv, E3, E2, E5, rawX, deadX, true_or, or_true, true_and, and_true, decide_true, decide_false, Bool.and_self, Bool.or_self, ↓reduceIte, ne_eq, not_false_eq_true, not_true_eq_false, reduceCtorEq, Nat.reduceLT, Nat.reduceEqDiff, Nat.reduceAdd, Nat.reduceMul, Nat.reduceLeDiff, Nat.reduceDiv, Nat.reduceMod, Nat.reduceSub, Nat.reduceBEq, List.length_nil] at hk; subst hk)
      | with_reducible refine vSeq_i ?_
      | with_reducible refine vRegion_i (by kernel_rfl) ?_
      | with_reducible refine Kv_i ?_
      | ((with_reducible refine imp_i ?_); intro _)
      | with_reducible refine Ks_n ?_
      | with_reducible refine Ks_r ?_
      | with_reducible refine Ks_e ?_
      | with_reducible refine Kl_e ?_
      | with_reducible refine Kx_n ?_
      | with_reducible refine Kl_r ?_
      | with_reducible refine vRet_i ?_
      | with_reducible refine vSkip_i ?_
      | with_reducible refine vExit_i ?_
      | with_reducible refine vBlock_i ?_
      | with_reducible refine blk_n ?_
      | with_reducible refine blk_r ?_
      | with_reducible refine blk_e ?_
      | with_reducible refine blk_o (by decide) ?_
      | ((with_reducible refine vCond_t ?_ ?_); (focus (simp only [lv, E1, E2, E5, ET, T, Int.toNat_natCast, Nat.div_one, Nat.mul_one, Int.reduceToNat, true_or, or_true, true_and, and_true, decide_true, decide_false, Bool.and_self, Bool.or_self, ↓reduceIte, ne_eq, not_false_eq_true, not_true_eq_false, reduceCtorEq, Nat.reduceLT, Nat.reduceEqDiff, Nat.reduceAdd, Nat.reduceMul, Nat.reduceLeDiff, Nat.reduceDiv, Nat.reduceMod, Nat.reduceSub, Nat.reduceBEq, List.length_nil]; done)))
      | ((with_reducible refine vCond_f ?_ ?_); (focus (simp only [lv, E1, E2, E5, ET, T, Int.toNat_natCast, Nat.div_one, Nat.mul_one, Int.reduceToNat, true_or, or_true, true_and, and_true, decide_true, decide_false, Bool.and_self, Bool.or_self, ↓reduceIte, ne_eq, not_false_eq_true, not_true_eq_false, reduceCtorEq, Nat.reduceLT, Nat.reduceEqDiff, Nat.reduceAdd, Nat.reduceMul, Nat.reduceLeDiff, Nat.reduceDiv, Nat.reduceMod, Nat.reduceSub, Nat.reduceBEq, List.length_nil]; done)))
      | ((with_reducible refine And.intro ?_ ?_); (focus (try omega)))
      | ((with_reducible apply orc_i); (focus (exact levels_ok _ (by first | exact .inl rfl | exact .inr rfl) _ _; done)); (generalize hk : Kt _ _ _ _ _ _ _ _ _ = k; simp only [lv, E1, E2, E5, ET, T, Int.toNat_natCast, Nat.div_one, Nat.mul_one, Int.reduceToNat, true_or, or_true, true_and, and_true, decide_true, decide_false, Bool.and_self, Bool.or_self, ↓reduceIte, ne_eq, not_false_eq_true, not_true_eq_false, reduceCtorEq, Nat.reduceLT, Nat.reduceEqDiff, Nat.reduceAdd, Nat.reduceMul, Nat.reduceLeDiff, Nat.reduceDiv, Nat.reduceMod, Nat.reduceSub, Nat.reduceBEq, List.length_nil]; (try simp (disch := omega) only [wrap_in, Int.toNat_natCast]); subst hk))
    refine Kf_r ?_
    simp only [Tryz.f15, E4, E3, E2, E5, rawX, deadX, ET, T, true_or, or_true, true_and, and_true, decide_true, decide_false, Bool.and_self, Bool.or_self, ↓reduceIte, ne_eq, not_false_eq_true, not_true_eq_false, reduceCtorEq, Nat.reduceLT, Nat.reduceEqDiff, Nat.reduceAdd, Nat.reduceMul, Nat.reduceLeDiff, Nat.reduceDiv, Nat.reduceMod, Nat.reduceSub, Nat.reduceBEq, List.length_nil]
set_option maxRecDepth 10000 in
theorem open_ok (d : SV) (hd : NoD d) : CallOk Tryz.prog 4 [va d] (.tup [.one (.v (.raw (.int .i64 0))), .one (.v (.raw (.int .i64 1)))]) [] false := by
  rcases hd with rfl | rfl
  all_goals
    refine fn_ok' T_ok (orc_ok _) mixed Tryz.func4 rfl (by kernel_rfl) (lv [[0], [0, 4], [2, 3], [0, 7], [2, 3], [0], [0], [2, 3]]) 34 rfl (by simp) rfl (by simp) ?_
    simp only [argsG, Nat.zero_add, Nat.reduceAdd]
    repeat' first
      | ((with_reducible refine vOps_cons' ?_)
         generalize hk : Kt _ _ _ _ _ _ _ _ _ = k
         simp only [Tryz.f4, lv, E1, E2, E5, ET, T, Int.toNat_natCast, Nat.div_one, Nat.mul_one, Int.reduceToNat, true_or, or_true, true_and, and_true, decide_true, decide_false, Bool.and_self, Bool.or_self, ↓reduceIte, ne_eq, not_false_eq_true, not_true_eq_false, reduceCtorEq, Nat.reduceLT, Nat.reduceEqDiff, Nat.reduceAdd, Nat.reduceMul, Nat.reduceLeDiff, Nat.reduceDiv, Nat.reduceMod, Nat.reduceSub, Nat.reduceBEq, List.length_nil]
         try simp (disch := omega) only [wrap_in, Int.toNat_natCast]
         subst hk)
      | with_reducible refine Kt_i ?_
      | ((with_reducible refine vB_i ?_ ?_) <;> intro hq <;> (first | (exfalso; omega) | (exact absurd trivial hq) | (try dsimp only [])))
      | ((with_reducible refine vOps_nil' ?_); refine Kr_i (by kernel_rfl) ?_; generalize hk : plain _ _ = G; simp only [lv, E3, E2, E5, rawX, deadX, true_or, or_true, true_and, and_true, decide_true, decide_false, Bool.and_self, Bool.or_self, ↓reduceIte, ne_eq, not_false_eq_true, not_true_eq_false, reduceCtorEq, Nat.reduceLT, Nat.reduceEqDiff, Nat.reduceAdd, Nat.reduceMul, Nat.reduceLeDiff, Nat.reduceDiv, Nat.reduceMod, Nat.reduceSub, Nat.reduceBEq, List.length_nil] at hk; subst hk)
      | with_reducible refine vSeq_i ?_
      | with_reducible refine vRegion_i (by kernel_rfl) ?_
      | with_reducible refine Kv_i ?_
      | ((with_reducible refine imp_i ?_); intro _)
      | with_reducible refine Ks_n ?_
      | with_reducible refine Ks_r ?_
      | with_reducible refine Ks_e ?_
      | with_reducible refine Kl_e ?_
      | with_reducible refine Kx_n ?_
      | with_reducible refine Kl_r ?_
      | with_reducible refine vRet_i ?_
      | with_reducible refine vSkip_i ?_
      | with_reducible refine vExit_i ?_
      | with_reducible refine vBlock_i ?_
      | with_reducible refine blk_n ?_
      | with_reducible refine blk_r ?_
      | with_reducible refine blk_e ?_
      | with_reducible refine blk_o (by decide) ?_
      | ((with_reducible refine vCond_t ?_ ?_); (focus (simp only [lv, E1, E2, E5, ET, T, Int.toNat_natCast, Nat.div_one, Nat.mul_one, Int.reduceToNat, true_or, or_true, true_and, and_true, decide_true, decide_false, Bool.and_self, Bool.or_self, ↓reduceIte, ne_eq, not_false_eq_true, not_true_eq_false, reduceCtorEq, Nat.reduceLT, Nat.reduceEqDiff, Nat.reduceAdd, Nat.reduceMul, Nat.reduceLeDiff, Nat.reduceDiv, Nat.reduceMod, Nat.reduceSub, Nat.reduceBEq, List.length_nil]; done)))
      | ((with_reducible refine vCond_f ?_ ?_); (focus (simp only [lv, E1, E2, E5, ET, T, Int.toNat_natCast, Nat.div_one, Nat.mul_one, Int.reduceToNat, true_or, or_true, true_and, and_true, decide_true, decide_false, Bool.and_self, Bool.or_self, ↓reduceIte, ne_eq, not_false_eq_true, not_true_eq_false, reduceCtorEq, Nat.reduceLT, Nat.reduceEqDiff, Nat.reduceAdd, Nat.reduceMul, Nat.reduceLeDiff, Nat.reduceDiv, Nat.reduceMod, Nat.reduceSub, Nat.reduceBEq, List.length_nil]; done)))
      | ((with_reducible refine And.intro ?_ ?_); (focus (try omega)))
      | ((with_reducible apply orc_i); (focus (exact dnone_ok _ (by first | exact .inl rfl | exact .inr rfl); done)); (generalize hk : Kt _ _ _ _ _ _ _ _ _ = k; simp only [lv, E1, E2, E5, ET, T, Int.toNat_natCast, Nat.div_one, Nat.mul_one, Int.reduceToNat, true_or, or_true, true_and, and_true, decide_true, decide_false, Bool.and_self, Bool.or_self, ↓reduceIte, ne_eq, not_false_eq_true, not_true_eq_false, reduceCtorEq, Nat.reduceLT, Nat.reduceEqDiff, Nat.reduceAdd, Nat.reduceMul, Nat.reduceLeDiff, Nat.reduceDiv, Nat.reduceMod, Nat.reduceSub, Nat.reduceBEq, List.length_nil]; (try simp (disch := omega) only [wrap_in, Int.toNat_natCast]); subst hk))
    refine Kf_r ?_
    simp only [Tryz.f4, E4, E3, E2, E5, rawX, deadX, ET, T, true_or, or_true, true_and, and_true, decide_true, decide_false, Bool.and_self, Bool.or_self, ↓reduceIte, ne_eq, not_false_eq_true, not_true_eq_false, reduceCtorEq, Nat.reduceLT, Nat.reduceEqDiff, Nat.reduceAdd, Nat.reduceMul, Nat.reduceLeDiff, Nat.reduceDiv, Nat.reduceMod, Nat.reduceSub, Nat.reduceBEq, List.length_nil]
set_option maxRecDepth 10000 in
theorem place_ok (d : SV) (hd : NoD d) (id : Int) : CallOk Tryz.prog 5 [va d, i64 id] (.tup [.one (.v (.raw (.int .i64 0))), .one (.v (.raw (.int .i64 0))), .one (.v (.raw (.int .i64 1)))]) [] false := by
  rcases hd with rfl | rfl
  all_goals
    refine fn_ok' T_ok (orc_ok _) mixed Tryz.func5 rfl (by kernel_rfl) (lv [[0, 1], [6, 7], [4, 5, 6]]) 19 rfl (by simp) rfl (by simp) ?_
    simp only [argsG, Nat.zero_add, Nat.reduceAdd]
    repeat' first
      | ((with_reducible refine vOps_cons' ?_)
         generalize hk : Kt _ _ _ _ _ _ _ _ _ = k
         simp only [Tryz.f5, lv, E1, E2, E5, ET, T, Int.toNat_natCast, Nat.div_one, Nat.mul_one, Int.reduceToNat, true_or, or_true, true_and, and_true, decide_true, decide_false, Bool.and_self, Bool.or_self, ↓reduceIte, ne_eq, not_false_eq_true, not_true_eq_false, reduceCtorEq, Nat.reduceLT, Nat.reduceEqDiff, Nat.reduceAdd, Nat.reduceMul, Nat.reduceLeDiff, Nat.reduceDiv, Nat.reduceMod, Nat.reduceSub, Nat.reduceBEq, List.length_nil]
         try simp (disch := omega) only [wrap_in, Int.toNat_natCast]
         subst hk)
      | with_reducible refine Kt_i ?_
      | ((with_reducible refine vB_i ?_ ?_) <;> intro hq <;> (first | (exfalso; omega) | (exact absurd trivial hq) | (try dsimp only [])))
      | ((with_reducible refine vOps_nil' ?_); refine Kr_i (by kernel_rfl) ?_; generalize hk : plain _ _ = G; simp only [lv, E3, E2, E5, rawX, deadX, true_or, or_true, true_and, and_true, decide_true, decide_false, Bool.and_self, Bool.or_self, ↓reduceIte, ne_eq, not_false_eq_true, not_true_eq_false, reduceCtorEq, Nat.reduceLT, Nat.reduceEqDiff, Nat.reduceAdd, Nat.reduceMul, Nat.reduceLeDiff, Nat.reduceDiv, Nat.reduceMod, Nat.reduceSub, Nat.reduceBEq, List.length_nil] at hk; subst hk)
      | with_reducible refine vSeq_i ?_
      | with_reducible refine vRegion_i (by kernel_rfl) ?_
      | with_reducible refine Kv_i ?_
      | ((with_reducible refine imp_i ?_); intro _)
      | with_reducible refine Ks_n ?_
      | with_reducible refine Ks_r ?_
      | with_reducible refine Ks_e ?_
      | with_reducible refine Kl_e ?_
      | with_reducible refine Kx_n ?_
      | with_reducible refine Kl_r ?_
      | with_reducible refine vRet_i ?_
      | with_reducible refine vSkip_i ?_
      | with_reducible refine vExit_i ?_
      | with_reducible refine vBlock_i ?_
      | with_reducible refine blk_n ?_
      | with_reducible refine blk_r ?_
      | with_reducible refine blk_e ?_
      | with_reducible refine blk_o (by decide) ?_
      | ((with_reducible refine vCond_t ?_ ?_); (focus (simp only [lv, E1, E2, E5, ET, T, Int.toNat_natCast, Nat.div_one, Nat.mul_one, Int.reduceToNat, true_or, or_true, true_and, and_true, decide_true, decide_false, Bool.and_self, Bool.or_self, ↓reduceIte, ne_eq, not_false_eq_true, not_true_eq_false, reduceCtorEq, Nat.reduceLT, Nat.reduceEqDiff, Nat.reduceAdd, Nat.reduceMul, Nat.reduceLeDiff, Nat.reduceDiv, Nat.reduceMod, Nat.reduceSub, Nat.reduceBEq, List.length_nil]; done)))
      | ((with_reducible refine vCond_f ?_ ?_); (focus (simp only [lv, E1, E2, E5, ET, T, Int.toNat_natCast, Nat.div_one, Nat.mul_one, Int.reduceToNat, true_or, or_true, true_and, and_true, decide_true, decide_false, Bool.and_self, Bool.or_self, ↓reduceIte, ne_eq, not_false_eq_true, not_true_eq_false, reduceCtorEq, Nat.reduceLT, Nat.reduceEqDiff, Nat.reduceAdd, Nat.reduceMul, Nat.reduceLeDiff, Nat.reduceDiv, Nat.reduceMod, Nat.reduceSub, Nat.reduceBEq, List.length_nil]; done)))
      | ((with_reducible refine And.intro ?_ ?_); (focus (try omega)))
      | ((with_reducible apply orc_i); (focus (exact find_ok _ _ (by first | exact .inl rfl | exact .inr rfl); done)); (generalize hk : Kt _ _ _ _ _ _ _ _ _ = k; simp only [lv, E1, E2, E5, ET, T, Int.toNat_natCast, Nat.div_one, Nat.mul_one, Int.reduceToNat, true_or, or_true, true_and, and_true, decide_true, decide_false, Bool.and_self, Bool.or_self, ↓reduceIte, ne_eq, not_false_eq_true, not_true_eq_false, reduceCtorEq, Nat.reduceLT, Nat.reduceEqDiff, Nat.reduceAdd, Nat.reduceMul, Nat.reduceLeDiff, Nat.reduceDiv, Nat.reduceMod, Nat.reduceSub, Nat.reduceBEq, List.length_nil]; (try simp (disch := omega) only [wrap_in, Int.toNat_natCast]); subst hk))
    refine Kf_r ?_
    simp only [Tryz.f5, E4, E3, E2, E5, rawX, deadX, ET, T, true_or, or_true, true_and, and_true, decide_true, decide_false, Bool.and_self, Bool.or_self, ↓reduceIte, ne_eq, not_false_eq_true, not_true_eq_false, reduceCtorEq, Nat.reduceLT, Nat.reduceEqDiff, Nat.reduceAdd, Nat.reduceMul, Nat.reduceLeDiff, Nat.reduceDiv, Nat.reduceMod, Nat.reduceSub, Nat.reduceBEq, List.length_nil]
set_option maxRecDepth 10000 in
theorem shown_ok (d : SV) (hd : NoD d) (k : Int) (bs : List SV) : CallOk Tryz.prog 6 [va d, i64 k, sl bs] (.tup [.one (.sr 0), .one (.v (.raw (.int .i64 1)))]) [(49, 1, [])] false := by
  rcases hd with rfl | rfl
  all_goals
    refine fn_ok' T_ok (orc_ok _) mixed Tryz.func6 rfl (by kernel_rfl) (lv [[0, 1, 2], [0, 1, 2, 19], [6, 7], [2, 8, 9], [2, 8, 9, 27], [6, 7], [8, 9, 10], [8, 9, 10, 43], [6, 7], [8, 10, 11], [8, 11, 45, 46, 47], [8, 11, 45, 46, 47, 48], [8, 11, 13, 45, 46, 47], [8, 11, 14, 15, 45, 46, 47], [8, 11, 16, 17, 45, 46, 47], [8, 11, 16, 17, 45, 46, 47, 75], [6, 7], [8, 11, 45, 46, 47], [8, 11, 45, 46, 47], [6, 7]]) 83 rfl (by simp) rfl (by simp) ?_
    simp only [argsG, Nat.zero_add, Nat.reduceAdd]
    repeat' first
      | ((with_reducible refine vOps_cons' ?_)
         generalize hk : Kt _ _ _ _ _ _ _ _ _ = k
         simp only [Tryz.f6, lv, E1, E2, E5, ET, T, Int.toNat_natCast, Nat.div_one, Nat.mul_one, Int.reduceToNat, true_or, or_true, true_and, and_true, decide_true, decide_false, Bool.and_self, Bool.or_self, ↓reduceIte, ne_eq, not_false_eq_true, not_true_eq_false, reduceCtorEq, Nat.reduceLT, Nat.reduceEqDiff, Nat.reduceAdd, Nat.reduceMul, Nat.reduceLeDiff, Nat.reduceDiv, Nat.reduceMod, Nat.reduceSub, Nat.reduceBEq, List.length_nil]
         try simp (disch := omega) only [wrap_in, Int.toNat_natCast]
         subst hk)
      | with_reducible refine Kt_i ?_
      | ((with_reducible refine vB_i ?_ ?_) <;> intro hq <;> (first | (exfalso; omega) | (exact absurd trivial hq) | (try dsimp only [])))
      | ((with_reducible refine vOps_nil' ?_); refine Kr_i (by kernel_rfl) ?_; generalize hk : plain _ _ = G; simp only [lv, E3, E2, E5, rawX, deadX, true_or, or_true, true_and, and_true, decide_true, decide_false, Bool.and_self, Bool.or_self, ↓reduceIte, ne_eq, not_false_eq_true, not_true_eq_false, reduceCtorEq, Nat.reduceLT, Nat.reduceEqDiff, Nat.reduceAdd, Nat.reduceMul, Nat.reduceLeDiff, Nat.reduceDiv, Nat.reduceMod, Nat.reduceSub, Nat.reduceBEq, List.length_nil] at hk; subst hk)
      | with_reducible refine vSeq_i ?_
      | with_reducible refine vRegion_i (by kernel_rfl) ?_
      | with_reducible refine Kv_i ?_
      | ((with_reducible refine imp_i ?_); intro _)
      | with_reducible refine Ks_n ?_
      | with_reducible refine Ks_r ?_
      | with_reducible refine Ks_e ?_
      | with_reducible refine Kl_e ?_
      | with_reducible refine Kx_n ?_
      | with_reducible refine Kl_r ?_
      | with_reducible refine vRet_i ?_
      | with_reducible refine vSkip_i ?_
      | with_reducible refine vExit_i ?_
      | with_reducible refine vBlock_i ?_
      | with_reducible refine blk_n ?_
      | with_reducible refine blk_r ?_
      | with_reducible refine blk_e ?_
      | with_reducible refine blk_o (by decide) ?_
      | ((with_reducible refine vCond_t ?_ ?_); (focus (simp only [lv, E1, E2, E5, ET, T, Int.toNat_natCast, Nat.div_one, Nat.mul_one, Int.reduceToNat, true_or, or_true, true_and, and_true, decide_true, decide_false, Bool.and_self, Bool.or_self, ↓reduceIte, ne_eq, not_false_eq_true, not_true_eq_false, reduceCtorEq, Nat.reduceLT, Nat.reduceEqDiff, Nat.reduceAdd, Nat.reduceMul, Nat.reduceLeDiff, Nat.reduceDiv, Nat.reduceMod, Nat.reduceSub, Nat.reduceBEq, List.length_nil]; done)))
      | ((with_reducible refine vCond_f ?_ ?_); (focus (simp only [lv, E1, E2, E5, ET, T, Int.toNat_natCast, Nat.div_one, Nat.mul_one, Int.reduceToNat, true_or, or_true, true_and, and_true, decide_true, decide_false, Bool.and_self, Bool.or_self, ↓reduceIte, ne_eq, not_false_eq_true, not_true_eq_false, reduceCtorEq, Nat.reduceLT, Nat.reduceEqDiff, Nat.reduceAdd, Nat.reduceMul, Nat.reduceLeDiff, Nat.reduceDiv, Nat.reduceMod, Nat.reduceSub, Nat.reduceBEq, List.length_nil]; done)))
      | ((with_reducible refine And.intro ?_ ?_); (focus (try omega)))
      | ((with_reducible apply orc_i); (focus (exact dnone_ok _ (by first | exact .inl rfl | exact .inr rfl); done)); (generalize hk : Kt _ _ _ _ _ _ _ _ _ = k; simp only [lv, E1, E2, E5, ET, T, Int.toNat_natCast, Nat.div_one, Nat.mul_one, Int.reduceToNat, true_or, or_true, true_and, and_true, decide_true, decide_false, Bool.and_self, Bool.or_self, ↓reduceIte, ne_eq, not_false_eq_true, not_true_eq_false, reduceCtorEq, Nat.reduceLT, Nat.reduceEqDiff, Nat.reduceAdd, Nat.reduceMul, Nat.reduceLeDiff, Nat.reduceDiv, Nat.reduceMod, Nat.reduceSub, Nat.reduceBEq, List.length_nil]; (try simp (disch := omega) only [wrap_in, Int.toNat_natCast]); subst hk))
    refine Kf_r ?_
    simp only [Tryz.f6, E4, E3, E2, E5, rawX, deadX, ET, T, true_or, or_true, true_and, and_true, decide_true, decide_false, Bool.and_self, Bool.or_self, ↓reduceIte, ne_eq, not_false_eq_true, not_true_eq_false, reduceCtorEq, Nat.reduceLT, Nat.reduceEqDiff, Nat.reduceAdd, Nat.reduceMul, Nat.reduceLeDiff, Nat.reduceDiv, Nat.reduceMod, Nat.reduceSub, Nat.reduceBEq, List.length_nil]
set_option maxRecDepth 10000 in
theorem picked_ok (d : SV) (hd : NoD d) (id : Int) : CallOk Tryz.prog 7 [va d, i64 id] (.tup [.one (.sr 0), .one (.v (.raw (.int .i64 1)))]) [(85, 3, [])] false := by
  rcases hd with rfl | rfl
  all_goals
    refine fn_ok' T_ok (orc_ok _) mixed Tryz.func7 rfl (by kernel_rfl) (lv [[0, 1], [0, 6, 7], [0, 6, 7, 26], [4, 5], [0, 6, 8], [0, 6, 8, 34, 35, 36], [0, 6, 8, 34, 35, 36, 37], [0, 6, 8, 9, 10, 34, 35, 36], [0, 6, 8, 9, 11, 12, 34, 35, 36], [0, 6, 8, 9, 11, 12, 34, 35, 36, 59], [0, 6, 8, 9, 11, 12, 13, 14, 34, 35, 36], [0, 6, 8, 9, 11, 12, 13, 14, 34, 35, 36, 67], [4, 5], [0, 6, 8, 9, 11, 12, 13, 15, 34, 35, 36], [0, 6, 8, 9, 14, 16, 34, 35, 36], [0, 6, 8, 9, 16, 34, 35, 36, 90], [0, 6, 8, 9, 34, 35, 36, 91, 92, 93], [0, 6, 8, 9, 34, 35, 36, 91, 92, 93, 94], [0, 6, 8, 9, 18, 34, 35, 36, 91, 92, 93], [0, 6, 8, 9, 34, 35, 36, 91, 92, 93], [0, 6, 8, 9, 34, 35, 36, 91, 92, 93], [0, 6, 8, 34, 35, 36], [4, 5]]) 109 rfl (by simp) rfl (by simp) ?_
    simp only [argsG, Nat.zero_add, Nat.reduceAdd]
    repeat' first
      | ((with_reducible refine vOps_cons' ?_)
         generalize hk : Kt _ _ _ _ _ _ _ _ _ = k
         simp only [Tryz.f7, lv, E1, E2, E5, ET, T, Int.toNat_natCast, Nat.div_one, Nat.mul_one, Int.reduceToNat, true_or, or_true, true_and, and_true, decide_true, decide_false, Bool.and_self, Bool.or_self, ↓reduceIte, ne_eq, not_false_eq_true, not_true_eq_false, reduceCtorEq, Nat.reduceLT, Nat.reduceEqDiff, Nat.reduceAdd, Nat.reduceMul, Nat.reduceLeDiff, Nat.reduceDiv, Nat.reduceMod, Nat.reduceSub, Nat.reduceBEq, List.length_nil]
         try simp (disch := omega) only [wrap_in, Int.toNat_natCast]
         subst hk)
      | with_reducible refine Kt_i ?_
      | ((with_reducible refine vB_i ?_ ?_) <;> intro hq <;> (first | (exfalso; omega) | (exact absurd trivial hq) | (try dsimp only [])))
      | ((with_reducible refine vOps_nil' ?_); refine Kr_i (by kernel_rfl) ?_; generalize hk : plain _ _ = G; simp only [lv, E3, E2, E5, rawX, deadX, true_or, or_true, true_and, and_true, decide_true, decide_false, Bool.and_self, Bool.or_self, ↓reduceIte, ne_eq, not_false_eq_true, not_true_eq_false, reduceCtorEq, Nat.reduceLT, Nat.reduceEqDiff, Nat.reduceAdd, Nat.reduceMul, Nat.reduceLeDiff, Nat.reduceDiv, Nat.reduceMod, Nat.reduceSub, Nat.reduceBEq, List.length_nil] at hk; subst hk)
      | with_reducible refine vSeq_i ?_
      | with_reducible refine vRegion_i (by kernel_rfl) ?_
      | with_reducible refine Kv_i ?_
      | ((with_reducible refine imp_i ?_); intro _)
      | with_reducible refine Ks_n ?_
      | with_reducible refine Ks_r ?_
      | with_reducible refine Ks_e ?_
      | with_reducible refine Kl_e ?_
      | with_reducible refine Kx_n ?_
      | with_reducible refine Kl_r ?_
      | with_reducible refine vRet_i ?_
      | with_reducible refine vSkip_i ?_
      | with_reducible refine vExit_i ?_
      | with_reducible refine vBlock_i ?_
      | with_reducible refine blk_n ?_
      | with_reducible refine blk_r ?_
      | with_reducible refine blk_e ?_
      | with_reducible refine blk_o (by decide) ?_
      | ((with_reducible refine vCond_t ?_ ?_); (focus (simp only [lv, E1, E2, E5, ET, T, Int.toNat_natCast, Nat.div_one, Nat.mul_one, Int.reduceToNat, true_or, or_true, true_and, and_true, decide_true, decide_false, Bool.and_self, Bool.or_self, ↓reduceIte, ne_eq, not_false_eq_true, not_true_eq_false, reduceCtorEq, Nat.reduceLT, Nat.reduceEqDiff, Nat.reduceAdd, Nat.reduceMul, Nat.reduceLeDiff, Nat.reduceDiv, Nat.reduceMod, Nat.reduceSub, Nat.reduceBEq, List.length_nil]; done)))
      | ((with_reducible refine vCond_f ?_ ?_); (focus (simp only [lv, E1, E2, E5, ET, T, Int.toNat_natCast, Nat.div_one, Nat.mul_one, Int.reduceToNat, true_or, or_true, true_and, and_true, decide_true, decide_false, Bool.and_self, Bool.or_self, ↓reduceIte, ne_eq, not_false_eq_true, not_true_eq_false, reduceCtorEq, Nat.reduceLT, Nat.reduceEqDiff, Nat.reduceAdd, Nat.reduceMul, Nat.reduceLeDiff, Nat.reduceDiv, Nat.reduceMod, Nat.reduceSub, Nat.reduceBEq, List.length_nil]; done)))
      | ((with_reducible refine And.intro ?_ ?_); (focus (try omega)))
      | ((with_reducible apply orc_i); (focus (exact find_ok _ _ (by first | exact .inl rfl | exact .inr rfl); done)); (generalize hk : Kt _ _ _ _ _ _ _ _ _ = k; simp only [lv, E1, E2, E5, ET, T, Int.toNat_natCast, Nat.div_one, Nat.mul_one, Int.reduceToNat, true_or, or_true, true_and, and_true, decide_true, decide_false, Bool.and_self, Bool.or_self, ↓reduceIte, ne_eq, not_false_eq_true, not_true_eq_false, reduceCtorEq, Nat.reduceLT, Nat.reduceEqDiff, Nat.reduceAdd, Nat.reduceMul, Nat.reduceLeDiff, Nat.reduceDiv, Nat.reduceMod, Nat.reduceSub, Nat.reduceBEq, List.length_nil]; (try simp (disch := omega) only [wrap_in, Int.toNat_natCast]); subst hk))
    refine Kf_r ?_
    simp only [Tryz.f7, E4, E3, E2, E5, rawX, deadX, ET, T, true_or, or_true, true_and, and_true, decide_true, decide_false, Bool.and_self, Bool.or_self, ↓reduceIte, ne_eq, not_false_eq_true, not_true_eq_false, reduceCtorEq, Nat.reduceLT, Nat.reduceEqDiff, Nat.reduceAdd, Nat.reduceMul, Nat.reduceLeDiff, Nat.reduceDiv, Nat.reduceMod, Nat.reduceSub, Nat.reduceBEq, List.length_nil]
set_option maxRecDepth 10000 in
theorem close_ok (d : SV) (hd : NoD d) (id : Int) : CallOk Tryz.prog 8 [va d, i64 id] (i64 1) [] false := by
  rcases hd with rfl | rfl
  all_goals
    refine fn_ok' T_ok (orc_ok _) mixed Tryz.func8 rfl (by kernel_rfl) (lv [[0, 1], [0, 1, 6], [0, 1, 6, 14], [6], [4]]) 21 rfl (by simp) rfl (by simp) ?_
    simp only [argsG, Nat.zero_add, Nat.reduceAdd]
    repeat' first
      | ((with_reducible refine vOps_cons' ?_)
         generalize hk : Kt _ _ _ _ _ _ _ _ _ = k
         simp only [Tryz.f8, lv, E1, E2, E5, ET, T, Int.toNat_natCast, Nat.div_one, Nat.mul_one, Int.reduceToNat, true_or, or_true, true_and, and_true, decide_true, decide_false, Bool.and_self, Bool.or_self, ↓reduceIte, ne_eq, not_false_eq_true, not_true_eq_false, reduceCtorEq, Nat.reduceLT, Nat.reduceEqDiff, Nat.reduceAdd, Nat.reduceMul, Nat.reduceLeDiff, Nat.reduceDiv, Nat.reduceMod, Nat.reduceSub, Nat.reduceBEq, List.length_nil]
         try simp (disch := omega) only [wrap_in, Int.toNat_natCast]
         subst hk)
      | with_reducible refine Kt_i ?_
      | ((with_reducible refine vB_i ?_ ?_) <;> intro hq <;> (first | (exfalso; omega) | (exact absurd trivial hq) | (try dsimp only [])))
      | ((with_reducible refine vOps_nil' ?_); refine Kr_i (by kernel_rfl) ?_; generalize hk : plain _ _ = G; simp only [lv, E3, E2, E5, rawX, deadX, true_or, or_true, true_and, and_true, decide_true, decide_false, Bool.and_self, Bool.or_self, ↓reduceIte, ne_eq, not_false_eq_true, not_true_eq_false, reduceCtorEq, Nat.reduceLT, Nat.reduceEqDiff, Nat.reduceAdd, Nat.reduceMul, Nat.reduceLeDiff, Nat.reduceDiv, Nat.reduceMod, Nat.reduceSub, Nat.reduceBEq, List.length_nil] at hk; subst hk)
      | with_reducible refine vSeq_i ?_
      | with_reducible refine vRegion_i (by kernel_rfl) ?_
      | with_reducible refine Kv_i ?_
      | ((with_reducible refine imp_i ?_); intro _)
      | with_reducible refine Ks_n ?_
      | with_reducible refine Ks_r ?_
      | with_reducible refine Ks_e ?_
      | with_reducible refine Kl_e ?_
      | with_reducible refine Kx_n ?_
      | with_reducible refine Kl_r ?_
      | with_reducible refine vRet_i ?_
      | with_reducible refine vSkip_i ?_
      | with_reducible refine vExit_i ?_
      | with_reducible refine vBlock_i ?_
      | with_reducible refine blk_n ?_
      | with_reducible refine blk_r ?_
      | with_reducible refine blk_e ?_
      | with_reducible refine blk_o (by decide) ?_
      | ((with_reducible refine vCond_t ?_ ?_); (focus (simp only [lv, E1, E2, E5, ET, T, Int.toNat_natCast, Nat.div_one, Nat.mul_one, Int.reduceToNat, true_or, or_true, true_and, and_true, decide_true, decide_false, Bool.and_self, Bool.or_self, ↓reduceIte, ne_eq, not_false_eq_true, not_true_eq_false, reduceCtorEq, Nat.reduceLT, Nat.reduceEqDiff, Nat.reduceAdd, Nat.reduceMul, Nat.reduceLeDiff, Nat.reduceDiv, Nat.reduceMod, Nat.reduceSub, Nat.reduceBEq, List.length_nil]; done)))
      | ((with_reducible refine vCond_f ?_ ?_); (focus (simp only [lv, E1, E2, E5, ET, T, Int.toNat_natCast, Nat.div_one, Nat.mul_one, Int.reduceToNat, true_or, or_true, true_and, and_true, decide_true, decide_false, Bool.and_self, Bool.or_self, ↓reduceIte, ne_eq, not_false_eq_true, not_true_eq_false, reduceCtorEq, Nat.reduceLT, Nat.reduceEqDiff, Nat.reduceAdd, Nat.reduceMul, Nat.reduceLeDiff, Nat.reduceDiv, Nat.reduceMod, Nat.reduceSub, Nat.reduceBEq, List.length_nil]; done)))
      | ((with_reducible refine And.intro ?_ ?_); (focus (try omega)))
      | ((with_reducible apply orc_i); (focus (exact find_ok _ _ (by first | exact .inl rfl | exact .inr rfl); done)); (generalize hk : Kt _ _ _ _ _ _ _ _ _ = k; simp only [lv, E1, E2, E5, ET, T, Int.toNat_natCast, Nat.div_one, Nat.mul_one, Int.reduceToNat, true_or, or_true, true_and, and_true, decide_true, decide_false, Bool.and_self, Bool.or_self, ↓reduceIte, ne_eq, not_false_eq_true, not_true_eq_false, reduceCtorEq, Nat.reduceLT, Nat.reduceEqDiff, Nat.reduceAdd, Nat.reduceMul, Nat.reduceLeDiff, Nat.reduceDiv, Nat.reduceMod, Nat.reduceSub, Nat.reduceBEq, List.length_nil]; (try simp (disch := omega) only [wrap_in, Int.toNat_natCast]); subst hk))
    refine Kf_r ?_
    simp only [Tryz.f8, E4, E3, E2, E5, rawX, deadX, ET, T, true_or, or_true, true_and, and_true, decide_true, decide_false, Bool.and_self, Bool.or_self, ↓reduceIte, ne_eq, not_false_eq_true, not_true_eq_false, reduceCtorEq, Nat.reduceLT, Nat.reduceEqDiff, Nat.reduceAdd, Nat.reduceMul, Nat.reduceLeDiff, Nat.reduceDiv, Nat.reduceMod, Nat.reduceSub, Nat.reduceBEq, List.length_nil]
set_option maxRecDepth 10000 in
theorem put_ok (d : SV) (hd : NoD d) (id at_ : Int) (all : Bool) : CallOk Tryz.prog 25 [va d, i64 id, i64 at_, bo all] (i64 1) [] false := by
  rcases hd with rfl | rfl
  all_goals
    refine fn_ok' T_ok (orc_ok _) mixed Tryz.func25 rfl (by kernel_rfl) (lv [[0, 1, 2, 3], [0, 1, 2, 3, 9, 10], [0, 1, 2, 3, 9, 10, 18], [8], [0, 1, 2, 3, 9, 32], [8], [0, 1, 2, 3, 9], [0, 1, 2, 9, 35], [0, 1, 9], [], [8]]) 44 rfl (by simp) rfl (by simp) ?_
    simp only [argsG, Nat.zero_add, Nat.reduceAdd]
    repeat' first
      | ((with_reducible refine vOps_cons' ?_)
         generalize hk : Kt _ _ _ _ _ _ _ _ _ = k
         simp only [Tryz.f25, lv, E1, E2, E5, ET, T, Int.toNat_natCast, Nat.div_one, Nat.mul_one, Int.reduceToNat, true_or, or_true, true_and, and_true, decide_true, decide_false, Bool.and_self, Bool.or_self, ↓reduceIte, ne_eq, not_false_eq_true, not_true_eq_false, reduceCtorEq, Nat.reduceLT, Nat.reduceEqDiff, Nat.reduceAdd, Nat.reduceMul, Nat.reduceLeDiff, Nat.reduceDiv, Nat.reduceMod, Nat.reduceSub, Nat.reduceBEq, List.length_nil]
         try simp (disch := omega) only [wrap_in, Int.toNat_natCast]
         subst hk)
      | with_reducible refine Kt_i ?_
      | ((with_reducible refine vB_i ?_ ?_) <;> intro hq <;> (first | (exfalso; omega) | (exact absurd trivial hq) | (try dsimp only [])))
      | ((with_reducible refine vOps_nil' ?_); refine Kr_i (by kernel_rfl) ?_; generalize hk : plain _ _ = G; simp only [lv, E3, E2, E5, rawX, deadX, true_or, or_true, true_and, and_true, decide_true, decide_false, Bool.and_self, Bool.or_self, ↓reduceIte, ne_eq, not_false_eq_true, not_true_eq_false, reduceCtorEq, Nat.reduceLT, Nat.reduceEqDiff, Nat.reduceAdd, Nat.reduceMul, Nat.reduceLeDiff, Nat.reduceDiv, Nat.reduceMod, Nat.reduceSub, Nat.reduceBEq, List.length_nil] at hk; subst hk)
      | with_reducible refine vSeq_i ?_
      | with_reducible refine vRegion_i (by kernel_rfl) ?_
      | with_reducible refine Kv_i ?_
      | ((with_reducible refine imp_i ?_); intro _)
      | with_reducible refine Ks_n ?_
      | with_reducible refine Ks_r ?_
      | with_reducible refine Ks_e ?_
      | with_reducible refine Kl_e ?_
      | with_reducible refine Kx_n ?_
      | with_reducible refine Kl_r ?_
      | with_reducible refine vRet_i ?_
      | with_reducible refine vSkip_i ?_
      | with_reducible refine vExit_i ?_
      | with_reducible refine vBlock_i ?_
      | with_reducible refine blk_n ?_
      | with_reducible refine blk_r ?_
      | with_reducible refine blk_e ?_
      | with_reducible refine blk_o (by decide) ?_
      | ((with_reducible refine vCond_t ?_ ?_); (focus (simp only [lv, E1, E2, E5, ET, T, Int.toNat_natCast, Nat.div_one, Nat.mul_one, Int.reduceToNat, true_or, or_true, true_and, and_true, decide_true, decide_false, Bool.and_self, Bool.or_self, ↓reduceIte, ne_eq, not_false_eq_true, not_true_eq_false, reduceCtorEq, Nat.reduceLT, Nat.reduceEqDiff, Nat.reduceAdd, Nat.reduceMul, Nat.reduceLeDiff, Nat.reduceDiv, Nat.reduceMod, Nat.reduceSub, Nat.reduceBEq, List.length_nil]; done)))
      | ((with_reducible refine vCond_f ?_ ?_); (focus (simp only [lv, E1, E2, E5, ET, T, Int.toNat_natCast, Nat.div_one, Nat.mul_one, Int.reduceToNat, true_or, or_true, true_and, and_true, decide_true, decide_false, Bool.and_self, Bool.or_self, ↓reduceIte, ne_eq, not_false_eq_true, not_true_eq_false, reduceCtorEq, Nat.reduceLT, Nat.reduceEqDiff, Nat.reduceAdd, Nat.reduceMul, Nat.reduceLeDiff, Nat.reduceDiv, Nat.reduceMod, Nat.reduceSub, Nat.reduceBEq, List.length_nil]; done)))
      | ((with_reducible refine And.intro ?_ ?_); (focus (try omega)))
      | ((with_reducible apply orc_i); (focus (exact find_ok _ _ (by first | exact .inl rfl | exact .inr rfl); done)); (generalize hk : Kt _ _ _ _ _ _ _ _ _ = k; simp only [lv, E1, E2, E5, ET, T, Int.toNat_natCast, Nat.div_one, Nat.mul_one, Int.reduceToNat, true_or, or_true, true_and, and_true, decide_true, decide_false, Bool.and_self, Bool.or_self, ↓reduceIte, ne_eq, not_false_eq_true, not_true_eq_false, reduceCtorEq, Nat.reduceLT, Nat.reduceEqDiff, Nat.reduceAdd, Nat.reduceMul, Nat.reduceLeDiff, Nat.reduceDiv, Nat.reduceMod, Nat.reduceSub, Nat.reduceBEq, List.length_nil]; (try simp (disch := omega) only [wrap_in, Int.toNat_natCast]); subst hk))
    refine Kf_r ?_
    simp only [Tryz.f25, E4, E3, E2, E5, rawX, deadX, ET, T, true_or, or_true, true_and, and_true, decide_true, decide_false, Bool.and_self, Bool.or_self, ↓reduceIte, ne_eq, not_false_eq_true, not_true_eq_false, reduceCtorEq, Nat.reduceLT, Nat.reduceEqDiff, Nat.reduceAdd, Nat.reduceMul, Nat.reduceLeDiff, Nat.reduceDiv, Nat.reduceMod, Nat.reduceSub, Nat.reduceBEq, List.length_nil]
set_option maxRecDepth 10000 in
theorem go_ok (d : SV) (hd : NoD d) (id at_ : Int) : CallOk Tryz.prog 9 [va d, i64 id, i64 at_] (i64 1) [] false := by
  rcases hd with rfl | rfl
  all_goals
    refine fn_ok' T_ok (orc_ok _) mixed Tryz.func9 rfl (by kernel_rfl) (lv [[0, 1, 2], [6]]) 11 rfl (by simp) rfl (by simp) ?_
    simp only [argsG, Nat.zero_add, Nat.reduceAdd]
    repeat' first
      | ((with_reducible refine vOps_cons' ?_)
         generalize hk : Kt _ _ _ _ _ _ _ _ _ = k
         simp only [Tryz.f9, lv, E1, E2, E5, ET, T, Int.toNat_natCast, Nat.div_one, Nat.mul_one, Int.reduceToNat, true_or, or_true, true_and, and_true, decide_true, decide_false, Bool.and_self, Bool.or_self, ↓reduceIte, ne_eq, not_false_eq_true, not_true_eq_false, reduceCtorEq, Nat.reduceLT, Nat.reduceEqDiff, Nat.reduceAdd, Nat.reduceMul, Nat.reduceLeDiff, Nat.reduceDiv, Nat.reduceMod, Nat.reduceSub, Nat.reduceBEq, List.length_nil]
         try simp (disch := omega) only [wrap_in, Int.toNat_natCast]
         subst hk)
      | with_reducible refine Kt_i ?_
      | ((with_reducible refine vB_i ?_ ?_) <;> intro hq <;> (first | (exfalso; omega) | (exact absurd trivial hq) | (try dsimp only [])))
      | ((with_reducible refine vOps_nil' ?_); refine Kr_i (by kernel_rfl) ?_; generalize hk : plain _ _ = G; simp only [lv, E3, E2, E5, rawX, deadX, true_or, or_true, true_and, and_true, decide_true, decide_false, Bool.and_self, Bool.or_self, ↓reduceIte, ne_eq, not_false_eq_true, not_true_eq_false, reduceCtorEq, Nat.reduceLT, Nat.reduceEqDiff, Nat.reduceAdd, Nat.reduceMul, Nat.reduceLeDiff, Nat.reduceDiv, Nat.reduceMod, Nat.reduceSub, Nat.reduceBEq, List.length_nil] at hk; subst hk)
      | with_reducible refine vSeq_i ?_
      | with_reducible refine vRegion_i (by kernel_rfl) ?_
      | with_reducible refine Kv_i ?_
      | ((with_reducible refine imp_i ?_); intro _)
      | with_reducible refine Ks_n ?_
      | with_reducible refine Ks_r ?_
      | with_reducible refine Ks_e ?_
      | with_reducible refine Kl_e ?_
      | with_reducible refine Kx_n ?_
      | with_reducible refine Kl_r ?_
      | with_reducible refine vRet_i ?_
      | with_reducible refine vSkip_i ?_
      | with_reducible refine vExit_i ?_
      | with_reducible refine vBlock_i ?_
      | with_reducible refine blk_n ?_
      | with_reducible refine blk_r ?_
      | with_reducible refine blk_e ?_
      | with_reducible refine blk_o (by decide) ?_
      | ((with_reducible refine vCond_t ?_ ?_); (focus (simp only [lv, E1, E2, E5, ET, T, Int.toNat_natCast, Nat.div_one, Nat.mul_one, Int.reduceToNat, true_or, or_true, true_and, and_true, decide_true, decide_false, Bool.and_self, Bool.or_self, ↓reduceIte, ne_eq, not_false_eq_true, not_true_eq_false, reduceCtorEq, Nat.reduceLT, Nat.reduceEqDiff, Nat.reduceAdd, Nat.reduceMul, Nat.reduceLeDiff, Nat.reduceDiv, Nat.reduceMod, Nat.reduceSub, Nat.reduceBEq, List.length_nil]; done)))
      | ((with_reducible refine vCond_f ?_ ?_); (focus (simp only [lv, E1, E2, E5, ET, T, Int.toNat_natCast, Nat.div_one, Nat.mul_one, Int.reduceToNat, true_or, or_true, true_and, and_true, decide_true, decide_false, Bool.and_self, Bool.or_self, ↓reduceIte, ne_eq, not_false_eq_true, not_true_eq_false, reduceCtorEq, Nat.reduceLT, Nat.reduceEqDiff, Nat.reduceAdd, Nat.reduceMul, Nat.reduceLeDiff, Nat.reduceDiv, Nat.reduceMod, Nat.reduceSub, Nat.reduceBEq, List.length_nil]; done)))
      | ((with_reducible refine And.intro ?_ ?_); (focus (try omega)))
      | ((with_reducible apply orc_i); (focus (exact put_ok _ (by first | exact .inl rfl | exact .inr rfl) _ _ _; done)); (generalize hk : Kt _ _ _ _ _ _ _ _ _ = k; simp only [lv, E1, E2, E5, ET, T, Int.toNat_natCast, Nat.div_one, Nat.mul_one, Int.reduceToNat, true_or, or_true, true_and, and_true, decide_true, decide_false, Bool.and_self, Bool.or_self, ↓reduceIte, ne_eq, not_false_eq_true, not_true_eq_false, reduceCtorEq, Nat.reduceLT, Nat.reduceEqDiff, Nat.reduceAdd, Nat.reduceMul, Nat.reduceLeDiff, Nat.reduceDiv, Nat.reduceMod, Nat.reduceSub, Nat.reduceBEq, List.length_nil]; (try simp (disch := omega) only [wrap_in, Int.toNat_natCast]); subst hk))
    refine Kf_r ?_
    simp only [Tryz.f9, E4, E3, E2, E5, rawX, deadX, ET, T, true_or, or_true, true_and, and_true, decide_true, decide_false, Bool.and_self, Bool.or_self, ↓reduceIte, ne_eq, not_false_eq_true, not_true_eq_false, reduceCtorEq, Nat.reduceLT, Nat.reduceEqDiff, Nat.reduceAdd, Nat.reduceMul, Nat.reduceLeDiff, Nat.reduceDiv, Nat.reduceMod, Nat.reduceSub, Nat.reduceBEq, List.length_nil]
set_option maxRecDepth 10000 in
theorem mark_ok (d : SV) (hd : NoD d) (id at_ : Int) : CallOk Tryz.prog 10 [va d, i64 id, i64 at_] (i64 1) [] false := by
  rcases hd with rfl | rfl
  all_goals
    refine fn_ok' T_ok (orc_ok _) mixed Tryz.func10 rfl (by kernel_rfl) (lv [[0, 1, 2], [6]]) 11 rfl (by simp) rfl (by simp) ?_
    simp only [argsG, Nat.zero_add, Nat.reduceAdd]
    repeat' first
      | ((with_reducible refine vOps_cons' ?_)
         generalize hk : Kt _ _ _ _ _ _ _ _ _ = k
         simp only [Tryz.f10, lv, E1, E2, E5, ET, T, Int.toNat_natCast, Nat.div_one, Nat.mul_one, Int.reduceToNat, true_or, or_true, true_and, and_true, decide_true, decide_false, Bool.and_self, Bool.or_self, ↓reduceIte, ne_eq, not_false_eq_true, not_true_eq_false, reduceCtorEq, Nat.reduceLT, Nat.reduceEqDiff, Nat.reduceAdd, Nat.reduceMul, Nat.reduceLeDiff, Nat.reduceDiv, Nat.reduceMod, Nat.reduceSub, Nat.reduceBEq, List.length_nil]
         try simp (disch := omega) only [wrap_in, Int.toNat_natCast]
         subst hk)
      | with_reducible refine Kt_i ?_
      | ((with_reducible refine vB_i ?_ ?_) <;> intro hq <;> (first | (exfalso; omega) | (exact absurd trivial hq) | (try dsimp only [])))
      | ((with_reducible refine vOps_nil' ?_); refine Kr_i (by kernel_rfl) ?_; generalize hk : plain _ _ = G; simp only [lv, E3, E2, E5, rawX, deadX, true_or, or_true, true_and, and_true, decide_true, decide_false, Bool.and_self, Bool.or_self, ↓reduceIte, ne_eq, not_false_eq_true, not_true_eq_false, reduceCtorEq, Nat.reduceLT, Nat.reduceEqDiff, Nat.reduceAdd, Nat.reduceMul, Nat.reduceLeDiff, Nat.reduceDiv, Nat.reduceMod, Nat.reduceSub, Nat.reduceBEq, List.length_nil] at hk; subst hk)
      | with_reducible refine vSeq_i ?_
      | with_reducible refine vRegion_i (by kernel_rfl) ?_
      | with_reducible refine Kv_i ?_
      | ((with_reducible refine imp_i ?_); intro _)
      | with_reducible refine Ks_n ?_
      | with_reducible refine Ks_r ?_
      | with_reducible refine Ks_e ?_
      | with_reducible refine Kl_e ?_
      | with_reducible refine Kx_n ?_
      | with_reducible refine Kl_r ?_
      | with_reducible refine vRet_i ?_
      | with_reducible refine vSkip_i ?_
      | with_reducible refine vExit_i ?_
      | with_reducible refine vBlock_i ?_
      | with_reducible refine blk_n ?_
      | with_reducible refine blk_r ?_
      | with_reducible refine blk_e ?_
      | with_reducible refine blk_o (by decide) ?_
      | ((with_reducible refine vCond_t ?_ ?_); (focus (simp only [lv, E1, E2, E5, ET, T, Int.toNat_natCast, Nat.div_one, Nat.mul_one, Int.reduceToNat, true_or, or_true, true_and, and_true, decide_true, decide_false, Bool.and_self, Bool.or_self, ↓reduceIte, ne_eq, not_false_eq_true, not_true_eq_false, reduceCtorEq, Nat.reduceLT, Nat.reduceEqDiff, Nat.reduceAdd, Nat.reduceMul, Nat.reduceLeDiff, Nat.reduceDiv, Nat.reduceMod, Nat.reduceSub, Nat.reduceBEq, List.length_nil]; done)))
      | ((with_reducible refine vCond_f ?_ ?_); (focus (simp only [lv, E1, E2, E5, ET, T, Int.toNat_natCast, Nat.div_one, Nat.mul_one, Int.reduceToNat, true_or, or_true, true_and, and_true, decide_true, decide_false, Bool.and_self, Bool.or_self, ↓reduceIte, ne_eq, not_false_eq_true, not_true_eq_false, reduceCtorEq, Nat.reduceLT, Nat.reduceEqDiff, Nat.reduceAdd, Nat.reduceMul, Nat.reduceLeDiff, Nat.reduceDiv, Nat.reduceMod, Nat.reduceSub, Nat.reduceBEq, List.length_nil]; done)))
      | ((with_reducible refine And.intro ?_ ?_); (focus (try omega)))
      | ((with_reducible apply orc_i); (focus (exact put_ok _ (by first | exact .inl rfl | exact .inr rfl) _ _ _; done)); (generalize hk : Kt _ _ _ _ _ _ _ _ _ = k; simp only [lv, E1, E2, E5, ET, T, Int.toNat_natCast, Nat.div_one, Nat.mul_one, Int.reduceToNat, true_or, or_true, true_and, and_true, decide_true, decide_false, Bool.and_self, Bool.or_self, ↓reduceIte, ne_eq, not_false_eq_true, not_true_eq_false, reduceCtorEq, Nat.reduceLT, Nat.reduceEqDiff, Nat.reduceAdd, Nat.reduceMul, Nat.reduceLeDiff, Nat.reduceDiv, Nat.reduceMod, Nat.reduceSub, Nat.reduceBEq, List.length_nil]; (try simp (disch := omega) only [wrap_in, Int.toNat_natCast]); subst hk))
    refine Kf_r ?_
    simp only [Tryz.f10, E4, E3, E2, E5, rawX, deadX, ET, T, true_or, or_true, true_and, and_true, decide_true, decide_false, Bool.and_self, Bool.or_self, ↓reduceIte, ne_eq, not_false_eq_true, not_true_eq_false, reduceCtorEq, Nat.reduceLT, Nat.reduceEqDiff, Nat.reduceAdd, Nat.reduceMul, Nat.reduceLeDiff, Nat.reduceDiv, Nat.reduceMod, Nat.reduceSub, Nat.reduceBEq, List.length_nil]
set_option maxRecDepth 10000 in
theorem type_ok (d : SV) (hd : NoD d) (id : Int) (bs : List SV) : CallOk Tryz.prog 11 [va d, i64 id, sl bs] (i64 1) [] false := by
  rcases hd with rfl | rfl
  all_goals
    refine fn_ok' T_ok (orc_ok _) mixed Tryz.func11 rfl (by kernel_rfl) (lv [[0, 1, 2], [0, 2, 7, 8], [0, 2, 7, 8, 18], [6], [0, 7, 8, 9], [0, 7, 8, 9, 27], [6], [6]]) 35 rfl (by simp) rfl (by simp) ?_
    simp only [argsG, Nat.zero_add, Nat.reduceAdd]
    repeat' first
      | ((with_reducible refine vOps_cons' ?_)
         generalize hk : Kt _ _ _ _ _ _ _ _ _ = k
         simp only [Tryz.f11, lv, E1, E2, E5, ET, T, Int.toNat_natCast, Nat.div_one, Nat.mul_one, Int.reduceToNat, true_or, or_true, true_and, and_true, decide_true, decide_false, Bool.and_self, Bool.or_self, ↓reduceIte, ne_eq, not_false_eq_true, not_true_eq_false, reduceCtorEq, Nat.reduceLT, Nat.reduceEqDiff, Nat.reduceAdd, Nat.reduceMul, Nat.reduceLeDiff, Nat.reduceDiv, Nat.reduceMod, Nat.reduceSub, Nat.reduceBEq, List.length_nil]
         try simp (disch := omega) only [wrap_in, Int.toNat_natCast]
         subst hk)
      | with_reducible refine Kt_i ?_
      | ((with_reducible refine vB_i ?_ ?_) <;> intro hq <;> (first | (exfalso; omega) | (exact absurd trivial hq) | (try dsimp only [])))
      | ((with_reducible refine vOps_nil' ?_); refine Kr_i (by kernel_rfl) ?_; generalize hk : plain _ _ = G; simp only [lv, E3, E2, E5, rawX, deadX, true_or, or_true, true_and, and_true, decide_true, decide_false, Bool.and_self, Bool.or_self, ↓reduceIte, ne_eq, not_false_eq_true, not_true_eq_false, reduceCtorEq, Nat.reduceLT, Nat.reduceEqDiff, Nat.reduceAdd, Nat.reduceMul, Nat.reduceLeDiff, Nat.reduceDiv, Nat.reduceMod, Nat.reduceSub, Nat.reduceBEq, List.length_nil] at hk; subst hk)
      | with_reducible refine vSeq_i ?_
      | with_reducible refine vRegion_i (by kernel_rfl) ?_
      | with_reducible refine Kv_i ?_
      | ((with_reducible refine imp_i ?_); intro _)
      | with_reducible refine Ks_n ?_
      | with_reducible refine Ks_r ?_
      | with_reducible refine Ks_e ?_
      | with_reducible refine Kl_e ?_
      | with_reducible refine Kx_n ?_
      | with_reducible refine Kl_r ?_
      | with_reducible refine vRet_i ?_
      | with_reducible refine vSkip_i ?_
      | with_reducible refine vExit_i ?_
      | with_reducible refine vBlock_i ?_
      | with_reducible refine blk_n ?_
      | with_reducible refine blk_r ?_
      | with_reducible refine blk_e ?_
      | with_reducible refine blk_o (by decide) ?_
      | ((with_reducible refine vCond_t ?_ ?_); (focus (simp only [lv, E1, E2, E5, ET, T, Int.toNat_natCast, Nat.div_one, Nat.mul_one, Int.reduceToNat, true_or, or_true, true_and, and_true, decide_true, decide_false, Bool.and_self, Bool.or_self, ↓reduceIte, ne_eq, not_false_eq_true, not_true_eq_false, reduceCtorEq, Nat.reduceLT, Nat.reduceEqDiff, Nat.reduceAdd, Nat.reduceMul, Nat.reduceLeDiff, Nat.reduceDiv, Nat.reduceMod, Nat.reduceSub, Nat.reduceBEq, List.length_nil]; done)))
      | ((with_reducible refine vCond_f ?_ ?_); (focus (simp only [lv, E1, E2, E5, ET, T, Int.toNat_natCast, Nat.div_one, Nat.mul_one, Int.reduceToNat, true_or, or_true, true_and, and_true, decide_true, decide_false, Bool.and_self, Bool.or_self, ↓reduceIte, ne_eq, not_false_eq_true, not_true_eq_false, reduceCtorEq, Nat.reduceLT, Nat.reduceEqDiff, Nat.reduceAdd, Nat.reduceMul, Nat.reduceLeDiff, Nat.reduceDiv, Nat.reduceMod, Nat.reduceSub, Nat.reduceBEq, List.length_nil]; done)))
      | ((with_reducible refine And.intro ?_ ?_); (focus (try omega)))
      | ((with_reducible apply orc_i); (focus (exact find_ok _ _ (by first | exact .inl rfl | exact .inr rfl); done)); (generalize hk : Kt _ _ _ _ _ _ _ _ _ = k; simp only [lv, E1, E2, E5, ET, T, Int.toNat_natCast, Nat.div_one, Nat.mul_one, Int.reduceToNat, true_or, or_true, true_and, and_true, decide_true, decide_false, Bool.and_self, Bool.or_self, ↓reduceIte, ne_eq, not_false_eq_true, not_true_eq_false, reduceCtorEq, Nat.reduceLT, Nat.reduceEqDiff, Nat.reduceAdd, Nat.reduceMul, Nat.reduceLeDiff, Nat.reduceDiv, Nat.reduceMod, Nat.reduceSub, Nat.reduceBEq, List.length_nil]; (try simp (disch := omega) only [wrap_in, Int.toNat_natCast]); subst hk))
    refine Kf_r ?_
    simp only [Tryz.f11, E4, E3, E2, E5, rawX, deadX, ET, T, true_or, or_true, true_and, and_true, decide_true, decide_false, Bool.and_self, Bool.or_self, ↓reduceIte, ne_eq, not_false_eq_true, not_true_eq_false, reduceCtorEq, Nat.reduceLT, Nat.reduceEqDiff, Nat.reduceAdd, Nat.reduceMul, Nat.reduceLeDiff, Nat.reduceDiv, Nat.reduceMod, Nat.reduceSub, Nat.reduceBEq, List.length_nil]
set_option maxRecDepth 10000 in
theorem erase_ok (d : SV) (hd : NoD d) (id : Int) : CallOk Tryz.prog 12 [va d, i64 id] (i64 1) [] false := by
  rcases hd with rfl | rfl
  all_goals
    refine fn_ok' T_ok (orc_ok _) mixed Tryz.func12 rfl (by kernel_rfl) (lv [[0, 1], [0, 5, 6], [0, 5, 6, 14], [4], [4]]) 29 rfl (by simp) rfl (by simp) ?_
    simp only [argsG, Nat.zero_add, Nat.reduceAdd]
    repeat' first
      | ((with_reducible refine vOps_cons' ?_)
         generalize hk : Kt _ _ _ _ _ _ _ _ _ = k
         simp only [Tryz.f12, lv, E1, E2, E5, ET, T, Int.toNat_natCast, Nat.div_one, Nat.mul_one, Int.reduceToNat, true_or, or_true, true_and, and_true, decide_true, decide_false, Bool.and_self, Bool.or_self, ↓reduceIte, ne_eq, not_false_eq_true, not_true_eq_false, reduceCtorEq, Nat.reduceLT, Nat.reduceEqDiff, Nat.reduceAdd, Nat.reduceMul, Nat.reduceLeDiff, Nat.reduceDiv, Nat.reduceMod, Nat.reduceSub, Nat.reduceBEq, List.length_nil]
         try simp (disch := omega) only [wrap_in, Int.toNat_natCast]
         subst hk)
      | with_reducible refine Kt_i ?_
      | ((with_reducible refine vB_i ?_ ?_) <;> intro hq <;> (first | (exfalso; omega) | (exact absurd trivial hq) | (try dsimp only [])))
      | ((with_reducible refine vOps_nil' ?_); refine Kr_i (by kernel_rfl) ?_; generalize hk : plain _ _ = G; simp only [lv, E3, E2, E5, rawX, deadX, true_or, or_true, true_and, and_true, decide_true, decide_false, Bool.and_self, Bool.or_self, ↓reduceIte, ne_eq, not_false_eq_true, not_true_eq_false, reduceCtorEq, Nat.reduceLT, Nat.reduceEqDiff, Nat.reduceAdd, Nat.reduceMul, Nat.reduceLeDiff, Nat.reduceDiv, Nat.reduceMod, Nat.reduceSub, Nat.reduceBEq, List.length_nil] at hk; subst hk)
      | with_reducible refine vSeq_i ?_
      | with_reducible refine vRegion_i (by kernel_rfl) ?_
      | with_reducible refine Kv_i ?_
      | ((with_reducible refine imp_i ?_); intro _)
      | with_reducible refine Ks_n ?_
      | with_reducible refine Ks_r ?_
      | with_reducible refine Ks_e ?_
      | with_reducible refine Kl_e ?_
      | with_reducible refine Kx_n ?_
      | with_reducible refine Kl_r ?_
      | with_reducible refine vRet_i ?_
      | with_reducible refine vSkip_i ?_
      | with_reducible refine vExit_i ?_
      | with_reducible refine vBlock_i ?_
      | with_reducible refine blk_n ?_
      | with_reducible refine blk_r ?_
      | with_reducible refine blk_e ?_
      | with_reducible refine blk_o (by decide) ?_
      | ((with_reducible refine vCond_t ?_ ?_); (focus (simp only [lv, E1, E2, E5, ET, T, Int.toNat_natCast, Nat.div_one, Nat.mul_one, Int.reduceToNat, true_or, or_true, true_and, and_true, decide_true, decide_false, Bool.and_self, Bool.or_self, ↓reduceIte, ne_eq, not_false_eq_true, not_true_eq_false, reduceCtorEq, Nat.reduceLT, Nat.reduceEqDiff, Nat.reduceAdd, Nat.reduceMul, Nat.reduceLeDiff, Nat.reduceDiv, Nat.reduceMod, Nat.reduceSub, Nat.reduceBEq, List.length_nil]; done)))
      | ((with_reducible refine vCond_f ?_ ?_); (focus (simp only [lv, E1, E2, E5, ET, T, Int.toNat_natCast, Nat.div_one, Nat.mul_one, Int.reduceToNat, true_or, or_true, true_and, and_true, decide_true, decide_false, Bool.and_self, Bool.or_self, ↓reduceIte, ne_eq, not_false_eq_true, not_true_eq_false, reduceCtorEq, Nat.reduceLT, Nat.reduceEqDiff, Nat.reduceAdd, Nat.reduceMul, Nat.reduceLeDiff, Nat.reduceDiv, Nat.reduceMod, Nat.reduceSub, Nat.reduceBEq, List.length_nil]; done)))
      | ((with_reducible refine And.intro ?_ ?_); (focus (try omega)))
      | ((with_reducible apply orc_i); (focus (exact find_ok _ _ (by first | exact .inl rfl | exact .inr rfl); done)); (generalize hk : Kt _ _ _ _ _ _ _ _ _ = k; simp only [lv, E1, E2, E5, ET, T, Int.toNat_natCast, Nat.div_one, Nat.mul_one, Int.reduceToNat, true_or, or_true, true_and, and_true, decide_true, decide_false, Bool.and_self, Bool.or_self, ↓reduceIte, ne_eq, not_false_eq_true, not_true_eq_false, reduceCtorEq, Nat.reduceLT, Nat.reduceEqDiff, Nat.reduceAdd, Nat.reduceMul, Nat.reduceLeDiff, Nat.reduceDiv, Nat.reduceMod, Nat.reduceSub, Nat.reduceBEq, List.length_nil]; (try simp (disch := omega) only [wrap_in, Int.toNat_natCast]); subst hk))
    refine Kf_r ?_
    simp only [Tryz.f12, E4, E3, E2, E5, rawX, deadX, ET, T, true_or, or_true, true_and, and_true, decide_true, decide_false, Bool.and_self, Bool.or_self, ↓reduceIte, ne_eq, not_false_eq_true, not_true_eq_false, reduceCtorEq, Nat.reduceLT, Nat.reduceEqDiff, Nat.reduceAdd, Nat.reduceMul, Nat.reduceLeDiff, Nat.reduceDiv, Nat.reduceMod, Nat.reduceSub, Nat.reduceBEq, List.length_nil]
set_option maxRecDepth 10000 in
theorem back_ok (d : SV) (hd : NoD d) (id kind : Int) : CallOk Tryz.prog 13 [va d, i64 id, i64 kind] (i64 1) [] false := by
  rcases hd with rfl | rfl
  all_goals
    refine fn_ok' T_ok (orc_ok _) mixed Tryz.func13 rfl (by kernel_rfl) (lv [[0, 1, 2], [0, 2, 8], [0, 2, 8, 16], [6], [0, 2, 23], [6], [6]]) 28 rfl (by simp) rfl (by simp) ?_
    simp only [argsG, Nat.zero_add, Nat.reduceAdd]
    repeat' first
      | ((with_reducible refine vOps_cons' ?_)
         generalize hk : Kt _ _ _ _ _ _ _ _ _ = k
         simp only [Tryz.f13, lv, E1, E2, E5, ET, T, Int.toNat_natCast, Nat.div_one, Nat.mul_one, Int.reduceToNat, true_or, or_true, true_and, and_true, decide_true, decide_false, Bool.and_self, Bool.or_self, ↓reduceIte, ne_eq, not_false_eq_true, not_true_eq_false, reduceCtorEq, Nat.reduceLT, Nat.reduceEqDiff, Nat.reduceAdd, Nat.reduceMul, Nat.reduceLeDiff, Nat.reduceDiv, Nat.reduceMod, Nat.reduceSub, Nat.reduceBEq, List.length_nil]
         try simp (disch := omega) only [wrap_in, Int.toNat_natCast]
         subst hk)
      | with_reducible refine Kt_i ?_
      | ((with_reducible refine vB_i ?_ ?_) <;> intro hq <;> (first | (exfalso; omega) | (exact absurd trivial hq) | (try dsimp only [])))
      | ((with_reducible refine vOps_nil' ?_); refine Kr_i (by kernel_rfl) ?_; generalize hk : plain _ _ = G; simp only [lv, E3, E2, E5, rawX, deadX, true_or, or_true, true_and, and_true, decide_true, decide_false, Bool.and_self, Bool.or_self, ↓reduceIte, ne_eq, not_false_eq_true, not_true_eq_false, reduceCtorEq, Nat.reduceLT, Nat.reduceEqDiff, Nat.reduceAdd, Nat.reduceMul, Nat.reduceLeDiff, Nat.reduceDiv, Nat.reduceMod, Nat.reduceSub, Nat.reduceBEq, List.length_nil] at hk; subst hk)
      | with_reducible refine vSeq_i ?_
      | with_reducible refine vRegion_i (by kernel_rfl) ?_
      | with_reducible refine Kv_i ?_
      | ((with_reducible refine imp_i ?_); intro _)
      | with_reducible refine Ks_n ?_
      | with_reducible refine Ks_r ?_
      | with_reducible refine Ks_e ?_
      | with_reducible refine Kl_e ?_
      | with_reducible refine Kx_n ?_
      | with_reducible refine Kl_r ?_
      | with_reducible refine vRet_i ?_
      | with_reducible refine vSkip_i ?_
      | with_reducible refine vExit_i ?_
      | with_reducible refine vBlock_i ?_
      | with_reducible refine blk_n ?_
      | with_reducible refine blk_r ?_
      | with_reducible refine blk_e ?_
      | with_reducible refine blk_o (by decide) ?_
      | ((with_reducible refine vCond_t ?_ ?_); (focus (simp only [lv, E1, E2, E5, ET, T, Int.toNat_natCast, Nat.div_one, Nat.mul_one, Int.reduceToNat, true_or, or_true, true_and, and_true, decide_true, decide_false, Bool.and_self, Bool.or_self, ↓reduceIte, ne_eq, not_false_eq_true, not_true_eq_false, reduceCtorEq, Nat.reduceLT, Nat.reduceEqDiff, Nat.reduceAdd, Nat.reduceMul, Nat.reduceLeDiff, Nat.reduceDiv, Nat.reduceMod, Nat.reduceSub, Nat.reduceBEq, List.length_nil]; done)))
      | ((with_reducible refine vCond_f ?_ ?_); (focus (simp only [lv, E1, E2, E5, ET, T, Int.toNat_natCast, Nat.div_one, Nat.mul_one, Int.reduceToNat, true_or, or_true, true_and, and_true, decide_true, decide_false, Bool.and_self, Bool.or_self, ↓reduceIte, ne_eq, not_false_eq_true, not_true_eq_false, reduceCtorEq, Nat.reduceLT, Nat.reduceEqDiff, Nat.reduceAdd, Nat.reduceMul, Nat.reduceLeDiff, Nat.reduceDiv, Nat.reduceMod, Nat.reduceSub, Nat.reduceBEq, List.length_nil]; done)))
      | ((with_reducible refine And.intro ?_ ?_); (focus (try omega)))
      | ((with_reducible apply orc_i); (focus (exact find_ok _ _ (by first | exact .inl rfl | exact .inr rfl); done)); (generalize hk : Kt _ _ _ _ _ _ _ _ _ = k; simp only [lv, E1, E2, E5, ET, T, Int.toNat_natCast, Nat.div_one, Nat.mul_one, Int.reduceToNat, true_or, or_true, true_and, and_true, decide_true, decide_false, Bool.and_self, Bool.or_self, ↓reduceIte, ne_eq, not_false_eq_true, not_true_eq_false, reduceCtorEq, Nat.reduceLT, Nat.reduceEqDiff, Nat.reduceAdd, Nat.reduceMul, Nat.reduceLeDiff, Nat.reduceDiv, Nat.reduceMod, Nat.reduceSub, Nat.reduceBEq, List.length_nil]; (try simp (disch := omega) only [wrap_in, Int.toNat_natCast]); subst hk))
    refine Kf_r ?_
    simp only [Tryz.f13, E4, E3, E2, E5, rawX, deadX, ET, T, true_or, or_true, true_and, and_true, decide_true, decide_false, Bool.and_self, Bool.or_self, ↓reduceIte, ne_eq, not_false_eq_true, not_true_eq_false, reduceCtorEq, Nat.reduceLT, Nat.reduceEqDiff, Nat.reduceAdd, Nat.reduceMul, Nat.reduceLeDiff, Nat.reduceDiv, Nat.reduceMod, Nat.reduceSub, Nat.reduceBEq, List.length_nil]
set_option maxRecDepth 10000 in
theorem walk_ok (d : SV) (hd : NoD d) (id by_ : Int) : CallOk Tryz.prog 14 [va d, i64 id, i64 by_] (i64 1) [] false := by
  rcases hd with rfl | rfl
  all_goals
    refine fn_ok' T_ok (orc_ok _) mixed Tryz.func14 rfl (by kernel_rfl) (lv [[0, 1, 2], [0, 1, 2, 7, 8], [0, 1, 2, 7, 8, 22], [6], [0, 1, 2, 7, 29], [6], [0, 1, 2, 7, 8, 9], [0, 1, 2, 7, 8, 9, 46], [6], [0, 1, 2, 7, 8, 12], [0, 1, 2, 7, 8, 12, 55], [6], [0, 1, 2, 7, 8, 12, 13], [0, 1, 2, 7, 8, 12, 13, 69], [6], [0, 1, 8, 12, 14], [0, 1, 8, 12, 14, 83], [6], [6]]) 92 rfl (by simp) rfl (by simp) ?_
    simp only [argsG, Nat.zero_add, Nat.reduceAdd]
    repeat' first
      | ((with_reducible refine vOps_cons' ?_)
         generalize hk : Kt _ _ _ _ _ _ _ _ _ = k
         simp only [Tryz.f14, lv, E1, E2, E5, ET, T, Int.toNat_natCast, Nat.div_one, Nat.mul_one, Int.reduceToNat, true_or, or_true, true_and, and_true, decide_true, decide_false, Bool.and_self, Bool.or_self, ↓reduceIte, ne_eq, not_false_eq_true, not_true_eq_false, reduceCtorEq, Nat.reduceLT, Nat.reduceEqDiff, Nat.reduceAdd, Nat.reduceMul, Nat.reduceLeDiff, Nat.reduceDiv, Nat.reduceMod, Nat.reduceSub, Nat.reduceBEq, List.length_nil]
         try simp (disch := omega) only [wrap_in, Int.toNat_natCast]
         subst hk)
      | with_reducible refine Kt_i ?_
      | ((with_reducible refine vB_i ?_ ?_) <;> intro hq <;> (first | (exfalso; omega) | (exact absurd trivial hq) | (try dsimp only [])))
      | ((with_reducible refine vOps_nil' ?_); refine Kr_i (by kernel_rfl) ?_; generalize hk : plain _ _ = G; simp only [lv, E3, E2, E5, rawX, deadX, true_or, or_true, true_and, and_true, decide_true, decide_false, Bool.and_self, Bool.or_self, ↓reduceIte, ne_eq, not_false_eq_true, not_true_eq_false, reduceCtorEq, Nat.reduceLT, Nat.reduceEqDiff, Nat.reduceAdd, Nat.reduceMul, Nat.reduceLeDiff, Nat.reduceDiv, Nat.reduceMod, Nat.reduceSub, Nat.reduceBEq, List.length_nil] at hk; subst hk)
      | with_reducible refine vSeq_i ?_
      | with_reducible refine vRegion_i (by kernel_rfl) ?_
      | with_reducible refine Kv_i ?_
      | ((with_reducible refine imp_i ?_); intro _)
      | with_reducible refine Ks_n ?_
      | with_reducible refine Ks_r ?_
      | with_reducible refine Ks_e ?_
      | with_reducible refine Kl_e ?_
      | with_reducible refine Kx_n ?_
      | with_reducible refine Kl_r ?_
      | with_reducible refine vRet_i ?_
      | with_reducible refine vSkip_i ?_
      | with_reducible refine vExit_i ?_
      | with_reducible refine vBlock_i ?_
      | with_reducible refine blk_n ?_
      | with_reducible refine blk_r ?_
      | with_reducible refine blk_e ?_
      | with_reducible refine blk_o (by decide) ?_
      | ((with_reducible refine vCond_t ?_ ?_); (focus (simp only [lv, E1, E2, E5, ET, T, Int.toNat_natCast, Nat.div_one, Nat.mul_one, Int.reduceToNat, true_or, or_true, true_and, and_true, decide_true, decide_false, Bool.and_self, Bool.or_self, ↓reduceIte, ne_eq, not_false_eq_true, not_true_eq_false, reduceCtorEq, Nat.reduceLT, Nat.reduceEqDiff, Nat.reduceAdd, Nat.reduceMul, Nat.reduceLeDiff, Nat.reduceDiv, Nat.reduceMod, Nat.reduceSub, Nat.reduceBEq, List.length_nil]; done)))
      | ((with_reducible refine vCond_f ?_ ?_); (focus (simp only [lv, E1, E2, E5, ET, T, Int.toNat_natCast, Nat.div_one, Nat.mul_one, Int.reduceToNat, true_or, or_true, true_and, and_true, decide_true, decide_false, Bool.and_self, Bool.or_self, ↓reduceIte, ne_eq, not_false_eq_true, not_true_eq_false, reduceCtorEq, Nat.reduceLT, Nat.reduceEqDiff, Nat.reduceAdd, Nat.reduceMul, Nat.reduceLeDiff, Nat.reduceDiv, Nat.reduceMod, Nat.reduceSub, Nat.reduceBEq, List.length_nil]; done)))
      | ((with_reducible refine And.intro ?_ ?_); (focus (try omega)))
      | ((with_reducible apply orc_i); (focus (exact find_ok _ _ (by first | exact .inl rfl | exact .inr rfl); done)); (generalize hk : Kt _ _ _ _ _ _ _ _ _ = k; simp only [lv, E1, E2, E5, ET, T, Int.toNat_natCast, Nat.div_one, Nat.mul_one, Int.reduceToNat, true_or, or_true, true_and, and_true, decide_true, decide_false, Bool.and_self, Bool.or_self, ↓reduceIte, ne_eq, not_false_eq_true, not_true_eq_false, reduceCtorEq, Nat.reduceLT, Nat.reduceEqDiff, Nat.reduceAdd, Nat.reduceMul, Nat.reduceLeDiff, Nat.reduceDiv, Nat.reduceMod, Nat.reduceSub, Nat.reduceBEq, List.length_nil]; (try simp (disch := omega) only [wrap_in, Int.toNat_natCast]); subst hk))
    refine Kf_r ?_
    simp only [Tryz.f14, E4, E3, E2, E5, rawX, deadX, ET, T, true_or, or_true, true_and, and_true, decide_true, decide_false, Bool.and_self, Bool.or_self, ↓reduceIte, ne_eq, not_false_eq_true, not_true_eq_false, reduceCtorEq, Nat.reduceLT, Nat.reduceEqDiff, Nat.reduceAdd, Nat.reduceMul, Nat.reduceLeDiff, Nat.reduceDiv, Nat.reduceMod, Nat.reduceSub, Nat.reduceBEq, List.length_nil]
end Go.Proofs.YthcgpebhfhhafaaGreatDoorG
