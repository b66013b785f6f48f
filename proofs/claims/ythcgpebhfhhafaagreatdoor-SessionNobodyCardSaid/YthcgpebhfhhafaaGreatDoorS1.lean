import Derived.Test.YthcgpebhfhhafaaGreatDoorG17
namespace Go.Proofs.YthcgpebhfhhafaaGreatDoorG
open Go Go.RowKit Go.Proofs
set_option linter.unusedSimpArgs false
set_option linter.unusedVariables false
abbrev va (x : SV) : X := .p (.one (.v x))
/-- A store that is nil, or of which no call made anything. -/
def NoS (s : SV) : Prop := s = .raw (.pointer none) ∨ s = .pt [.sl 1 [], .sl 3 [], .sl 3 [], .raw (.int .i64 0), .raw (.int .i64 0), .raw (.int .i64 0), .raw (.int .i64 0), .raw (.int .i64 0), .raw (.int .i64 0), .raw (.pointer none), .raw (.pointer none), .raw (.pointer none), .raw (.pointer none), .raw (.int .i64 0), .raw (.bool false)] 0
/-- A desk that is nil, or of which no call made anything. -/
def NoD (s : SV) : Prop := s = .raw (.pointer none) ∨ s = .pt [.raw (.pointer none), .raw (.int .i64 0), .raw (.map none)] 0
set_option maxRecDepth 10000 in
theorem snone_ok (s : SV) (hs : NoS s) : CallOk Tryz.prog 39 [va s] (bo true) [] false := by
  rcases hs with rfl | rfl
  all_goals
    refine fn_ok' T_ok (orc_ok _) mixed Tryz.func39 rfl (by kernel_rfl) (lv [[0], [2]]) 12 rfl (by simp) rfl (by simp) ?_
    simp only [argsG, Nat.zero_add, Nat.reduceAdd]
    repeat' first
      | ((with_reducible refine vOps_cons' ?_)
         generalize hk : Kt _ _ _ _ _ _ _ _ _ = k
         simp only [Tryz.f39, lv, E1, E2, E5, ET, T, Int.toNat_natCast, Nat.div_one, Nat.mul_one, Int.reduceToNat, true_or, or_true, true_and, and_true, decide_true, decide_false, Bool.and_self, Bool.or_self, ↓reduceIte, ne_eq, not_false_eq_true, not_true_eq_false, reduceCtorEq, Nat.reduceLT, Nat.reduceEqDiff, Nat.reduceAdd, Nat.reduceMul, Nat.reduceLeDiff, Nat.reduceDiv, Nat.reduceMod, Nat.reduceSub, Nat.reduceBEq, List.length_nil]
         try simp (disch := omega) only [wrap_in, Int.toNat_natCast]
         subst hk)
      | with_reducible refine Kt_i ?_
      | ((with_reducible refine vB_i ?_ ?_) <;> intro hq <;> (first | (exfalso; omega) | (exact absurd trivial hq) | (try dsimp only [])))
      | ((with_reducible refine vOps_nil' ?_); refine Kr_i (by kernel_rfl) ?_; generalize hk : plain _ _ = G; simp only [lv, E3, E2, E5, rawX, deadX, true_or, or_true, true_and, and_true, decide_true, decide_false, Bool.and_self, Bool.or_self, ↓reduceIte, ne_eq, not_false_eq_true, not_true_eq_false, reduceCtorEq, Nat.reduceLT, Nat.reduceEqDiff, Nat.reduceAdd, Nat.reduceMul, Nat.reduceLeDiff, Nat.reduceDiv, Nat.reduceMod, Nat.reduceSub, Nat.reduceBEq, List.length_nil] at hk; subst hk)
      | with_reducible refine vSeq_i ?_
      | with_reducible refine vRegion_i (by kernel_rfl) ?_
      | with_reducible refine Kv_i ?_
      | ((with_reducible refine imp_i ?_); intro _)
      | with_reducible refine Ks_n ?_
      | with_reducible refine Ks_r ?_
      | with_reducible refine Ks_e ?_
      | with_reducible refine Kl_e ?_
      | with_reducible refine Kx_n ?_
      | with_reducible refine Kl_r ?_
      | with_reducible refine vRet_i ?_
      | with_reducible refine vSkip_i ?_
      | with_reducible refine vExit_i ?_
      | with_reducible refine vBlock_i ?_
      | with_reducible refine blk_n ?_
      | with_reducible refine blk_r ?_
      | with_reducible refine blk_e ?_
      | with_reducible refine blk_o (by decide) ?_
      | ((with_reducible refine vCond_t ?_ ?_); (focus (simp only [lv, E1, E2, E5, ET, T, Int.toNat_natCast, Nat.div_one, Nat.mul_one, Int.reduceToNat, true_or, or_true, true_and, and_true, decide_true, decide_false, Bool.and_self, Bool.or_self, ↓reduceIte, ne_eq, not_false_eq_true, not_true_eq_false, reduceCtorEq, Nat.reduceLT, Nat.reduceEqDiff, Nat.reduceAdd, Nat.reduceMul, Nat.reduceLeDiff, Nat.reduceDiv, Nat.reduceMod, Nat.reduceSub, Nat.reduceBEq, List.length_nil]; done)))
      | ((with_reducible refine vCond_f ?_ ?_); (focus (simp only [lv, E1, E2, E5, ET, T, Int.toNat_natCast, Nat.div_one, Nat.mul_one, Int.reduceToNat, true_or, or_true, true_and, and_true, decide_true, decide_false, Bool.and_self, Bool.or_self, ↓reduceIte, ne_eq, not_false_eq_true, not_true_eq_false, reduceCtorEq, Nat.reduceLT, Nat.reduceEqDiff, Nat.reduceAdd, Nat.reduceMul, Nat.reduceLeDiff, Nat.reduceDiv, Nat.reduceMod, Nat.reduceSub, Nat.reduceBEq, List.length_nil]; done)))
      | ((with_reducible refine And.intro ?_ ?_); (focus (try omega)))
    refine Kf_r ?_
    simp only [Tryz.f39, E4, E3, E2, E5, rawX, deadX, ET, T, true_or, or_true, true_and, and_true, decide_true, decide_false, Bool.and_self, Bool.or_self, ↓reduceIte, ne_eq, not_false_eq_true, not_true_eq_false, reduceCtorEq, Nat.reduceLT, Nat.reduceEqDiff, Nat.reduceAdd, Nat.reduceMul, Nat.reduceLeDiff, Nat.reduceDiv, Nat.reduceMod, Nat.reduceSub, Nat.reduceBEq, List.length_nil]
set_option maxRecDepth 10000 in
theorem dnone_ok (s : SV) (hs : NoD s) : CallOk Tryz.prog 16 [va s] (bo true) [] false := by
  rcases hs with rfl | rfl
  all_goals
    refine fn_ok' T_ok (orc_ok _) mixed Tryz.func16 rfl (by kernel_rfl) (lv [[0], [2]]) 12 rfl (by simp) rfl (by simp) ?_
    simp only [argsG, Nat.zero_add, Nat.reduceAdd]
    repeat' first
      | ((with_reducible refine vOps_cons' ?_)
         generalize hk : Kt _ _ _ _ _ _ _ _ _ = k
         simp only [Tryz.f16, lv, E1, E2, E5, ET, T, Int.toNat_natCast, Nat.div_one, Nat.mul_one, Int.reduceToNat, true_or, or_true, true_and, and_true, decide_true, decide_false, Bool.and_self, Bool.or_self, ↓reduceIte, ne_eq, not_false_eq_true, not_true_eq_false, reduceCtorEq, Nat.reduceLT, Nat.reduceEqDiff, Nat.reduceAdd, Nat.reduceMul, Nat.reduceLeDiff, Nat.reduceDiv, Nat.reduceMod, Nat.reduceSub, Nat.reduceBEq, List.length_nil]
         try simp (disch := omega) only [wrap_in, Int.toNat_natCast]
         subst hk)
      | with_reducible refine Kt_i ?_
      | ((with_reducible refine vB_i ?_ ?_) <;> intro hq <;> (first | (exfalso; omega) | (exact absurd trivial hq) | (try dsimp only [])))
      | ((with_reducible refine vOps_nil' ?_); refine Kr_i (by kernel_rfl) ?_; generalize hk : plain _ _ = G; simp only [lv, E3, E2, E5, rawX, deadX, true_or, or_true, true_and, and_true, decide_true, decide_false, Bool.and_self, Bool.or_self, ↓reduceIte, ne_eq, not_false_eq_true, not_true_eq_false, reduceCtorEq, Nat.reduceLT, Nat.reduceEqDiff, Nat.reduceAdd, Nat.reduceMul, Nat.reduceLeDiff, Nat.reduceDiv, Nat.reduceMod, Nat.reduceSub, Nat.reduceBEq, List.length_nil] at hk; subst hk)
      | with_reducible refine vSeq_i ?_
      | with_reducible refine vRegion_i (by kernel_rfl) ?_
      | with_reducible refine Kv_i ?_
      | ((with_reducible refine imp_i ?_); intro _)
      | with_reducible refine Ks_n ?_
      | with_reducible refine Ks_r ?_
      | with_reducible refine Ks_e ?_
      | with_reducible refine Kl_e ?_
      | with_reducible refine Kx_n ?_
      | with_reducible refine Kl_r ?_
      | with_reducible refine vRet_i ?_
      | with_reducible refine vSkip_i ?_
      | with_reducible refine vExit_i ?_
      | with_reducible refine vBlock_i ?_
      | with_reducible refine blk_n ?_
      | with_reducible refine blk_r ?_
      | with_reducible refine blk_e ?_
      | with_reducible refine blk_o (by decide) ?_
      | ((with_reducible refine vCond_t ?_ ?_); (focus (simp only [lv, E1, E2, E5, ET, T, Int.toNat_natCast, Nat.div_one, Nat.mul_one, Int.reduceToNat, true_or, or_true, true_and, and_true, decide_true, decide_false, Bool.and_self, Bool.or_self, ↓reduceIte, ne_eq, not_false_eq_true, not_true_eq_false, reduceCtorEq, Nat.reduceLT, Nat.reduceEqDiff, Nat.reduceAdd, Nat.reduceMul, Nat.reduceLeDiff, Nat.reduceDiv, Nat.reduceMod, Nat.reduceSub, Nat.reduceBEq, List.length_nil]; done)))
      | ((with_reducible refine vCond_f ?_ ?_); (focus (simp only [lv, E1, E2, E5, ET, T, Int.toNat_natCast, Nat.div_one, Nat.mul_one, Int.reduceToNat, true_or, or_true, true_and, and_true, decide_true, decide_false, Bool.and_self, Bool.or_self, ↓reduceIte, ne_eq, not_false_eq_true, not_true_eq_false, reduceCtorEq, Nat.reduceLT, Nat.reduceEqDiff, Nat.reduceAdd, Nat.reduceMul, Nat.reduceLeDiff, Nat.reduceDiv, Nat.reduceMod, Nat.reduceSub, Nat.reduceBEq, List.length_nil]; done)))
      | ((with_reducible refine And.intro ?_ ?_); (focus (try omega)))
    refine Kf_r ?_
    simp only [Tryz.f16, E4, E3, E2, E5, rawX, deadX, ET, T, true_or, or_true, true_and, and_true, decide_true, decide_false, Bool.and_self, Bool.or_self, ↓reduceIte, ne_eq, not_false_eq_true, not_true_eq_false, reduceCtorEq, Nat.reduceLT, Nat.reduceEqDiff, Nat.reduceAdd, Nat.reduceMul, Nat.reduceLeDiff, Nat.reduceDiv, Nat.reduceMod, Nat.reduceSub, Nat.reduceBEq, List.length_nil]
set_option maxRecDepth 10000 in
theorem find_ok (d : SV) (id : Int) (hd : NoD d) : CallOk Tryz.prog 17 [va d, i64 id] (.tup [.agg [.v (.raw (.int .i64 0)), .v (.raw (.int .i64 0))], .one (.v (.raw (.int .i64 1)))]) [] false := by
  rcases hd with rfl | rfl
  all_goals
    refine fn_ok' T_ok (orc_ok _) mixed Tryz.func17 rfl (by kernel_rfl) (lv [[0, 1, 4], [0, 1, 4, 9], [4, 5], [4, 6, 7], [4, 6, 21], [4, 5], [4, 5]]) 24 rfl (by simp) rfl (by simp) ?_
    simp only [argsG, Nat.zero_add, Nat.reduceAdd]
    repeat' first
      | ((with_reducible refine vOps_cons' ?_)
         generalize hk : Kt _ _ _ _ _ _ _ _ _ = k
         simp only [Tryz.f17, lv, E1, E2, E5, ET, T, Int.toNat_natCast, Nat.div_one, Nat.mul_one, Int.reduceToNat, true_or, or_true, true_and, and_true, decide_true, decide_false, Bool.and_self, Bool.or_self, ↓reduceIte, ne_eq, not_false_eq_true, not_true_eq_false, reduceCtorEq, Nat.reduceLT, Nat.reduceEqDiff, Nat.reduceAdd, Nat.reduceMul, Nat.reduceLeDiff, Nat.reduceDiv, Nat.reduceMod, Nat.reduceSub, Nat.reduceBEq, List.length_nil]
         try simp (disch := omega) only [wrap_in, Int.toNat_natCast]
         subst hk)
      | with_reducible refine Kt_i ?_
      | ((with_reducible refine vB_i ?_ ?_) <;> intro hq <;> (first | (exfalso; omega) | (exact absurd trivial hq) | (try dsimp only [])))
      | ((with_reducible refine vOps_nil' ?_); refine Kr_i (by kernel_rfl) ?_; generalize hk : plain _ _ = G; simp only [lv, E3, E2, E5, rawX, deadX, true_or, or_true, true_and, and_true, decide_true, decide_false, Bool.and_self, Bool.or_self, ↓reduceIte, ne_eq, not_false_eq_true, not_true_eq_false, reduceCtorEq, Nat.reduceLT, Nat.reduceEqDiff, Nat.reduceAdd, Nat.reduceMul, Nat.reduceLeDiff, Nat.reduceDiv, Nat.reduceMod, Nat.reduceSub, Nat.reduceBEq, List.length_nil] at hk; subst hk)
      | with_reducible refine vSeq_i ?_
      | with_reducible refine vRegion_i (by kernel_rfl) ?_
      | with_reducible refine Kv_i ?_
      | ((with_reducible refine imp_i ?_); intro _)
      | with_reducible refine Ks_n ?_
      | with_reducible refine Ks_r ?_
      | with_reducible refine Ks_e ?_
      | with_reducible refine Kl_e ?_
      | with_reducible refine Kx_n ?_
      | with_reducible refine Kl_r ?_
      | with_reducible refine vRet_i ?_
      | with_reducible refine vSkip_i ?_
      | with_reducible refine vExit_i ?_
      | with_reducible refine vBlock_i ?_
      | with_reducible refine blk_n ?_
      | with_reducible refine blk_r ?_
      | with_reducible refine blk_e ?_
      | with_reducible refine blk_o (by decide) ?_
      | ((with_reducible refine vCond_t ?_ ?_); (focus (simp only [lv, E1, E2, E5, ET, T, Int.toNat_natCast, Nat.div_one, Nat.mul_one, Int.reduceToNat, true_or, or_true, true_and, and_true, decide_true, decide_false, Bool.and_self, Bool.or_self, ↓reduceIte, ne_eq, not_false_eq_true, not_true_eq_false, reduceCtorEq, Nat.reduceLT, Nat.reduceEqDiff, Nat.reduceAdd, Nat.reduceMul, Nat.reduceLeDiff, Nat.reduceDiv, Nat.reduceMod, Nat.reduceSub, Nat.reduceBEq, List.length_nil]; done)))
      | ((with_reducible refine vCond_f ?_ ?_); (focus (simp only [lv, E1, E2, E5, ET, T, Int.toNat_natCast, Nat.div_one, Nat.mul_one, Int.reduceToNat, true_or, or_true, true_and, and_true, decide_true, decide_false, Bool.and_self, Bool.or_self, ↓reduceIte, ne_eq, not_false_eq_true, not_true_eq_false, reduceCtorEq, Nat.reduceLT, Nat.reduceEqDiff, Nat.reduceAdd, Nat.reduceMul, Nat.reduceLeDiff, Nat.reduceDiv, Nat.reduceMod, Nat.reduceSub, Nat.reduceBEq, List.length_nil]; done)))
      | ((with_reducible refine And.intro ?_ ?_); (focus (try omega)))
      | ((with_reducible apply orc_i); (focus (exact dnone_ok _ (by first | exact .inl rfl | exact .inr rfl); done)); (generalize hk : Kt _ _ _ _ _ _ _ _ _ = k; simp only [lv, E1, E2, E5, ET, T, Int.toNat_natCast, Nat.div_one, Nat.mul_one, Int.reduceToNat, true_or, or_true, true_and, and_true, decide_true, decide_false, Bool.and_self, Bool.or_self, ↓reduceIte, ne_eq, not_false_eq_true, not_true_eq_false, reduceCtorEq, Nat.reduceLT, Nat.reduceEqDiff, Nat.reduceAdd, Nat.reduceMul, Nat.reduceLeDiff, Nat.reduceDiv, Nat.reduceMod, Nat.reduceSub, Nat.reduceBEq, List.length_nil]; (try simp (disch := omega) only [wrap_in, Int.toNat_natCast]); subst hk))
    refine Kf_r ?_
    simp only [Tryz.f17, E4, E3, E2, E5, rawX, deadX, ET, T, true_or, or_true, true_and, and_true, decide_true, decide_false, Bool.and_self, Bool.or_self, ↓reduceIte, ne_eq, not_false_eq_true, not_true_eq_false, reduceCtorEq, Nat.reduceLT, Nat.reduceEqDiff, Nat.reduceAdd, Nat.reduceMul, Nat.reduceLeDiff, Nat.reduceDiv, Nat.reduceMod, Nat.reduceSub, Nat.reduceBEq, List.length_nil]
end Go.Proofs.YthcgpebhfhhafaaGreatDoorG
