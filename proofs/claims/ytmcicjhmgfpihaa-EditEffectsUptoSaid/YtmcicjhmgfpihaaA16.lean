import Derived.Test.YtmcicjhmgfpihaaA14
import Derived.Test.YtmcicjhmgfpihaaA12
namespace Go.Proofs.YtmcicjhmgfpihaaG
open Go Go.RowKit Go.Proofs
set_option linter.unusedSimpArgs false
set_option linter.unusedVariables false
set_option maxRecDepth 10000 in
set_option maxHeartbeats 4000000 in
theorem copy_ok (s : St) (hs : s.small) : CallOk Try.prog 10 [s.x] s.x [] false := by
  obtain ⟨ht, hu, hr, hul, hrl⟩ := hs
  refine fn_ok' T_ok (orc_ok _) mixed Try.func10 rfl (by kernel_rfl) (lv [[1, 2, 1000002], [1, 2, 3], [1, 2, 3, 4], [1, 2, 3, 4, 15], [1, 2, 3, 4], [1, 2, 3, 4], [1, 2, 3, 5], [1, 2, 3, 5, 34], [1, 2, 3, 5], [1, 2, 3, 5], [2, 1000002]]) 50 rfl (by simp) rfl (by simp) ?_
  simp only [argsG, Nat.zero_add, Nat.reduceAdd, St.x]
  repeat' first
    | ((with_reducible refine vOps_cons' ?_)
       generalize hk : Kt _ _ _ _ _ _ _ _ _ = k
       simp only [Try.f10, lv, E1, E2, E5, ET, T, Int.toNat_natCast, Nat.div_one, Nat.mul_one, Int.reduceToNat, true_or, or_true, true_and, and_true, decide_true, decide_false, Bool.and_self, Bool.or_self, ↓reduceIte, ne_eq, not_false_eq_true, not_true_eq_false, reduceCtorEq, Nat.reduceLT, Nat.reduceEqDiff, Nat.reduceAdd, Nat.reduceMul, Nat.reduceLeDiff, Nat.reduceDiv, Nat.reduceMod, Nat.reduceSub, Nat.reduceBEq, rn_len, chs_len, chs_cnt, List.length_map, Ch.inv, St.x]
       try simp (disch := omega) only [wrap_in, Int.toNat_natCast, tv_rn, tv_ch0, tv_ch1, tv_ch2]
       subst hk)
    | with_reducible refine Kt_i ?_
    | ((with_reducible refine vB_i ?_ ?_) <;> intro _ <;> (first | (exfalso; omega) | (try dsimp only [])))
    | ((with_reducible refine vOps_nil' ?_); refine Kr_i (by kernel_rfl) ?_; generalize hk : plain _ _ = G; simp only [lv, E3, E2, E5, rawX, deadX, true_or, or_true, true_and, and_true, decide_true, decide_false, Bool.and_self, Bool.or_self, ↓reduceIte, ne_eq, not_false_eq_true, not_true_eq_false, reduceCtorEq, Nat.reduceLT, Nat.reduceEqDiff, Nat.reduceAdd, Nat.reduceMul, Nat.reduceLeDiff, Nat.reduceDiv, Nat.reduceMod, Nat.reduceSub, Nat.reduceBEq, rn_len, chs_len, chs_cnt, List.length_map, Ch.inv, St.x] at hk; subst hk)
    | with_reducible refine vSeq_i ?_
    | with_reducible refine vRegion_i (by kernel_rfl) ?_
    | ((with_reducible refine vRegion_s ?_); generalize hk : Kv _ _ _ _ _ _ _ = k; simp only [lv, E1, E2, E5, ET, T, Int.toNat_natCast, Nat.div_one, Nat.mul_one, Int.reduceToNat, true_or, or_true, true_and, and_true, decide_true, decide_false, Bool.and_self, Bool.or_self, ↓reduceIte, ne_eq, not_false_eq_true, not_true_eq_false, reduceCtorEq, Nat.reduceLT, Nat.reduceEqDiff, Nat.reduceAdd, Nat.reduceMul, Nat.reduceLeDiff, Nat.reduceDiv, Nat.reduceMod, Nat.reduceSub, Nat.reduceBEq, rn_len, chs_len, chs_cnt, List.length_map, Ch.inv, St.x, vSpl, splT, List.getElem?_cons_zero, List.getElem?_cons_succ, List.set_cons_zero, List.set_cons_succ]; subst hk)
    | with_reducible refine Kv_i ?_
    | ((with_reducible refine imp_i ?_); intro _)
    | with_reducible refine Ks_n ?_
    | with_reducible refine Ks_r ?_
    | with_reducible refine Ks_e ?_
    | with_reducible refine Kl_e ?_
    | with_reducible refine Kx_n ?_
    | with_reducible refine Kl_r ?_
    | with_reducible refine vRet_i ?_
    | with_reducible refine vSkip_i ?_
    | with_reducible refine vExit_i ?_
    | with_reducible refine vBlock_i ?_
    | with_reducible refine blk_n ?_
    | with_reducible refine blk_r ?_
    | with_reducible refine blk_e ?_
    | with_reducible refine blk_o (by decide) ?_
    | ((with_reducible refine vCond_t ?_ ?_); (focus (simp only [lv, E1, E2, E5, ET, T, Int.toNat_natCast, Nat.div_one, Nat.mul_one, Int.reduceToNat, true_or, or_true, true_and, and_true, decide_true, decide_false, Bool.and_self, Bool.or_self, ↓reduceIte, ne_eq, not_false_eq_true, not_true_eq_false, reduceCtorEq, Nat.reduceLT, Nat.reduceEqDiff, Nat.reduceAdd, Nat.reduceMul, Nat.reduceLeDiff, Nat.reduceDiv, Nat.reduceMod, Nat.reduceSub, Nat.reduceBEq, rn_len, chs_len, chs_cnt, List.length_map, Ch.inv, St.x]; done)))
    | ((with_reducible refine vCond_f ?_ ?_); (focus (simp only [lv, E1, E2, E5, ET, T, Int.toNat_natCast, Nat.div_one, Nat.mul_one, Int.reduceToNat, true_or, or_true, true_and, and_true, decide_true, decide_false, Bool.and_self, Bool.or_self, ↓reduceIte, ne_eq, not_false_eq_true, not_true_eq_false, reduceCtorEq, Nat.reduceLT, Nat.reduceEqDiff, Nat.reduceAdd, Nat.reduceMul, Nat.reduceLeDiff, Nat.reduceDiv, Nat.reduceMod, Nat.reduceSub, Nat.reduceBEq, rn_len, chs_len, chs_cnt, List.length_map, Ch.inv, St.x]; done)))
    | ((with_reducible refine And.intro ?_ ?_); (focus (try omega)))
  all_goals try omega
  refine vLoop_s (fun k : Nat => [(.t 1, .t (.p (.one (.pr 0 0)))), (.t 2, .t (.p (.one (.pr 1 0)))), (.t 3, .t (.p (.one (.pr 2 0)))), (.t 4, .t (i64 k)), (.box 0, .box 25 [.v (.sl 1 (rn s.text)), .v (.sl 3 (chs s.undo)), .v (.sl 3 (chs s.redo))]), (.box 1, .box 25 [.v (.sl 1 []), .v (.sl 3 []), .v (.sl 3 [])]), (.box 2, .box 25 [.sr 3, .sr 4, .sr 5]), (.row 3, .row 21 1 (rn s.text)), (.row 4, .row 42 3 (chs (s.undo.take k))), (.row 5, .row 42 3 [])]) (fun k => k ≤ s.undo.length) (fun k => s.undo.length - k) 0 (by omega) (by simp only [List.take_zero, chs_nil]; rfl) ?_
  intro k hk
  repeat' first
    | ((with_reducible refine vOps_cons' ?_)
       generalize hk : Kt _ _ _ _ _ _ _ _ _ = k
       simp only [Try.f10, lv, E1, E2, E5, ET, T, Int.toNat_natCast, Nat.div_one, Nat.mul_one, Int.reduceToNat, true_or, or_true, true_and, and_true, decide_true, decide_false, Bool.and_self, Bool.or_self, ↓reduceIte, ne_eq, not_false_eq_true, not_true_eq_false, reduceCtorEq, Nat.reduceLT, Nat.reduceEqDiff, Nat.reduceAdd, Nat.reduceMul, Nat.reduceLeDiff, Nat.reduceDiv, Nat.reduceMod, Nat.reduceSub, Nat.reduceBEq, rn_len, chs_len, chs_cnt, List.length_map, Ch.inv, St.x]
       try simp (disch := omega) only [wrap_in, Int.toNat_natCast, tv_rn, tv_ch0, tv_ch1, tv_ch2]
       subst hk)
    | with_reducible refine Kt_i ?_
    | ((with_reducible refine vB_i ?_ ?_) <;> intro _ <;> (first | (exfalso; omega) | (try dsimp only [])))
    | ((with_reducible refine vOps_nil' ?_); refine Kr_i (by kernel_rfl) ?_; generalize hk : plain _ _ = G; simp only [lv, E3, E2, E5, rawX, deadX, true_or, or_true, true_and, and_true, decide_true, decide_false, Bool.and_self, Bool.or_self, ↓reduceIte, ne_eq, not_false_eq_true, not_true_eq_false, reduceCtorEq, Nat.reduceLT, Nat.reduceEqDiff, Nat.reduceAdd, Nat.reduceMul, Nat.reduceLeDiff, Nat.reduceDiv, Nat.reduceMod, Nat.reduceSub, Nat.reduceBEq, rn_len, chs_len, chs_cnt, List.length_map, Ch.inv, St.x] at hk; subst hk)
    | with_reducible refine vSeq_i ?_
    | with_reducible refine vRegion_i (by kernel_rfl) ?_
    | ((with_reducible refine vRegion_s ?_); generalize hk : Kv _ _ _ _ _ _ _ = k; simp only [lv, E1, E2, E5, ET, T, Int.toNat_natCast, Nat.div_one, Nat.mul_one, Int.reduceToNat, true_or, or_true, true_and, and_true, decide_true, decide_false, Bool.and_self, Bool.or_self, ↓reduceIte, ne_eq, not_false_eq_true, not_true_eq_false, reduceCtorEq, Nat.reduceLT, Nat.reduceEqDiff, Nat.reduceAdd, Nat.reduceMul, Nat.reduceLeDiff, Nat.reduceDiv, Nat.reduceMod, Nat.reduceSub, Nat.reduceBEq, rn_len, chs_len, chs_cnt, List.length_map, Ch.inv, St.x, vSpl, splT, List.getElem?_cons_zero, List.getElem?_cons_succ, List.set_cons_zero, List.set_cons_succ]; subst hk)
    | with_reducible refine Kv_i ?_
    | ((with_reducible refine imp_i ?_); intro _)
    | with_reducible refine Ks_n ?_
    | with_reducible refine Ks_r ?_
    | with_reducible refine Ks_e ?_
    | with_reducible refine Kl_e ?_
    | with_reducible refine Kx_n ?_
    | with_reducible refine Kl_r ?_
    | with_reducible refine vRet_i ?_
    | with_reducible refine vSkip_i ?_
    | with_reducible refine vExit_i ?_
    | with_reducible refine vBlock_i ?_
    | with_reducible refine blk_n ?_
    | with_reducible refine blk_r ?_
    | with_reducible refine blk_e ?_
    | with_reducible refine blk_o (by decide) ?_
    | ((with_reducible refine vCond_t ?_ ?_); (focus (simp only [lv, E1, E2, E5, ET, T, Int.toNat_natCast, Nat.div_one, Nat.mul_one, Int.reduceToNat, true_or, or_true, true_and, and_true, decide_true, decide_false, Bool.and_self, Bool.or_self, ↓reduceIte, ne_eq, not_false_eq_true, not_true_eq_false, reduceCtorEq, Nat.reduceLT, Nat.reduceEqDiff, Nat.reduceAdd, Nat.reduceMul, Nat.reduceLeDiff, Nat.reduceDiv, Nat.reduceMod, Nat.reduceSub, Nat.reduceBEq, rn_len, chs_len, chs_cnt, List.length_map, Ch.inv, St.x]; done)))
    | ((with_reducible refine vCond_f ?_ ?_); (focus (simp only [lv, E1, E2, E5, ET, T, Int.toNat_natCast, Nat.div_one, Nat.mul_one, Int.reduceToNat, true_or, or_true, true_and, and_true, decide_true, decide_false, Bool.and_self, Bool.or_self, ↓reduceIte, ne_eq, not_false_eq_true, not_true_eq_false, reduceCtorEq, Nat.reduceLT, Nat.reduceEqDiff, Nat.reduceAdd, Nat.reduceMul, Nat.reduceLeDiff, Nat.reduceDiv, Nat.reduceMod, Nat.reduceSub, Nat.reduceBEq, rn_len, chs_len, chs_cnt, List.length_map, Ch.inv, St.x]; done)))
    | ((with_reducible refine And.intro ?_ ?_); (focus (try omega)))
    | ((with_reducible apply orc_i); (focus (exact turned_ok (s.undo.getD k noCh) (hu _ (mem_getD (by omega))); done)); (generalize hk : Kt _ _ _ _ _ _ _ _ _ = k; simp only [lv, E1, E2, E5, ET, T, Int.toNat_natCast, Nat.div_one, Nat.mul_one, Int.reduceToNat, true_or, or_true, true_and, and_true, decide_true, decide_false, Bool.and_self, Bool.or_self, ↓reduceIte, ne_eq, not_false_eq_true, not_true_eq_false, reduceCtorEq, Nat.reduceLT, Nat.reduceEqDiff, Nat.reduceAdd, Nat.reduceMul, Nat.reduceLeDiff, Nat.reduceDiv, Nat.reduceMod, Nat.reduceSub, Nat.reduceBEq, rn_len, chs_len, chs_cnt, List.length_map, Ch.inv, St.x]; (try simp (disch := omega) only [wrap_in, Int.toNat_natCast, tv_rn, tv_ch0, tv_ch1, tv_ch2]); subst hk))
    | ((with_reducible apply orc_i); (focus (exact turned_ok (Ch.inv (s.undo.getD k noCh)) (And.symm (hu _ (mem_getD (by omega)))); done)); (generalize hk : Kt _ _ _ _ _ _ _ _ _ = k; simp only [lv, E1, E2, E5, ET, T, Int.toNat_natCast, Nat.div_one, Nat.mul_one, Int.reduceToNat, true_or, or_true, true_and, and_true, decide_true, decide_false, Bool.and_self, Bool.or_self, ↓reduceIte, ne_eq, not_false_eq_true, not_true_eq_false, reduceCtorEq, Nat.reduceLT, Nat.reduceEqDiff, Nat.reduceAdd, Nat.reduceMul, Nat.reduceLeDiff, Nat.reduceDiv, Nat.reduceMod, Nat.reduceSub, Nat.reduceBEq, rn_len, chs_len, chs_cnt, List.length_map, Ch.inv, St.x]; (try simp (disch := omega) only [wrap_in, Int.toNat_natCast, tv_rn, tv_ch0, tv_ch1, tv_ch2]); subst hk))
  all_goals try (simp only [cnt, List.length_append, List.length_cons, List.length_nil, chs_len, List.length_take]; omega)
  · refine Kl_n ⟨k + 1, by omega, by omega, ?_⟩
    rw [chs_take1 (by omega)]
    simp only [Int.natCast_add, Int.natCast_one]
  rename_i hlast
  rw [List.take_of_length_le (by omega)]
  refine vLoop_s (fun k : Nat => [(.t 1, .t (.p (.one (.pr 0 0)))), (.t 2, .t (.p (.one (.pr 1 0)))), (.t 3, .t (.p (.one (.pr 2 0)))), (.t 5, .t (i64 k)), (.box 0, .box 25 [.v (.sl 1 (rn s.text)), .v (.sl 3 (chs s.undo)), .v (.sl 3 (chs s.redo))]), (.box 1, .box 25 [.v (.sl 1 []), .v (.sl 3 []), .v (.sl 3 [])]), (.box 2, .box 25 [.sr 3, .sr 4, .sr 5]), (.row 3, .row 21 1 (rn s.text)), (.row 4, .row 42 3 (chs s.undo)), (.row 5, .row 42 3 (chs (s.redo.take k)))]) (fun k => k ≤ s.redo.length) (fun k => s.redo.length - k) 0 (by omega) (by simp only [List.take_zero, chs_nil]; rfl) ?_
  intro k hk
  repeat' first
    | ((with_reducible refine vOps_cons' ?_)
       generalize hk : Kt _ _ _ _ _ _ _ _ _ = k
       simp only [Try.f10, lv, E1, E2, E5, ET, T, Int.toNat_natCast, Nat.div_one, Nat.mul_one, Int.reduceToNat, true_or, or_true, true_and, and_true, decide_true, decide_false, Bool.and_self, Bool.or_self, ↓reduceIte, ne_eq, not_false_eq_true, not_true_eq_false, reduceCtorEq, Nat.reduceLT, Nat.reduceEqDiff, Nat.reduceAdd, Nat.reduceMul, Nat.reduceLeDiff, Nat.reduceDiv, Nat.reduceMod, Nat.reduceSub, Nat.reduceBEq, rn_len, chs_len, chs_cnt, List.length_map, Ch.inv, St.x]
       try simp (disch := omega) only [wrap_in, Int.toNat_natCast, tv_rn, tv_ch0, tv_ch1, tv_ch2]
       subst hk)
    | with_reducible refine Kt_i ?_
    | ((with_reducible refine vB_i ?_ ?_) <;> intro _ <;> (first | (exfalso; omega) | (try dsimp only [])))
    | ((with_reducible refine vOps_nil' ?_); refine Kr_i (by kernel_rfl) ?_; generalize hk : plain _ _ = G; simp only [lv, E3, E2, E5, rawX, deadX, true_or, or_true, true_and, and_true, decide_true, decide_false, Bool.and_self, Bool.or_self, ↓reduceIte, ne_eq, not_false_eq_true, not_true_eq_false, reduceCtorEq, Nat.reduceLT, Nat.reduceEqDiff, Nat.reduceAdd, Nat.reduceMul, Nat.reduceLeDiff, Nat.reduceDiv, Nat.reduceMod, Nat.reduceSub, Nat.reduceBEq, rn_len, chs_len, chs_cnt, List.length_map, Ch.inv, St.x] at hk; subst hk)
    | with_reducible refine vSeq_i ?_
    | with_reducible refine vRegion_i (by kernel_rfl) ?_
    | ((with_reducible refine vRegion_s ?_); generalize hk : Kv _ _ _ _ _ _ _ = k; simp only [lv, E1, E2, E5, ET, T, Int.toNat_natCast, Nat.div_one, Nat.mul_one, Int.reduceToNat, true_or, or_true, true_and, and_true, decide_true, decide_false, Bool.and_self, Bool.or_self, ↓reduceIte, ne_eq, not_false_eq_true, not_true_eq_false, reduceCtorEq, Nat.reduceLT, Nat.reduceEqDiff, Nat.reduceAdd, Nat.reduceMul, Nat.reduceLeDiff, Nat.reduceDiv, Nat.reduceMod, Nat.reduceSub, Nat.reduceBEq, rn_len, chs_len, chs_cnt, List.length_map, Ch.inv, St.x, vSpl, splT, List.getElem?_cons_zero, List.getElem?_cons_succ, List.set_cons_zero, List.set_cons_succ]; subst hk)
    | with_reducible refine Kv_i ?_
    | ((with_reducible refine imp_i ?_); intro _)
    | with_reducible refine Ks_n ?_
    | with_reducible refine Ks_r ?_
    | with_reducible refine Ks_e ?_
    | with_reducible refine Kl_e ?_
    | with_reducible refine Kx_n ?_
    | with_reducible refine Kl_r ?_
    | with_reducible refine vRet_i ?_
    | with_reducible refine vSkip_i ?_
    | with_reducible refine vExit_i ?_
    | with_reducible refine vBlock_i ?_
    | with_reducible refine blk_n ?_
    | with_reducible refine blk_r ?_
    | with_reducible refine blk_e ?_
    | with_reducible refine blk_o (by decide) ?_
    | ((with_reducible refine vCond_t ?_ ?_); (focus (simp only [lv, E1, E2, E5, ET, T, Int.toNat_natCast, Nat.div_one, Nat.mul_one, Int.reduceToNat, true_or, or_true, true_and, and_true, decide_true, decide_false, Bool.and_self, Bool.or_self, ↓reduceIte, ne_eq, not_false_eq_true, not_true_eq_false, reduceCtorEq, Nat.reduceLT, Nat.reduceEqDiff, Nat.reduceAdd, Nat.reduceMul, Nat.reduceLeDiff, Nat.reduceDiv, Nat.reduceMod, Nat.reduceSub, Nat.reduceBEq, rn_len, chs_len, chs_cnt, List.length_map, Ch.inv, St.x]; done)))
    | ((with_reducible refine vCond_f ?_ ?_); (focus (simp only [lv, E1, E2, E5, ET, T, Int.toNat_natCast, Nat.div_one, Nat.mul_one, Int.reduceToNat, true_or, or_true, true_and, and_true, decide_true, decide_false, Bool.and_self, Bool.or_self, ↓reduceIte, ne_eq, not_false_eq_true, not_true_eq_false, reduceCtorEq, Nat.reduceLT, Nat.reduceEqDiff, Nat.reduceAdd, Nat.reduceMul, Nat.reduceLeDiff, Nat.reduceDiv, Nat.reduceMod, Nat.reduceSub, Nat.reduceBEq, rn_len, chs_len, chs_cnt, List.length_map, Ch.inv, St.x]; done)))
    | ((with_reducible refine And.intro ?_ ?_); (focus (try omega)))
    | ((with_reducible apply orc_i); (focus (exact turned_ok (s.redo.getD k noCh) (hr _ (mem_getD (by omega))); done)); (generalize hk : Kt _ _ _ _ _ _ _ _ _ = k; simp only [lv, E1, E2, E5, ET, T, Int.toNat_natCast, Nat.div_one, Nat.mul_one, Int.reduceToNat, true_or, or_true, true_and, and_true, decide_true, decide_false, Bool.and_self, Bool.or_self, ↓reduceIte, ne_eq, not_false_eq_true, not_true_eq_false, reduceCtorEq, Nat.reduceLT, Nat.reduceEqDiff, Nat.reduceAdd, Nat.reduceMul, Nat.reduceLeDiff, Nat.reduceDiv, Nat.reduceMod, Nat.reduceSub, Nat.reduceBEq, rn_len, chs_len, chs_cnt, List.length_map, Ch.inv, St.x]; (try simp (disch := omega) only [wrap_in, Int.toNat_natCast, tv_rn, tv_ch0, tv_ch1, tv_ch2]); subst hk))
    | ((with_reducible apply orc_i); (focus (exact turned_ok (Ch.inv (s.redo.getD k noCh)) (And.symm (hr _ (mem_getD (by omega)))); done)); (generalize hk : Kt _ _ _ _ _ _ _ _ _ = k; simp only [lv, E1, E2, E5, ET, T, Int.toNat_natCast, Nat.div_one, Nat.mul_one, Int.reduceToNat, true_or, or_true, true_and, and_true, decide_true, decide_false, Bool.and_self, Bool.or_self, ↓reduceIte, ne_eq, not_false_eq_true, not_true_eq_false, reduceCtorEq, Nat.reduceLT, Nat.reduceEqDiff, Nat.reduceAdd, Nat.reduceMul, Nat.reduceLeDiff, Nat.reduceDiv, Nat.reduceMod, Nat.reduceSub, Nat.reduceBEq, rn_len, chs_len, chs_cnt, List.length_map, Ch.inv, St.x]; (try simp (disch := omega) only [wrap_in, Int.toNat_natCast, tv_rn, tv_ch0, tv_ch1, tv_ch2]); subst hk))
  all_goals try (simp only [cnt, List.length_append, List.length_cons, List.length_nil, chs_len, List.length_take]; omega)
  · refine Kl_n ⟨k + 1, by omega, by omega, ?_⟩
    rw [chs_take1 (by omega)]
    simp only [Int.natCast_add, Int.natCast_one]
  rename_i hlast
  rw [List.take_of_length_le (by omega)]
  refine Kf_r ?_
  simp only [Try.f10, E4, E3, E2, E5, rawX, deadX, ET, T, true_or, or_true, true_and, and_true, decide_true, decide_false, Bool.and_self, Bool.or_self, ↓reduceIte, ne_eq, not_false_eq_true, not_true_eq_false, reduceCtorEq, Nat.reduceLT, Nat.reduceEqDiff, Nat.reduceAdd, Nat.reduceMul, Nat.reduceLeDiff, Nat.reduceDiv, Nat.reduceMod, Nat.reduceSub, Nat.reduceBEq, rn_len, chs_len, chs_cnt, List.length_map, Ch.inv, St.x, St.x]
end Go.Proofs.YtmcicjhmgfpihaaG
